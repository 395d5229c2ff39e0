/- The walks of the rules of events. Conditions: none. -/
import Derived.Test.YtfmcbdjnmlcacaaGreatDoorWAlG
set_option linter.unusedSectionVars false
set_option linter.unusedSimpArgs false
set_option linter.unusedVariables false
set_option maxRecDepth 10000
namespace Go.Proofs
open Go Go.Ab
attribute [local irreducible] QR QV OE aops aw dsoup dsoupM dalloc zf9 thn inBlk jsoup jch lsoup
open Go.H
theorem place_ib (o:Option Nat):∃i b,placeV o= .tup [iv i,bv b]:=by
 cases o with
 |none=>exact ⟨_,_,rfl⟩
 |some i=>exact ⟨_,_,rfl⟩
theorem rBegin (h:Hist) (la:Lim 3000 h) (bl:Nat) (G:List Res):za6 Tryz.prog 300 [pZ bl] (.box bl 252 (lookN h)::G) (fun r h'=>h'=G∧r=placeV (placeP h 1)):=by
 refine za1 Tryz.func300 rfl rfl rfl ?_
 refine rn ?_;refine za2 rfl (zb5 rfl rfl rfl fun b1=> ?_)
 refine rn ?_;refine za2 rfl (zc3 rfl rfl (za3.perm (pt1 _ _ _) (za3.of_fun (rAt h (Nat.le_trans la.evs (by decide)) bl (.fn (.func 317) [] [pZ b1]) rfl (.box b1 247 [pZ bl]::G) (fun k e=>wrongP 1 e (h.evs.take k)) (fun k hk r1 r2 r3 r4 r5=>za3.qt (h2:=G) (za3.of_acall (fs:= []) (cs:= [pZ b1]) (rBegin1 _ bl b1 h _ r1 r2 r3 r4 r5)) (.refl _))))) rfl ?_)
 rintro _ _ ⟨rfl,rfl⟩
 obtain ⟨pi,pb,hpv⟩:∃i b,placeV (rowF (fun k e=>wrongP 1 e (h.evs.take k)) 0 h.evs)= .tup [iv i,bv b]:=place_ib _
 rw [hpv]
 refine rn ?_;refine rq 1 ?_
 exact ⟨rfl,hpv.symm⟩
theorem rEnd (h:Hist) (la:Lim 3000 h) (bl:Nat) (G:List Res):za6 Tryz.prog 307 [pZ bl] (.box bl 252 (lookN h)::G) (fun r h'=>h'=G∧r=placeV (placeP h 2)):=by
 refine za1 Tryz.func307 rfl rfl rfl ?_
 refine rn ?_;refine za2 rfl (zb5 rfl rfl rfl fun b1=> ?_)
 refine rn ?_;refine za2 rfl (zc3 rfl rfl (za3.perm (pt1 _ _ _) (za3.of_fun (rAt h (Nat.le_trans la.evs (by decide)) bl (.fn (.func 318) [] [pZ b1]) rfl (.box b1 247 [pZ bl]::G) (fun k e=>wrongP 2 e (h.evs.take k)) (fun k hk r1 r2 r3 r4 r5=>za3.qt (h2:=G) (za3.of_acall (fs:= []) (cs:= [pZ b1]) (rEnd1 _ bl b1 h _ r1 r2 r3 r4 r5)) (.refl _))))) rfl ?_)
 rintro _ _ ⟨rfl,rfl⟩
 obtain ⟨pi,pb,hpv⟩:∃i b,placeV (rowF (fun k e=>wrongP 2 e (h.evs.take k)) 0 h.evs)= .tup [iv i,bv b]:=place_ib _
 rw [hpv]
 refine rn ?_;refine rq 1 ?_
 exact ⟨rfl,hpv.symm⟩
theorem rCount (h:Hist) (la:Lim 3000 h) (bl:Nat) (G:List Res):za6 Tryz.prog 308 [pZ bl] (.box bl 252 (lookN h)::G) (fun r h'=>h'=G∧r=placeV (placeP h 3)):=by
 refine za1 Tryz.func308 rfl rfl rfl ?_
 refine rn ?_;refine za2 rfl (zb5 rfl rfl rfl fun b1=> ?_)
 refine rn ?_;refine za2 rfl (zc3 rfl rfl (za3.perm (pt1 _ _ _) (za3.of_fun (rAt h (Nat.le_trans la.evs (by decide)) bl (.fn (.func 319) [] [pZ b1]) rfl (.box b1 247 [pZ bl]::G) (fun k e=>wrongP 3 e (h.evs.take k)) (fun k hk r1 r2 r3 r4 r5=>za3.qt (h2:=G) (za3.of_acall (fs:= []) (cs:= [pZ b1]) (rCount1 _ bl b1 h _ r1 r2 r3 r4 r5 (by have:=la.evs;simp;omega))) (.refl _))))) rfl ?_)
 rintro _ _ ⟨rfl,rfl⟩
 obtain ⟨pi,pb,hpv⟩:∃i b,placeV (rowF (fun k e=>wrongP 3 e (h.evs.take k)) 0 h.evs)= .tup [iv i,bv b]:=place_ib _
 rw [hpv]
 refine rn ?_;refine rq 1 ?_
 exact ⟨rfl,hpv.symm⟩
theorem rWritten (h:Hist) (la:Lim 3000 h) (bl:Nat) (G:List Res):za6 Tryz.prog 309 [pZ bl] (.box bl 252 (lookN h)::G) (fun r h'=>h'=G∧r=placeV (placeP h 4)):=by
 refine za1 Tryz.func309 rfl rfl rfl ?_
 refine rn ?_;refine za2 rfl (zb5 rfl rfl rfl fun b1=> ?_)
 refine rn ?_;refine za2 rfl (zc3 rfl rfl (za3.perm (pt1 _ _ _) (za3.of_fun (rAt h (Nat.le_trans la.evs (by decide)) bl (.fn (.func 320) [] [pZ b1]) rfl (.box b1 247 [pZ bl]::G) (fun k e=>wrongP 4 e (h.evs.take k)) (fun k hk r1 r2 r3 r4 r5=>za3.qt (h2:=G) (za3.of_acall (fs:= []) (cs:= [pZ b1]) (rWritten1 _ bl b1 h _ r1 r2 r3 r4 r5 (Nat.le_trans (la.scans _ (List.getElem_mem hk)) (by decide)))) (.refl _))))) rfl ?_)
 rintro _ _ ⟨rfl,rfl⟩
 obtain ⟨pi,pb,hpv⟩:∃i b,placeV (rowF (fun k e=>wrongP 4 e (h.evs.take k)) 0 h.evs)= .tup [iv i,bv b]:=place_ib _
 rw [hpv]
 refine rn ?_;refine rq 1 ?_
 exact ⟨rfl,hpv.symm⟩
theorem rOwn (h:Hist) (la:Lim 3000 h) (bl:Nat) (G:List Res):za6 Tryz.prog 310 [pZ bl] (.box bl 252 (lookN h)::G) (fun r h'=>h'=G∧r=placeV (placeP h 5)):=by
 refine za1 Tryz.func310 rfl rfl rfl ?_
 refine rn ?_;refine za2 rfl (zb5 rfl rfl rfl fun b1=> ?_)
 refine rn ?_;refine za2 rfl (zc3 rfl rfl (za3.perm (pt1 _ _ _) (za3.of_fun (rAt h (Nat.le_trans la.evs (by decide)) bl (.fn (.func 323) [] [pZ b1]) rfl (.box b1 247 [pZ bl]::G) (fun k e=>wrongP 5 e (h.evs.take k)) (fun k hk r1 r2 r3 r4 r5=>za3.qt (h2:=G) (za3.of_acall (fs:= []) (cs:= [pZ b1]) (rOwn1 _ bl b1 h _ r1 r2 r3 r4 r5 (Nat.le_trans (la.scans _ (List.getElem_mem hk)) (by decide)))) (.refl _))))) rfl ?_)
 rintro _ _ ⟨rfl,rfl⟩
 obtain ⟨pi,pb,hpv⟩:∃i b,placeV (rowF (fun k e=>wrongP 5 e (h.evs.take k)) 0 h.evs)= .tup [iv i,bv b]:=place_ib _
 rw [hpv]
 refine rn ?_;refine rq 1 ?_
 exact ⟨rfl,hpv.symm⟩
theorem rScan (h:Hist) (la:Lim 3000 h) (bl:Nat) (G:List Res):za6 Tryz.prog 311 [pZ bl] (.box bl 252 (lookN h)::G) (fun r h'=>h'=G∧r=placeV (placeP h 6)):=by
 refine za1 Tryz.func311 rfl rfl rfl ?_
 refine rn ?_;refine za2 rfl (zc3 rfl rfl (id (za3.of_fun (rAt h (Nat.le_trans la.evs (by decide)) bl (.fn (.func 325) [] []) rfl (G) (fun k e=>wrongP 6 e (h.evs.take k)) (fun k hk r1 r2 r3 r4 r5=>za3.pure (R:=fun r=>r=bv _) (za3.of_acall (fs:= []) (cs:= []) (rScan1 _ (Nat.le_trans (la.scans _ (List.getElem_mem hk)) (by decide)))))))) rfl ?_)
 rintro _ _ ⟨rfl,rfl⟩
 obtain ⟨pi,pb,hpv⟩:∃i b,placeV (rowF (fun k e=>wrongP 6 e (h.evs.take k)) 0 h.evs)= .tup [iv i,bv b]:=place_ib _
 rw [hpv]
 refine rn ?_;refine rq 0 ?_
 exact ⟨rfl,hpv.symm⟩
open Go.Shelf
def sortRen:Go.Shelf.Ren:=⟨fun|125=>137|128=>184|129=>185|189=>89|215=>204|216=>181|257=>136|294=>175|295=>176|296=>177|297=>178|298=>179|299=>180|300=>182|301=>183|328=>219|329=>220|330=>221|331=>222|332=>223|343=>265|n=>n,fun|0=>0|3=>3|4=>4|5=>5|9=>9|28=>29|46=>180|51=>225|53=>227|131=>67|182=>218|183=>219|218=>265|222=>185|228=>288|229=>289|n=>n,fun n=>n⟩
theorem sortLays:Lays.n189 Tryz.prog sortRen:={
 mixed:=by kernel_rfl
 f125:=Tryz.func137.trans (congrArg some (by kernel_rfl))
 f128:=Tryz.func184.trans (congrArg some (by kernel_rfl))
 f129:=Tryz.func185.trans (congrArg some (by kernel_rfl))
 f189:=Tryz.func89.trans (congrArg some (by kernel_rfl))
 f215:=Tryz.func204.trans (congrArg some (by kernel_rfl))
 f216:=Tryz.func181.trans (congrArg some (by kernel_rfl))
 f257:=Tryz.func136.trans (congrArg some (by kernel_rfl))
 f294:=Tryz.func175.trans (congrArg some (by kernel_rfl))
 f295:=Tryz.func176.trans (congrArg some (by kernel_rfl))
 f296:=Tryz.func177.trans (congrArg some (by kernel_rfl))
 f297:=Tryz.func178.trans (congrArg some (by kernel_rfl))
 f298:=Tryz.func179.trans (congrArg some (by kernel_rfl))
 f299:=Tryz.func180.trans (congrArg some (by kernel_rfl))
 f300:=Tryz.func182.trans (congrArg some (by kernel_rfl))
 f301:=Tryz.func183.trans (congrArg some (by kernel_rfl))
 f328:=Tryz.func219.trans (congrArg some (by kernel_rfl))
 f329:=Tryz.func220.trans (congrArg some (by kernel_rfl))
 f330:=Tryz.func221.trans (congrArg some (by kernel_rfl))
 f331:=Tryz.func222.trans (congrArg some (by kernel_rfl))
 f332:=Tryz.func223.trans (congrArg some (by kernel_rfl))
 f343:=Tryz.func265.trans (congrArg some (by kernel_rfl))
 t0:=Tryz.underlying0
 a0:=Tryz.isAgg0
 z0:=Tryz.sizeOf0
 v0:=Tryz.zeroValue0
 t3:=Tryz.underlying3
 a3:=Tryz.isAgg3
 z3:=Tryz.sizeOf3
 v3:=Tryz.zeroValue3
 t4:=Tryz.underlying4
 a4:=Tryz.isAgg4
 z4:=Tryz.sizeOf4
 v4:=Tryz.zeroValue4
 t5:=Tryz.underlying5
 a5:=Tryz.isAgg5
 z5:=Tryz.sizeOf5
 v5:=Tryz.zeroValue5
 t9:=Tryz.underlying9
 a9:=Tryz.isAgg9
 z9:=Tryz.sizeOf9
 v9:=Tryz.zeroValue9
 t28:=Tryz.underlying29
 a28:=Tryz.isAgg29
 z28:=Tryz.sizeOf29
 v28:=Tryz.zeroValue29
 t46:=Tryz.underlying180
 a46:=Tryz.isAgg180
 z46:=Tryz.sizeOf180
 v46:=Tryz.zeroValue180
 t51:=Tryz.underlying225
 a51:=Tryz.isAgg225
 z51:=Tryz.sizeOf225
 v51:=Tryz.zeroValue225
 t53:=Tryz.underlying227
 a53:=Tryz.isAgg227
 z53:=Tryz.sizeOf227
 v53:=Tryz.zeroValue227
 t131:=Tryz.underlying67
 a131:=Tryz.isAgg67
 z131:=Tryz.sizeOf67
 v131:=Tryz.zeroValue67
 t182:=Tryz.underlying218
 a182:=Tryz.isAgg218
 z182:=Tryz.sizeOf218
 v182:=Tryz.zeroValue218
 t183:=Tryz.underlying219
 a183:=Tryz.isAgg219
 z183:=Tryz.sizeOf219
 v183:=Tryz.zeroValue219
 t218:=Tryz.underlying265
 a218:=Tryz.isAgg265
 z218:=Tryz.sizeOf265
 v218:=Tryz.zeroValue265
 t222:=Tryz.underlying185
 a222:=Tryz.isAgg185
 z222:=Tryz.sizeOf185
 v222:=Tryz.zeroValue185
 t228:=Tryz.underlying288
 a228:=Tryz.isAgg288
 z228:=Tryz.sizeOf288
 v228:=Tryz.zeroValue288
 t229:=Tryz.underlying289
 a229:=Tryz.isAgg289
 z229:=Tryz.sizeOf289
 v229:=Tryz.zeroValue289}
def compRen:Go.Shelf.Ren:=⟨fun|20=>90|n=>n,fun|0=>0|3=>3|4=>4|22=>29|n=>n,fun n=>n⟩
theorem compLays:Lays2.n20 Tryz.prog compRen:={
 mixed:=by kernel_rfl
 f20:=Tryz.func90.trans (congrArg some (by kernel_rfl))
 i3:=by kernel_rfl
 t0:=Tryz.underlying0
 a0:=Tryz.isAgg0
 z0:=Tryz.sizeOf0
 v0:=Tryz.zeroValue0
 t3:=Tryz.underlying3
 a3:=Tryz.isAgg3
 z3:=Tryz.sizeOf3
 v3:=Tryz.zeroValue3
 t4:=Tryz.underlying4
 a4:=Tryz.isAgg4
 z4:=Tryz.sizeOf4
 v4:=Tryz.zeroValue4
 t22:=Tryz.underlying29
 a22:=Tryz.isAgg29
 z22:=Tryz.sizeOf29
 v22:=Tryz.zeroValue29}
theorem cloneRowIntB {f:Bool} (rows:List (List AV)) (hl:rows.length * 8≤140737488355328) (hone:∀r∈rows,r.all AV.one=true):za6 Tryz.prog 64 [.list f 1 rows] [] (fun r h'=>∃s,h'= [.row s 1 3 rows]∧r= .v s):=by
 refine za1 Tryz.func64 rfl rfl rfl ?_
 refine rn ?_;refine za2 rfl (oe_eqnil rfl rfl rfl fun b4 hb4=> ?_)
 refine rn ?_;refine za0 rfl (fun hc4=> ?_) (fun hc4=> ?_)
 ·refine rn ?_;have h0:=hb4 hc4
  subst h0
  exact retT rfl (vent_nilrow 1 3 _) ⟨_,rfl,rfl⟩
 ·refine rn ?_;refine za2 rfl (oe_buildRow rfl rfl rfl fun s5=> ?_)
  refine rn ?_;refine za2 rfl (oe_append_rowB rfl rfl (by simp only [List.length_nil];omega) rfl (fun s7=> ?_) hone (by simpa using hl))
  refine rn ?_;exact retT rfl (.refl _ _) ⟨_,by rw [List.nil_append],rfl⟩
theorem cloneRowInt {f:Bool} (rows:List (List AV)) (hl:rows.length≤1099511627776) (hone:∀r∈rows,r.all AV.one=true):za6 Tryz.prog 64 [.list f 1 rows] [] (fun r h'=>∃s,h'= [.row s 1 3 rows]∧r= .v s):=cloneRowIntB rows (by omega) hone
theorem cloneRowEv {f:Bool} (rows:List (List AV)) (hl:rows.length≤1099511627776) (hone:∀r∈rows,r.all AV.one=true):za6 Tryz.prog 62 [.list f 9 rows] [] (fun r h'=>∃s,h'= [.row s 9 60 rows]∧r= .v s):=by
 refine za1 Tryz.func62 rfl rfl rfl ?_
 refine rn ?_;refine za2 rfl (oe_eqnil rfl rfl rfl fun b4 hb4=> ?_)
 refine rn ?_;refine za0 rfl (fun hc4=> ?_) (fun hc4=> ?_)
 ·refine rn ?_;have h0:=hb4 hc4
  subst h0
  exact retT rfl (vent_nilrow 9 60 _) ⟨_,rfl,rfl⟩
 ·refine rn ?_;refine za2 rfl (oe_buildRow rfl rfl rfl fun s5=> ?_)
  refine rn ?_;refine za2 rfl (zb7 rfl rfl (by simpa using hl) rfl (fun s7=> ?_) hone)
  refine rn ?_;exact retT rfl (.refl _ _) ⟨_,by rw [List.nil_append],rfl⟩
theorem cloneRowOrdB {f:Bool} (rows:List (List AV)) (hl:rows.length * 32≤140737488355328) (hone:∀r∈rows,r.all AV.one=true):za6 Tryz.prog 63 [.list f 2 rows] [] (fun r h'=>∃s,h'= [.row s 2 87 rows]∧r= .v s):=by
 refine za1 Tryz.func63 rfl rfl rfl ?_
 refine rn ?_;refine za2 rfl (oe_eqnil rfl rfl rfl fun b4 hb4=> ?_)
 refine rn ?_;refine za0 rfl (fun hc4=> ?_) (fun hc4=> ?_)
 ·refine rn ?_;have h0:=hb4 hc4
  subst h0
  exact retT rfl (vent_nilrow 2 87 _) ⟨_,rfl,rfl⟩
 ·refine rn ?_;refine za2 rfl (oe_buildRow rfl rfl rfl fun s5=> ?_)
  refine rn ?_;refine za2 rfl (oe_append_rowB rfl rfl (by simp only [List.length_nil];omega) rfl (fun s7=> ?_) hone (by simpa using hl))
  refine rn ?_;exact retT rfl (.refl _ _) ⟨_,by rw [List.nil_append],rfl⟩
theorem sortI (s:SV) (xs:List Int) (hs:xs.length < 4611686018427387904):za6 Tryz.prog 89 [.v s.v] [.row s.v 1 3 (xs.map intR)] (fun r h'=>h'= [.row s.v 1 3 ((srt xs).map intR)]∧r= .v (.tuple #[])):=
 acall_sort sortLays s 3 xs hs
theorem compI (s:SV) (xs:List Int) (hs:xs.length≤4611686018427387904):za6 Tryz.prog 90 [.v s.v] [.row s.v 1 3 (xs.map intR)] (fun r h'=>∃s':SV,h'= [.row s'.v 1 3 ((cmpct xs).map intR)]∧r= .v s'.v):=by
 rw [←compact_eq];exact acall_compact compLays s 3 xs hs
theorem rWriters (h:Hist) (la:Lim 3000 h) (bl:Nat) (x:Int) (G:List Res):za6 Tryz.prog 328 [pZ bl,iv x] (.box bl 252 (lookN h)::G) (fun r h'=>h'= .box bl 252 (lookN h)::G∧r=zf0 (writersP h.evs x)):=by
 refine za1 Tryz.func328 rfl rfl rfl ?_
 have be:=la.evs
 refine rn ?_;refine za2 rfl (oe_makeMap (enc:=intK) rfl fun bm=> ?_)
 refine rn ?_;refine aw_range h.evs.length (fun k=>True) (fun k=>⟨[(18,iv k),(0,pZ bl),(1,iv x),(5,.v (.map (some bm))),(16,evsA h.evs),(17,iv (h.evs.map evR).length)],.map bm (encM intK (mapA bv (donT (h.evs.take k)))):: .box bl 252 (lookN h)::G,[]⟩) trivial es ?_
 intro k lk _
 refine rn ?_;refine za0 rfl (fun hc19=> ?_) (fun hc19=> ?_)
 ·have hk:=ltMap hc19
  have rk:=ze2 (f:=evR) hk
  refine rn ?_;refine za2 rfl (zb1 rfl fun b7=> ?_)
  first|refine za2 rfl (oe_store_all rfl rfl rfl ?_)|refine za2 rfl (oe_store rfl rfl rfl rfl (Nat.le_of_ble_eq_true rfl) ?_)
  refine zd5 (zd8 ?_)
  refine za9 ?_;refine q1 ?_;refine q1 ?_;refine q1 ?_;refine q1 ?_;refine q1 ?_;refine q1 ?_;refine qq rfl rfl (qr_lookT (enc:=intK) (k:=h.evs[k].t) false rfl rfl) ?_
  refine rn ?_;refine za8 (fun hg5_7=> ?_) (fun hg5_7=> ?_)
  ·refine rn ?_;refine za2 rfl (oe_mapUpdT (g:=bv) (enc:=intK) (k:=h.evs[k].t) rfl rfl rfl ?_)
   refine rn ?_;exact ⟨hk,trivial,by first|(rw [donT_next hk,hg5_7,Bool.true_or];exact eA)|(rw [donT_next hk,hg5_7,Bool.false_or];exact eA)⟩
  ·refine rn ?_;refine za2 rfl (oe_mapUpdT (g:=bv) (enc:=intK) (k:=h.evs[k].t) rfl rfl rfl ?_)
   refine rn ?_;exact ⟨hk,trivial,by first|(rw [donT_next hk,hg5_7,Bool.true_or];exact eA)|(rw [donT_next hk,hg5_7,Bool.false_or];exact eA)⟩
 ·have qk:=geMap hc19 lk
  subst qk
  rw [List.take_length]
  refine rn ?_;refine aw_rng1 h.evs.length (fun k s=>⟨[(41,iv k),(8,.v s.v),(1,iv x),(5,.v (.map (some bm))),(39,evsA h.evs),(40,iv (h.evs.map evR).length)],.row s.v 1 3 ((((h.evs.take k).filter (wrB h.evs x)).map Ev.t).map intR):: .map bm (encM intK (mapA bv (donT h.evs))):: .box bl 252 (lookN h)::G,[]⟩) ⟨none,0,0⟩ (zc5 (ze5 1 3) es) ?_
  intro k s lk
  refine rn ?_;refine za0 rfl (fun hc42=> ?_) (fun hc42=> ?_)
  ·have hk:=ltMap hc42
   have rk:=ze2 (f:=evR) hk
   refine rn ?_;refine za2 rfl (zb1 rfl fun b10=> ?_)
   refine rn ?_;refine za8 (fun hg11_3=> ?_) (fun hg11_3=> ?_)
   ·refine rn ?_;refine za8 (fun hg11_9=> ?_) (fun hg11_9=> ?_)
    ·refine q1 ?_;refine q1 ?_;refine q1 ?_;refine qq rfl rfl (qr_lookT (enc:=intK) (k:=h.evs[k].t) false rfl rfl) ?_
     refine rn ?_;refine za0 rfl (fun hc59=> ?_) (fun hc59=> ?_)
     ·have hx:wrB h.evs x h.evs[k]=true:=by unfold wrB;rw [←donT_get];simp_all
      refine rn ?_;refine qv rfl rfl (zc2 rfl rfl) ?_
      refine za2 rfl (zb7 rfl rfl (by simp only [List.length_map,List.length_cons,List.length_nil];have:=flt_le (l:=h.evs) (k:=k) (p:=wrB h.evs x);omega) rfl (fun s64=> ?_) (one_int [h.evs[k].t]))
      refine zc7 s64 fun sv hsv=> ?_
      subst hsv
      refine rn ?_;exact ⟨hk,sv,by rw [flt_t hk hx,List.map_append,List.map_append];exact eA⟩
     ·have hx:wrB h.evs x h.evs[k]=false:=by unfold wrB;rw [←donT_get];simp_all
      refine rn ?_;exact ⟨hk,s,by rw [flt_f hk hx];exact eA⟩
    ·refine rn ?_;refine aw_cf rfl ?_;have hx:wrB h.evs x h.evs[k]=false:=by unfold wrB;rw [←donT_get];simp_all
     refine rn ?_;exact ⟨hk,s,by rw [flt_f hk hx];exact eA⟩
   ·refine rn ?_;refine aw_cf rfl ?_;have hx:wrB h.evs x h.evs[k]=false:=by unfold wrB;rw [←donT_get];simp_all
    refine rn ?_;exact ⟨hk,s,by rw [flt_f hk hx];exact eA⟩
  ·have qk:=geMap hc42 lk
   subst qk
   refine rn ?_;refine za2 rfl (zc3 rfl rfl (fcall_row0 (za3.of_fun (sortI s _ (by have:=flt_le (l:=h.evs) (k:=h.evs.length) (p:=wrB h.evs x);rw [List.length_map];omega)))) rfl ?_)
   rintro _ _ ⟨rfl,rfl⟩
   refine rn ?_;refine za2 rfl (zc3 rfl rfl (zf8 (za3.of_fun (compI s _ (by rw [(srt_perm _).length_eq,List.length_map];have:=flt_le (l:=h.evs) (k:=h.evs.length) (p:=wrB h.evs x);omega)))) rfl ?_)
   rintro _ _ ⟨s',rfl,rfl⟩
   refine rn ?_;exact retT rfl (.trans vent_freeze (.drop1 _ _ _)) ⟨rfl,by rw [List.take_length];rfl⟩
theorem indexI {f:Bool} (l:List Int) (n:Int) (hl:l.length≤4611686018427387904):za6 Tryz.prog 105 [.list f 1 (l.map intR),iv n] [] (fun r h'=>h'= []∧r=iv (fidx (fun a=>a==n) 0 l)):=by
 refine za1 Tryz.func105 rfl rfl rfl ?_
 refine rn ?_;refine aw_rng (l.length) (fun k:Nat=>fidx (fun a=>a==n) 0 l=fidx (fun a=>a==n) k (l.drop k)) (fun k=> [(8,iv k)]) [(0,_),(1,_),(7,_)] (by simp) ?_
 intro k lk zk
 refine rn ?_;refine za0 rfl (fun hc9=> ?_) (fun hc9=> ?_)
 ·have hk:=ltMap hc9
  have rk:=ze2 (f:=intR) hk
  refine rn ?_;refine za0 rfl (fun hc16=> ?_) (fun hc16=> ?_)
  ·refine rn ?_;refine rq 0 ?_
   exact ⟨rfl,congrArg iv (by rw [zk,List.drop_eq_getElem_cons hk,fidx,if_pos (by rw [beq_iff_eq] at hc16 ⊢;exact hc16.symm)])⟩
  ·refine rn ?_;exact ⟨hk,by rw [zk,List.drop_eq_getElem_cons hk,fidx,if_neg (fun q=>by rw [beq_iff_eq] at q;rw [q] at hc16;simp at hc16)],eA⟩
 ·have qk:=geMap hc9 lk
  refine rn ?_;refine rq 0 ?_
  exact ⟨rfl,congrArg iv (by rw [zk,qk,List.drop_length];rfl)⟩
theorem containsI {f:Bool} (l:List Int) (n:Int) (hl:l.length≤4611686018427387904):za6 Tryz.prog 44 [.list f 1 (l.map intR),iv n] [] (fun r h'=>h'= []∧r=bv (l.contains n)):=by
 refine za1 Tryz.func44 rfl rfl rfl ?_
 refine rn ?_;refine qv rfl rfl (za4 rfl rfl (zc0 (indexI _ _ hl) (Sbs.refl _))) ?_
 refine rn ?_;refine rq 0 ?_
 exact ⟨rfl,congrArg bv (by rw [fidx_ge,contains_any])⟩
theorem rOnce1 (f:List Int) (t:Int) (b:Nat) (G:List Res) (hl:f.length≤4611686018427387904):za6 Tryz.prog 342 [iv t,pZ b] (.box b 29 [zf0 f]::G) (fun r h'=>h'= .box b 29 [zf0 f]::G∧r=bv (!f.contains t)):=by
 refine za1 Tryz.func342 rfl rfl rfl ?_
 refine rn ?_;refine qv rfl rfl (za4 rfl rfl (zc0 (containsI _ _ hl) (Sbs.refl _))) ?_
 refine rn ?_;refine rq 0 ?_
 exact ⟨rfl,rfl⟩
theorem rOnce (ts f:List Int) (hl:ts.length≤1000000) (hf:f.length≤4611686018427387904):za6 Tryz.prog 330 [zf0 ts,zf0 f] [] (fun r h'=>h'= []∧r=bv (onceP ts f)):=by
 refine za1 Tryz.func330 rfl rfl rfl ?_
 have hl':ts.length≤4611686018427387904:=Nat.le_trans hl (by decide)
 refine rn ?_;refine za2 rfl (zb5 rfl rfl rfl fun b3=> ?_)
 refine rn ?_;refine za2 rfl (zc3 rfl rfl (za3.new (za3.of_fun (cloneRowInt (ts.map intR) (by simp;omega) (fun r hr=>by obtain ⟨n,_,rfl⟩:=List.mem_map.1 hr;rfl)))) rfl ?_)
 rintro _ _ ⟨_,⟨s,rfl,rfl⟩,rfl⟩
 show aops _ _ _ _ _ _ ⟨_,.row s 1 3 (ts.map intR):: [.box b3 29 [zf0 f]],_⟩
 refine zc7 s fun sv hsv=> ?_
 subst hsv
 refine rn ?_;refine za2 rfl (zc3 rfl rfl (fcall_row0 (za3.of_fun (sortI sv ts (by omega)))) rfl ?_)
 rintro _ _ ⟨rfl,rfl⟩
 refine rn ?_;refine za2 rfl (zc3 rfl rfl (zf8 (za3.of_fun (compI sv (srt ts) (by rw [(srt_perm _).length_eq];omega)))) rfl ?_)
 rintro _ _ ⟨s',rfl,rfl⟩
 refine rn ?_;refine za8 (fun hg3_6=> ?_) (fun hg3_6=> ?_)
 ·refine rn ?_;refine qv rfl rfl (za4 rfl rfl (za3.of_fun (containsFuncInt ts _ _ [.row s'.v 1 3 ((cmpct (srt ts)).map intR),.box b3 29 [zf0 f]] (fun t _=>za3.qt (h2:= [_]) (za3.of_acall (fs:= []) (cs:= [pZ b3]) (rOnce1 f t b3 [] hf)) (perm_swap [_] [_])) hl'))) ?_
  refine rn ?_;refine rq 2 ?_
  exact ⟨rfl,congrArg bv (by unfold onceP;by_cases e:(cmpct (srt ts)).length=ts.length <;> first|(simp_all;done)|(exfalso;simp at hg3_6;omega))⟩
 ·refine rn ?_;refine rq 2 ?_
  exact ⟨rfl,congrArg bv (by unfold onceP;by_cases e:(cmpct (srt ts)).length=ts.length <;> first|(simp_all;done)|(exfalso;simp at hg3_6;omega))⟩
theorem rRowOrd {f:Bool} (l:List H.Ord) (fv:AV) (w:Nat→H.Ord→Bool) (G:List Res) (hp:∀k (hk:k < l.length),za3 Tryz.prog fv [iv k,.agg (ordR l[k])] G (fun r h'=>h'=G∧r=bv (w k l[k]))) (hl:l.length≤1000000):za6 Tryz.prog 326 [.list f 2 (l.map ordR),fv] G (fun r h'=>h'=G∧r=placeV (rowF w 0 l)):=by
 refine za1 Tryz.func326 rfl rfl rfl ?_
 refine rn ?_;refine aw_range l.length (fun k=>rowF w 0 l=rowF w k (l.drop k)) (fun k=>⟨[(10,iv k),(1,fv),(8,.list f 2 (l.map ordR)),(9,iv (l.map ordR).length)],G,[]⟩) (by simp) es ?_
 intro k lk zk
 refine rn ?_;refine za0 rfl (fun hc11=> ?_) (fun hc11=> ?_)
 ·have hk:=ltMap hc11
  have rk:=ze2 (f:=ordR) hk
  refine rn ?_;refine za2 rfl (zb1 rfl fun b7=> ?_)
  refine rn ?_;refine qv rfl rfl (za4 rfl rfl (za3.qt (h2:= [_]) (hp k hk) (perm_swap [_] _))) ?_
  refine rn ?_;refine za0 rfl (fun hc18=> ?_) (fun hc18=> ?_)
  ·refine rn ?_;refine rq 1 ?_
   exact ⟨rfl,by rw [rowF_stop hk zk (by simpa using hc18)];rfl⟩
  ·refine rn ?_;exact ⟨hk,rowF_step hk zk (by simpa using hc18),eA⟩
 ·have qk:=geMap hc11 lk
  refine rn ?_;refine rq 0 ?_
  exact ⟨rfl,by rw [rowF_end qk zk];rfl⟩
theorem rRowStr {f:Bool} (l:List ByteArray) (fv:AV) (w:Nat→ByteArray→Bool) (G:List Res) (hp:∀k (hk:k < l.length),za3 Tryz.prog fv [iv k,sv l[k]] G (fun r h'=>h'=G∧r=bv (w k l[k]))) (hl:l.length≤1000000):za6 Tryz.prog 331 [.list f 1 (l.map strR),fv] G (fun r h'=>h'=G∧r=placeV (rowF w 0 l)):=by
 refine za1 Tryz.func331 rfl rfl rfl ?_
 refine rn ?_;refine aw_range l.length (fun k=>rowF w 0 l=rowF w k (l.drop k)) (fun k=>⟨[(10,iv k),(1,fv),(8,.list f 1 (l.map strR)),(9,iv (l.map strR).length)],G,[]⟩) (by simp) es ?_
 intro k lk zk
 refine rn ?_;refine za0 rfl (fun hc11=> ?_) (fun hc11=> ?_)
 ·have hk:=ltMap hc11
  have rk:=ze2 (f:=strR) hk
  refine rn ?_;refine qv rfl rfl (za4 rfl rfl (hp k hk)) ?_
  refine rn ?_;refine za0 rfl (fun hc18=> ?_) (fun hc18=> ?_)
  ·refine rn ?_;refine rq 0 ?_
   exact ⟨rfl,by rw [rowF_stop hk zk (by simpa using hc18)];rfl⟩
  ·refine rn ?_;exact ⟨hk,rowF_step hk zk (by simpa using hc18),eA⟩
 ·have qk:=geMap hc11 lk
  refine rn ?_;refine rq 0 ?_
  exact ⟨rfl,by rw [rowF_end qk zk];rfl⟩
theorem rRowMat {f:Bool} (l:List Mat) (fv:AV) (w:Nat→Mat→Bool) (G:List Res) (hp:∀k (hk:k < l.length),za3 Tryz.prog fv [iv k,.agg (matR l[k])] G (fun r h'=>h'=G∧r=bv (w k l[k]))) (hl:l.length≤1000000):za6 Tryz.prog 334 [.list f 4 (l.map matR),fv] G (fun r h'=>h'=G∧r=placeV (rowF w 0 l)):=by
 refine za1 Tryz.func334 rfl rfl rfl ?_
 refine rn ?_;refine aw_range l.length (fun k=>rowF w 0 l=rowF w k (l.drop k)) (fun k=>⟨[(10,iv k),(1,fv),(8,.list f 4 (l.map matR)),(9,iv (l.map matR).length)],G,[]⟩) (by simp) es ?_
 intro k lk zk
 refine rn ?_;refine za0 rfl (fun hc11=> ?_) (fun hc11=> ?_)
 ·have hk:=ltMap hc11
  have rk:=ze2 (f:=matR) hk
  refine rn ?_;refine za2 rfl (zb1 rfl fun b7=> ?_)
  refine rn ?_;refine qv rfl rfl (za4 rfl rfl (za3.qt (h2:= [_]) (hp k hk) (perm_swap [_] _))) ?_
  refine rn ?_;refine za0 rfl (fun hc18=> ?_) (fun hc18=> ?_)
  ·refine rn ?_;refine rq 1 ?_
   exact ⟨rfl,by rw [rowF_stop hk zk (by simpa using hc18)];rfl⟩
  ·refine rn ?_;exact ⟨hk,rowF_step hk zk (by simpa using hc18),eA⟩
 ·have qk:=geMap hc11 lk
  refine rn ?_;refine rq 0 ?_
  exact ⟨rfl,by rw [rowF_end qk zk];rfl⟩
theorem rRowWan {f:Bool} (l:List Wan) (fv:AV) (w:Nat→Wan→Bool) (G:List Res) (hp:∀k (hk:k < l.length),za3 Tryz.prog fv [iv k,.agg (wanR l[k])] G (fun r h'=>h'=G∧r=bv (w k l[k]))) (hl:l.length≤1000000):za6 Tryz.prog 337 [.list f 2 (l.map wanR),fv] G (fun r h'=>h'=G∧r=placeV (rowF w 0 l)):=by
 refine za1 Tryz.func337 rfl rfl rfl ?_
 refine rn ?_;refine aw_range l.length (fun k=>rowF w 0 l=rowF w k (l.drop k)) (fun k=>⟨[(10,iv k),(1,fv),(8,.list f 2 (l.map wanR)),(9,iv (l.map wanR).length)],G,[]⟩) (by simp) es ?_
 intro k lk zk
 refine rn ?_;refine za0 rfl (fun hc11=> ?_) (fun hc11=> ?_)
 ·have hk:=ltMap hc11
  have rk:=ze2 (f:=wanR) hk
  refine rn ?_;refine za2 rfl (zb1 rfl fun b7=> ?_)
  refine rn ?_;refine qv rfl rfl (za4 rfl rfl (za3.qt (h2:= [_]) (hp k hk) (perm_swap [_] _))) ?_
  refine rn ?_;refine za0 rfl (fun hc18=> ?_) (fun hc18=> ?_)
  ·refine rn ?_;refine rq 1 ?_
   exact ⟨rfl,by rw [rowF_stop hk zk (by simpa using hc18)];rfl⟩
  ·refine rn ?_;exact ⟨hk,rowF_step hk zk (by simpa using hc18),eA⟩
 ·have qk:=geMap hc11 lk
  refine rn ?_;refine rq 0 ?_
  exact ⟨rfl,by rw [rowF_end qk zk];rfl⟩
theorem rOrder11 (p r:H.Ord) (b:Nat) (G:List Res):za6 Tryz.prog 329 [.agg (ordR p),pZ b] (.box b 87 (ordR r)::G) (fun x h'=>h'= .box b 87 (ordR r)::G∧x=bv (p.o==r.o)):=by
 refine za1 Tryz.func329 rfl rfl rfl ?_
 refine rn ?_;refine za2 rfl (zb5 rfl rfl rfl fun b2=> ?_)
 refine rn ?_;refine rq 1 ?_
 exact ⟨rfl,congrArg bv (by first|rfl|(simp_all;done))⟩
theorem rMatch11 (p r:Mat) (b:Nat) (G:List Res):za6 Tryz.prog 336 [.agg (matR p),pZ b] (.box b 109 (matR r)::G) (fun x h'=>h'= .box b 109 (matR r)::G∧x=bv (p.p==r.p && p.o==r.o)):=by
 refine za1 Tryz.func336 rfl rfl rfl ?_
 refine rn ?_;refine za2 rfl (zb5 rfl rfl rfl fun b2=> ?_)
 refine rn ?_;refine za8 (fun hg1_5=> ?_) (fun hg1_5=> ?_)
 ·refine rn ?_;refine rq 1 ?_
  exact ⟨rfl,congrArg bv (by first|rfl|(simp_all;done))⟩
 ·refine rn ?_;refine rq 1 ?_
  exact ⟨rfl,congrArg bv (by first|rfl|(simp_all;done))⟩
theorem rWant12 (p r:Wan) (b:Nat) (G:List Res):za6 Tryz.prog 340 [.agg (wanR p),pZ b] (.box b 111 (wanR r)::G) (fun x h'=>h'= .box b 111 (wanR r)::G∧x=bv (p.s==r.s)):=by
 refine za1 Tryz.func340 rfl rfl rfl ?_
 refine rn ?_;refine za2 rfl (zb5 rfl rfl rfl fun b2=> ?_)
 refine rn ?_;refine rq 1 ?_
 exact ⟨rfl,congrArg bv (by first|rfl|(simp_all;done))⟩
theorem rWant11 (e:Ev) (r:Wan) (b:Nat) (G:List Res):za6 Tryz.prog 339 [.agg (evR e),pZ b] (.box b 111 (wanR r)::G) (fun x h'=>h'= .box b 111 (wanR r)::G∧x=bv (e.kind==1 && e.s==r.s)):=by
 refine za1 Tryz.func339 rfl rfl rfl ?_
 refine rn ?_;refine za2 rfl (zb5 rfl rfl rfl fun b2=> ?_)
 refine rn ?_;refine za8 (fun hg1_3=> ?_) (fun hg1_3=> ?_)
 ·refine rn ?_;refine rq 1 ?_
  exact ⟨rfl,congrArg bv (by first|(simp_all;done)|(simp only [*];done))⟩
 ·refine rn ?_;refine rq 1 ?_
  exact ⟨rfl,congrArg bv (by first|(simp_all;done)|(simp only [*];done))⟩
theorem rMissing11 (r:H.Ord) (x:Int) (b:Nat) (G:List Res):za6 Tryz.prog 333 [.agg (ordR r),pZ b] (.box b 3 [iv x]::G) (fun z h'=>h'= .box b 3 [iv x]::G∧z=bv (r.o==x)):=by
 refine za1 Tryz.func333 rfl rfl rfl ?_
 refine rn ?_;refine za2 rfl (zb5 rfl rfl rfl fun b2=> ?_)
 refine rn ?_;refine rq 1 ?_
 exact ⟨rfl,congrArg bv (by first|rfl|(simp_all;done))⟩
theorem rOrder1 (h:Hist) (la:Lim 3000 h) (i:Nat) (hi:i≤h.ords.length) (r:H.Ord) (hr:r.ts.length≤3000) (bl bp:Nat) (G:List Res):za6 Tryz.prog 327 [iv i,.agg (ordR r),pZ bp] (.box bp 247 [pZ bl]:: .box bl 252 (lookN h)::G) (fun x h'=>h'=(.box bp 247 [pZ bl]:: .box bl 252 (lookN h)::G)∧x=bv (orderP h i r)):=by
 refine za1 Tryz.func327 rfl rfl rfl ?_
 have bo:=la.ords
 refine rn ?_;refine za2 rfl (zb5 rfl rfl rfl fun b4=> ?_)
 refine rn ?_;refine qv rfl rfl (za4 rfl rfl (za3.qt (h2:= .box b4 87 (ordR r):: .box bp 247 [pZ bl]::G) (za3.of_fun (rWriters h la bl r.o [])) (pt2 _ _ _ _))) ?_
 refine q1 ?_;refine zd5 (zd8 ?_)
 refine zb4 (za9 ?_)
 refine q1 ?_;refine q1 ?_;refine q1 ?_;refine q1 ?_;refine q1 ?_;refine q1 ?_;refine qq rfl rfl (qr_slice_h (k:=i) rfl rfl (by rw [List.length_map];omega)) ?_
 rw [←List.map_take]
 refine rn ?_;refine qv rfl rfl (za4 rfl rfl (za3.of_fun (containsFuncOrd (h.ords.take i) _ _ (.box b4 87 (ordR r):: .box bp 247 [pZ bl]:: .box bl 252 (lookN h)::G) (fun p _=>za3.of_acall (fs:= []) (cs:= [pZ b4]) (rOrder11 p r b4 (.box bp 247 [pZ bl]:: .box bl 252 (lookN h)::G))) (by rw [List.length_take];have:=la.ords;omega)))) ?_
 refine rn ?_;refine za8 (fun hg2_9=> ?_) (fun hg2_9=> ?_)
 ·refine rn ?_;refine rq 1 ?_
  exact ⟨rfl,congrArg bv (by unfold orderP;first|(simp only [hg2_9,hg2_16,List.length_map,len_bne,Bool.not_true,Bool.not_false,Bool.true_or,Bool.or_true,Bool.false_or];done)|(simp only [hg2_9,Bool.true_or];done)|(simp_all [len_bne];done))⟩
 ·refine rn ?_;refine qv rfl rfl (za4 rfl rfl (zc0 (rOnce r.ts (writersP h.evs r.o) (Nat.le_trans hr (by decide)) (Nat.le_trans (writers_le h.evs r.o) (Nat.le_trans la.evs (by decide)))) (Sbs.refl _))) ?_
  refine rn ?_;refine za8 (fun hg2_16=> ?_) (fun hg2_16=> ?_)
  ·refine rn ?_;refine rq 1 ?_
   exact ⟨rfl,congrArg bv (by unfold orderP;first|(simp only [hg2_9,hg2_16,List.length_map,len_bne,Bool.not_true,Bool.not_false,Bool.true_or,Bool.or_true,Bool.false_or];done)|(simp only [hg2_9,Bool.true_or];done)|(simp_all [len_bne];done))⟩
  ·refine rn ?_;refine rq 1 ?_
   exact ⟨rfl,congrArg bv (by unfold orderP;first|(simp only [hg2_9,hg2_16,List.length_map,len_bne,Bool.not_true,Bool.not_false,Bool.true_or,Bool.or_true,Bool.false_or];done)|(simp only [hg2_9,Bool.true_or];done)|(simp_all [len_bne];done))⟩
theorem rMatch1 (h:Hist) (la:Lim 3000 h) (i:Nat) (hi:i≤h.mats.length) (r:Mat) (hr:r.ts.length≤3000) (bl bp:Nat) (G:List Res):za6 Tryz.prog 335 [iv i,.agg (matR r),pZ bp] (.box bp 247 [pZ bl]:: .box bl 252 (lookN h)::G) (fun x h'=>h'=(.box bp 247 [pZ bl]:: .box bl 252 (lookN h)::G)∧x=bv (matchP h i r)):=by
 refine za1 Tryz.func335 rfl rfl rfl ?_
 have bo:=la.mats
 refine rn ?_;refine za2 rfl (zb5 rfl rfl rfl fun b4=> ?_)
 refine rn ?_;refine zd2 16 rfl ?_
 refine dq rfl rfl qrA ?_;refine dq rfl rfl qrA ?_;refine dq rfl rfl qrA ?_;refine dq rfl rfl qrA ?_;refine dq rfl rfl qrA ?_;refine dq rfl rfl qrA ?_;refine dq rfl rfl (qr_slice_h (k:=i) rfl rfl (by rw [List.length_map];omega)) ?_
 rw [←List.map_take]
 refine rn ?_;refine dv rfl rfl (by exact za4 rfl rfl (za3.of_fun (containsFuncMat (h.mats.take i) _ _ (.box b4 109 (matR r):: .box bp 247 [pZ bl]:: .box bl 252 (lookN h)::G) (fun p _=>za3.of_acall (fs:= []) (cs:= [pZ b4]) (rMatch11 p r b4 (.box bp 247 [pZ bl]:: .box bl 252 (lookN h)::G))) (by rw [List.length_take];have:=la.mats;omega)))) ?_
 refine rn ?_;refine dsplit (fun hg2_9=> ?_) (fun hg2_9=> ?_)
 ·refine rn ?_;refine rq 1 ?_
  exact ⟨rfl,congrArg bv (by unfold matchP;simp_all)⟩
 ·refine rn ?_;refine dv rfl rfl (by exact za4 rfl rfl (za3.qt (h2:= .box b4 109 (matR r):: .box bp 247 [pZ bl]::G) (za3.of_fun (rWriters h la bl r.o [])) (pt2 _ _ _ _))) ?_
  refine rn ?_;refine qv rfl rfl (za4 rfl rfl (zc0 (rOnce r.ts (writersP h.evs r.o) (Nat.le_trans hr (by decide)) (Nat.le_trans (writers_le h.evs r.o) (Nat.le_trans la.evs (by decide)))) (Sbs.refl _))) ?_
  refine rn ?_;refine rq 1 ?_
  exact ⟨rfl,congrArg bv (by unfold matchP;simp_all)⟩
theorem rWant1 (h:Hist) (la:Lim 3000 h) (i:Nat) (hi:i≤h.wants.length) (r:Wan) (bl bp:Nat) (G:List Res):za6 Tryz.prog 338 [iv i,.agg (wanR r),pZ bp] (.box bp 247 [pZ bl]:: .box bl 252 (lookN h)::G) (fun x h'=>h'=(.box bp 247 [pZ bl]:: .box bl 252 (lookN h)::G)∧x=bv (wantW h i r)):=by
 refine za1 Tryz.func338 rfl rfl rfl ?_
 have bo:=la.wants
 refine rn ?_;refine za2 rfl (zb5 rfl rfl rfl fun b4=> ?_)
 refine q1 ?_;refine zd5 (zd8 ?_)
 refine zb4 (za9 ?_)
 refine q1 ?_;refine q1 ?_;refine zd5 (zd8 ?_)
 refine zb4 (za9 ?_)
 refine q1 ?_;refine q1 ?_;refine q1 ?_;refine q1 ?_;refine q1 ?_;refine q1 ?_;refine qq rfl rfl (qr_slice_h (k:=i) rfl rfl (by rw [List.length_map];omega)) ?_
 rw [←List.map_take]
 refine rn ?_;refine qv rfl rfl (za4 rfl rfl (za3.of_fun (containsFuncWan (h.wants.take i) _ _ (.box b4 111 (wanR r):: .box bp 247 [pZ bl]:: .box bl 252 (lookN h)::G) (fun p _=>za3.of_acall (fs:= []) (cs:= [pZ b4]) (rWant12 p r b4 (.box bp 247 [pZ bl]:: .box bl 252 (lookN h)::G))) (by rw [List.length_take];have:=la.wants;omega)))) ?_
 refine rn ?_;refine za8 (fun hg2_9=> ?_) (fun hg2_9=> ?_)
 ·refine rn ?_;refine rq 1 ?_
  exact ⟨rfl,congrArg bv (by unfold wantW;simp_all)⟩
 ·refine rn ?_;refine qv rfl rfl (za4 rfl rfl (za3.of_fun (containsFuncEv h.evs _ _ (.box b4 111 (wanR r):: .box bp 247 [pZ bl]:: .box bl 252 (lookN h)::G) (fun e _=>za3.of_acall (fs:= []) (cs:= [pZ b4]) (rWant11 e r b4 (.box bp 247 [pZ bl]:: .box bl 252 (lookN h)::G))) (Nat.le_trans la.evs (by decide))))) ?_
  refine rn ?_;refine rq 1 ?_
  exact ⟨rfl,congrArg bv (by unfold wantW;simp_all)⟩
theorem rMissing1 (h:Hist) (la:Lim 3000 h) (x:Int) (s:ByteArray) (bl bp:Nat) (G:List Res):za6 Tryz.prog 332 [iv x,sv s,pZ bp] (.box bp 247 [pZ bl]:: .box bl 252 (lookN h)::G) (fun z h'=>h'=(.box bp 247 [pZ bl]:: .box bl 252 (lookN h)::G)∧z=bv (missP h x)):=by
 refine za1 Tryz.func332 rfl rfl rfl ?_
 refine rn ?_;refine za2 rfl (zb5 rfl rfl rfl fun b3=> ?_)
 refine rn ?_;refine qv rfl rfl (za4 rfl rfl (za3.qt (h2:= .box b3 3 [iv x]:: .box bp 247 [pZ bl]::G) (za3.of_fun (rWriters h la bl x [])) (pt2 _ _ _ _))) ?_
 refine rn ?_;refine za8 (fun hg1_5=> ?_) (fun hg1_5=> ?_)
 ·refine rn ?_;refine qv rfl rfl (za4 rfl rfl (za3.of_fun (containsFuncOrd h.ords _ _ (.box b3 3 [iv x]:: .box bp 247 [pZ bl]:: .box bl 252 (lookN h)::G) (fun r _=>za3.of_acall (fs:= []) (cs:= [pZ b3]) (rMissing11 r x b3 (.box bp 247 [pZ bl]:: .box bl 252 (lookN h)::G))) (Nat.le_trans la.ords (by decide))))) ?_
  refine rn ?_;refine rq 1 ?_
  exact ⟨rfl,congrArg bv (by unfold missP;by_cases e:1 < (writersP h.evs x).length <;> first|(simp_all;done)|(simp [e];done)|(exfalso;simp at hg1_5;omega))⟩
 ·refine rn ?_;refine rq 1 ?_
  exact ⟨rfl,congrArg bv (by unfold missP;by_cases e:1 < (writersP h.evs x).length <;> first|(simp_all;done)|(simp [e];done)|(exfalso;simp at hg1_5;omega))⟩
theorem rOrder (h:Hist) (la:Lim 3000 h) (bl:Nat) (G:List Res):za6 Tryz.prog 312 [pZ bl] (.box bl 252 (lookN h)::G) (fun r h'=>h'=G∧r=placeV (placeP h 7)):=by
 refine za1 Tryz.func312 rfl rfl rfl ?_
 refine rn ?_;refine za2 rfl (zb5 rfl rfl rfl fun b1=> ?_)
 refine rn ?_;refine qv rfl rfl (za4 rfl rfl (za3.of_fun (rRowOrd h.ords (.fn (.func 327) [] [pZ b1]) (orderP h) (.box b1 247 [pZ bl]:: .box bl 252 (lookN h)::G) (fun k hk=>za3.of_acall (fs:= []) (cs:= [pZ b1]) (rOrder1 h la k (Nat.le_of_lt hk) _ (la.ordts _ (List.getElem_mem hk)) bl b1 G)) (Nat.le_trans la.ords (by decide))))) ?_
 obtain ⟨pi,pb,hpv⟩:∃i b,placeV (rowF (orderP h) 0 h.ords)= .tup [iv i,bv b]:=place_ib _
 rw [hpv]
 refine rn ?_;refine rq 2 ?_
 exact ⟨rfl,hpv.symm⟩
theorem rMissing (h:Hist) (la:Lim 3000 h) (bl:Nat) (G:List Res):za6 Tryz.prog 313 [pZ bl] (.box bl 252 (lookN h)::G) (fun r h'=>h'=G∧r=placeV (placeP h 8)):=by
 refine za1 Tryz.func313 rfl rfl rfl ?_
 refine rn ?_;refine za2 rfl (zb5 rfl rfl rfl fun b1=> ?_)
 refine rn ?_;refine qv rfl rfl (za4 rfl rfl (za3.of_fun (rRowStr h.os (.fn (.func 332) [] [pZ b1]) (fun x _=>missP h (x:Nat)) (.box b1 247 [pZ bl]:: .box bl 252 (lookN h)::G) (fun k hk=>za3.of_acall (fs:= []) (cs:= [pZ b1]) (rMissing1 h la k _ bl b1 G)) (Nat.le_trans la.os (by decide))))) ?_
 obtain ⟨pi,pb,hpv⟩:∃i b,placeV (rowF (fun x _=>missP h (x:Nat)) 0 h.os)= .tup [iv i,bv b]:=place_ib _
 rw [hpv]
 refine rn ?_;refine rq 2 ?_
 exact ⟨rfl,hpv.symm⟩
theorem rMatch (h:Hist) (la:Lim 3000 h) (bl:Nat) (G:List Res):za6 Tryz.prog 314 [pZ bl] (.box bl 252 (lookN h)::G) (fun r h'=>h'=G∧r=placeV (placeP h 9)):=by
 refine za1 Tryz.func314 rfl rfl rfl ?_
 refine rn ?_;refine za2 rfl (zb5 rfl rfl rfl fun b1=> ?_)
 refine rn ?_;refine qv rfl rfl (za4 rfl rfl (za3.of_fun (rRowMat h.mats (.fn (.func 335) [] [pZ b1]) (matchP h) (.box b1 247 [pZ bl]:: .box bl 252 (lookN h)::G) (fun k hk=>za3.of_acall (fs:= []) (cs:= [pZ b1]) (rMatch1 h la k (Nat.le_of_lt hk) _ (la.matts _ (List.getElem_mem hk)) bl b1 G)) (Nat.le_trans la.mats (by decide))))) ?_
 obtain ⟨pi,pb,hpv⟩:∃i b,placeV (rowF (matchP h) 0 h.mats)= .tup [iv i,bv b]:=place_ib _
 rw [hpv]
 refine rn ?_;refine rq 2 ?_
 exact ⟨rfl,hpv.symm⟩
theorem rWant (h:Hist) (la:Lim 3000 h) (bl:Nat) (G:List Res):za6 Tryz.prog 315 [pZ bl] (.box bl 252 (lookN h)::G) (fun r h'=>h'=G∧r=placeV (placeP h 10)):=by
 refine za1 Tryz.func315 rfl rfl rfl ?_
 refine rn ?_;refine za2 rfl (zb5 rfl rfl rfl fun b1=> ?_)
 refine rn ?_;refine qv rfl rfl (za4 rfl rfl (za3.of_fun (rRowWan h.wants (.fn (.func 338) [] [pZ b1]) (wantW h) (.box b1 247 [pZ bl]:: .box bl 252 (lookN h)::G) (fun k hk=>za3.of_acall (fs:= []) (cs:= [pZ b1]) (rWant1 h la k (Nat.le_of_lt hk) _ bl b1 G)) (Nat.le_trans la.wants (by decide))))) ?_
 obtain ⟨pi,pb,hpv⟩:∃i b,placeV (rowF (wantW h) 0 h.wants)= .tup [iv i,bv b]:=place_ib _
 rw [hpv]
 refine rn ?_;refine rq 2 ?_
 exact ⟨rfl,hpv.symm⟩
theorem decodeSlow240 (s:ByteArray) (hx:ze3 (bt s 0).toNat=240):za6 Tryz.prog 284 [.v (.string s)] [.glob 4 305 zb6,.glob 5 308 zb2] (fun r h'=>h'= [.glob 4 305 zb6,.glob 5 308 zb2]∧r= .tup [.v (.int .i32 (za7 s).1),iv (za7 s).2]):=by
 refine za1 Tryz.func284 rfl rfl rfl ?_
 refine rn ?_;refine za0 rfl (fun hc16=> ?_) (fun hc16=> ?_)
 ·refine rn ?_;have hd:za7 s=(65533,0):=by
   unfold za7
   rw [if_pos (by simp at hc16;omega)]
  exact retU rfl rfl (.refl _ _) ⟨rfl,by rw [hd];rfl⟩
 ·have h1:0 < s.size:=by simp at hc16;omega
  refine rn ?_;refine qq rfl rfl (zd1 0 rfl rfl (by omega)) ?_
  refine rn ?_;refine qq rfl rfl (za5 rfl rfl (bt_ge _ _) (bt_lt _ _)) ?_
  refine qq rfl rfl (ze6 rfl (show _=some (.v (.int .u8 240)) from by rw [firstC_get (bt_ge s 0) (bt_lt s 0),hx])) ?_
  refine rn ?_;refine za0 rfl (fun hc23=> ?_) (fun hc23=> ?_)
  ·refine rn ?_;refine qq rfl rfl (zd1 0 rfl rfl (by omega)) ?_
   refine rn ?_;have hd:za7 s=(bI .or .i32 (bI .andNot .i32 (IntKind.i32.wrap (bt s 0)) (decMask 240)) (bI .and .i32 65533 (decMask 240)),1):=by
    unfold za7
    rw [if_neg (by omega)]
    simp only [hx]
    rw [if_pos (by decide)]
   exact retU rfl rfl (.refl _ _) ⟨rfl,by rw [hd];rfl⟩
  ·first|cases hc23|exact absurd hc23 (by decide)|(exfalso;simp_all;done)
theorem decodeSlow241 (s:ByteArray) (hx:ze3 (bt s 0).toNat=241):za6 Tryz.prog 284 [.v (.string s)] [.glob 4 305 zb6,.glob 5 308 zb2] (fun r h'=>h'= [.glob 4 305 zb6,.glob 5 308 zb2]∧r= .tup [.v (.int .i32 (za7 s).1),iv (za7 s).2]):=by
 refine za1 Tryz.func284 rfl rfl rfl ?_
 refine rn ?_;refine za0 rfl (fun hc16=> ?_) (fun hc16=> ?_)
 ·refine rn ?_;have hd:za7 s=(65533,0):=by
   unfold za7
   rw [if_pos (by simp at hc16;omega)]
  exact retU rfl rfl (.refl _ _) ⟨rfl,by rw [hd];rfl⟩
 ·have h1:0 < s.size:=by simp at hc16;omega
  refine rn ?_;refine qq rfl rfl (zd1 0 rfl rfl (by omega)) ?_
  refine rn ?_;refine qq rfl rfl (za5 rfl rfl (bt_ge _ _) (bt_lt _ _)) ?_
  refine qq rfl rfl (ze6 rfl (show _=some (.v (.int .u8 241)) from by rw [firstC_get (bt_ge s 0) (bt_lt s 0),hx])) ?_
  refine rn ?_;refine za0 rfl (fun hc23=> ?_) (fun hc23=> ?_)
  ·refine rn ?_;refine qq rfl rfl (zd1 0 rfl rfl (by omega)) ?_
   refine rn ?_;have hd:za7 s=(bI .or .i32 (bI .andNot .i32 (IntKind.i32.wrap (bt s 0)) (decMask 241)) (bI .and .i32 65533 (decMask 241)),1):=by
    unfold za7
    rw [if_neg (by omega)]
    simp only [hx]
    rw [if_pos (by decide)]
   exact retU rfl rfl (.refl _ _) ⟨rfl,by rw [hd];rfl⟩
  ·first|cases hc23|exact absurd hc23 (by decide)|(exfalso;simp_all;done)
theorem decodeSlow2 (s:ByteArray) (hx:ze3 (bt s 0).toNat=2):za6 Tryz.prog 284 [.v (.string s)] [.glob 4 305 zb6,.glob 5 308 zb2] (fun r h'=>h'= [.glob 4 305 zb6,.glob 5 308 zb2]∧r= .tup [.v (.int .i32 (za7 s).1),iv (za7 s).2]):=by
 refine za1 Tryz.func284 rfl rfl rfl ?_
 refine rn ?_;refine za0 rfl (fun hc16=> ?_) (fun hc16=> ?_)
 ·refine rn ?_;have hd:za7 s=(65533,0):=by
   unfold za7
   rw [if_pos (by simp at hc16;omega)]
  exact retU rfl rfl (.refl _ _) ⟨rfl,by rw [hd];rfl⟩
 ·have h1:0 < s.size:=by simp at hc16;omega
  refine rn ?_;refine qq rfl rfl (zd1 0 rfl rfl (by omega)) ?_
  refine rn ?_;refine qq rfl rfl (za5 rfl rfl (bt_ge _ _) (bt_lt _ _)) ?_
  refine qq rfl rfl (ze6 rfl (show _=some (.v (.int .u8 2)) from by rw [firstC_get (bt_ge s 0) (bt_lt s 0),hx])) ?_
  refine rn ?_;refine za0 rfl (fun hc23=> ?_) (fun hc23=> ?_)
  ·first|cases hc23|exact absurd hc23 (by decide)|(exfalso;simp_all;done)
  ·refine rn ?_;refine qq rfl rfl (za5 rfl rfl (by decide) (by decide)) ?_
   refine rn ?_;refine za2 rfl (zb1 rfl fun b9=> ?_)
   refine rn ?_;refine za0 rfl (fun hc45=> ?_) (fun hc45=> ?_)
   ·refine rn ?_;have hd:za7 s=(65533,1):=by
     unfold za7
     rw [if_neg (by omega)]
     simp only [hx]
     rw [if_neg (by decide),if_pos (show (s.size:Int) < (2:Int) % 8 from of_decide_eq_true hc45)]
    exact retU rfl rfl (.drop1 _ _ _) ⟨rfl,by rw [hd];rfl⟩
   ·have h2:2≤s.size:=by
     have:¬((s.size:Int) < 2):=of_decide_eq_false hc45
     omega
    refine rn ?_;refine qq rfl rfl (zd1 1 rfl rfl (by omega)) ?_
    refine rn ?_;refine za8 (fun hg14_4=> ?_) (fun hg14_4=> ?_)
    ·refine rn ?_;refine za0 rfl (fun hc57=> ?_) (fun hc57=> ?_)
     ·refine rn ?_;have hd:za7 s=(65533,1):=by
       unfold za7
       rw [if_neg (by omega)]
       simp only [hx]
       rw [if_neg (by decide),if_neg (show ¬(s.size:Int) < (2:Int) % 8 from of_decide_eq_false hc45),if_pos (show bt s 1 < zf6 ((2:Int) / 16).toNat∨zf7 ((2:Int) / 16).toNat < bt s 1 from by first|exact .inl (of_decide_eq_true hg14_4)|exact .inr (of_decide_eq_true hc57))]
      exact retU rfl rfl (.drop1 _ _ _) ⟨rfl,by rw [hd];rfl⟩
     ·first|cases hc57|exact absurd hc57 (by decide)|(exfalso;simp_all;done)
    ·refine rn ?_;refine za0 rfl (fun hc57=> ?_) (fun hc57=> ?_)
     ·refine rn ?_;have hd:za7 s=(65533,1):=by
       unfold za7
       rw [if_neg (by omega)]
       simp only [hx]
       rw [if_neg (by decide),if_neg (show ¬(s.size:Int) < (2:Int) % 8 from of_decide_eq_false hc45),if_pos (show bt s 1 < zf6 ((2:Int) / 16).toNat∨zf7 ((2:Int) / 16).toNat < bt s 1 from by first|exact .inl (of_decide_eq_true hg14_4)|exact .inr (of_decide_eq_true hc57))]
      exact retU rfl rfl (.drop1 _ _ _) ⟨rfl,by rw [hd];rfl⟩
     ·refine rn ?_;refine za0 rfl (fun hc59=> ?_) (fun hc59=> ?_)
      ·refine rn ?_;have hd:za7 s=(bI .or .i32 (rbits (bt s 0) 31 6) (rbits (bt s 1) 63 0),2):=by
        unfold za7
        rw [if_neg (by omega)]
        simp only [hx]
        rw [if_neg (by decide),if_neg (show ¬(s.size:Int) < (2:Int) % 8 from of_decide_eq_false hc45),if_neg (show ¬(bt s 1 < zf6 ((2:Int) / 16).toNat∨zf7 ((2:Int) / 16).toNat < bt s 1) from fun q=>q.elim (of_decide_eq_false hg14_4) (of_decide_eq_false hc57)),if_pos (by decide)]
       exact retU rfl rfl (.drop1 _ _ _) ⟨rfl,by rw [hd];rfl⟩
      ·first|cases hc59|exact absurd hc59 (by decide)|(exfalso;simp_all;done)
theorem decodeSlow19 (s:ByteArray) (hx:ze3 (bt s 0).toNat=19):za6 Tryz.prog 284 [.v (.string s)] [.glob 4 305 zb6,.glob 5 308 zb2] (fun r h'=>h'= [.glob 4 305 zb6,.glob 5 308 zb2]∧r= .tup [.v (.int .i32 (za7 s).1),iv (za7 s).2]):=by
 refine za1 Tryz.func284 rfl rfl rfl ?_
 refine rn ?_;refine za0 rfl (fun hc16=> ?_) (fun hc16=> ?_)
 ·refine rn ?_;have hd:za7 s=(65533,0):=by
   unfold za7
   rw [if_pos (by simp at hc16;omega)]
  exact retU rfl rfl (.refl _ _) ⟨rfl,by rw [hd];rfl⟩
 ·have h1 :0 < s.size:=by simp at hc16;omega
  refine rn ?_;refine qq rfl rfl (zd1 0 rfl rfl (by omega)) ?_
  refine rn ?_;refine qq rfl rfl (za5 rfl rfl (bt_ge _ _) (bt_lt _ _)) ?_
  refine qq rfl rfl (ze6 rfl (show _=some (.v (.int .u8 19)) from by rw [firstC_get (bt_ge s 0) (bt_lt s 0),hx])) ?_
  refine rn ?_;refine za0 rfl (fun hc23=> ?_) (fun hc23=> ?_)
  ·first|cases hc23|exact absurd hc23 (by decide)|(exfalso;simp_all;done)
  ·refine rn ?_;refine qq rfl rfl (za5 rfl rfl (by decide) (by decide)) ?_
   refine rn ?_;refine za2 rfl (zb1 rfl fun b9=> ?_)
   refine rn ?_;refine za0 rfl (fun hc45=> ?_) (fun hc45=> ?_)
   ·refine rn ?_;have hd:za7 s=(65533,1):=by
     unfold za7
     rw [if_neg (by omega)]
     simp only [hx]
     rw [if_neg (by decide),if_pos (show (s.size:Int) < (19:Int) % 8 from of_decide_eq_true hc45)]
    exact retU rfl rfl (.drop1 _ _ _) ⟨rfl,by rw [hd];rfl⟩
   ·have h2:3≤s.size:=by
     have:¬((s.size:Int) < 3):=of_decide_eq_false hc45
     omega
    refine rn ?_;refine qq rfl rfl (zd1 1 rfl rfl (by omega)) ?_
    refine rn ?_;refine za8 (fun hg14_4=> ?_) (fun hg14_4=> ?_)
    ·refine rn ?_;refine za0 rfl (fun hc57=> ?_) (fun hc57=> ?_)
     ·refine rn ?_;have hd:za7 s=(65533,1):=by
       unfold za7
       rw [if_neg (by omega)]
       simp only [hx]
       rw [if_neg (by decide),if_neg (show ¬(s.size:Int) < (19:Int) % 8 from of_decide_eq_false hc45),if_pos (show bt s 1 < zf6 ((19:Int) / 16).toNat∨zf7 ((19:Int) / 16).toNat < bt s 1 from by first|exact .inl (of_decide_eq_true hg14_4)|exact .inr (of_decide_eq_true hc57))]
      exact retU rfl rfl (.drop1 _ _ _) ⟨rfl,by rw [hd];rfl⟩
     ·first|cases hc57|exact absurd hc57 (by decide)|(exfalso;simp_all;done)
    ·refine rn ?_;refine za0 rfl (fun hc57=> ?_) (fun hc57=> ?_)
     ·refine rn ?_;have hd:za7 s=(65533,1):=by
       unfold za7
       rw [if_neg (by omega)]
       simp only [hx]
       rw [if_neg (by decide),if_neg (show ¬(s.size:Int) < (19:Int) % 8 from of_decide_eq_false hc45),if_pos (show bt s 1 < zf6 ((19:Int) / 16).toNat∨zf7 ((19:Int) / 16).toNat < bt s 1 from by first|exact .inl (of_decide_eq_true hg14_4)|exact .inr (of_decide_eq_true hc57))]
      exact retU rfl rfl (.drop1 _ _ _) ⟨rfl,by rw [hd];rfl⟩
     ·refine rn ?_;refine za0 rfl (fun hc59=> ?_) (fun hc59=> ?_)
      ·first|cases hc59|exact absurd hc59 (by decide)|(exfalso;simp_all;done)
      ·refine rn ?_;refine qq rfl rfl (zd1 2 rfl rfl (by omega)) ?_
       refine rn ?_;refine za8 (fun hg19_2=> ?_) (fun hg19_2=> ?_)
       ·refine rn ?_;refine za0 rfl (fun hc75=> ?_) (fun hc75=> ?_)
        ·refine rn ?_;have hd:za7 s=(65533,1):=by
          unfold za7
          rw [if_neg (by omega)]
          simp only [hx]
          rw [if_neg (by decide),if_neg (show ¬(s.size:Int) < (19:Int) % 8 from of_decide_eq_false hc45),if_neg (show ¬(bt s 1 < zf6 ((19:Int) / 16).toNat∨zf7 ((19:Int) / 16).toNat < bt s 1) from fun q=>q.elim (of_decide_eq_false hg14_4) (of_decide_eq_false hc57)),if_neg (by decide),if_pos (show bt s 2 < 128∨191 < bt s 2 from by first|exact .inl (of_decide_eq_true hg19_2)|exact .inr (of_decide_eq_true hc75))]
         exact retU rfl rfl (.drop1 _ _ _) ⟨rfl,by rw [hd];rfl⟩
        ·first|cases hc75|exact absurd hc75 (by decide)|(exfalso;simp_all;done)
       ·refine rn ?_;refine za0 rfl (fun hc75=> ?_) (fun hc75=> ?_)
        ·refine rn ?_;have hd:za7 s=(65533,1):=by
          unfold za7
          rw [if_neg (by omega)]
          simp only [hx]
          rw [if_neg (by decide),if_neg (show ¬(s.size:Int) < (19:Int) % 8 from of_decide_eq_false hc45),if_neg (show ¬(bt s 1 < zf6 ((19:Int) / 16).toNat∨zf7 ((19:Int) / 16).toNat < bt s 1) from fun q=>q.elim (of_decide_eq_false hg14_4) (of_decide_eq_false hc57)),if_neg (by decide),if_pos (show bt s 2 < 128∨191 < bt s 2 from by first|exact .inl (of_decide_eq_true hg19_2)|exact .inr (of_decide_eq_true hc75))]
         exact retU rfl rfl (.drop1 _ _ _) ⟨rfl,by rw [hd];rfl⟩
        ·refine rn ?_;refine za0 rfl (fun hc77=> ?_) (fun hc77=> ?_)
         ·refine rn ?_;have hd:za7 s=(bI .or .i32 (bI .or .i32 (rbits (bt s 0) 15 12) (rbits (bt s 1) 63 6)) (rbits (bt s 2) 63 0),3):=by
           unfold za7
           rw [if_neg (by omega)]
           simp only [hx]
           rw [if_neg (by decide),if_neg (show ¬(s.size:Int) < (19:Int) % 8 from of_decide_eq_false hc45),if_neg (show ¬(bt s 1 < zf6 ((19:Int) / 16).toNat∨zf7 ((19:Int) / 16).toNat < bt s 1) from fun q=>q.elim (of_decide_eq_false hg14_4) (of_decide_eq_false hc57)),if_neg (by decide),if_neg (show ¬(bt s 2 < 128∨191 < bt s 2) from fun q=>q.elim (of_decide_eq_false hg19_2) (of_decide_eq_false hc75)),if_pos (by decide)]
          exact retU rfl rfl (.drop1 _ _ _) ⟨rfl,by rw [hd];rfl⟩
         ·first|cases hc77|exact absurd hc77 (by decide)|(exfalso;simp_all;done)
theorem decodeSlow3 (s:ByteArray) (hx:ze3 (bt s 0).toNat=3):za6 Tryz.prog 284 [.v (.string s)] [.glob 4 305 zb6,.glob 5 308 zb2] (fun r h'=>h'= [.glob 4 305 zb6,.glob 5 308 zb2]∧r= .tup [.v (.int .i32 (za7 s).1),iv (za7 s).2]):=by
 refine za1 Tryz.func284 rfl rfl rfl ?_
 refine rn ?_;refine za0 rfl (fun hc16=> ?_) (fun hc16=> ?_)
 ·refine rn ?_;have hd:za7 s=(65533,0):=by
   unfold za7
   rw [if_pos (by simp at hc16;omega)]
  exact retU rfl rfl (.refl _ _) ⟨rfl,by rw [hd];rfl⟩
 ·have h1 :0 < s.size:=by simp at hc16;omega
  refine rn ?_;refine qq rfl rfl (zd1 0 rfl rfl (by omega)) ?_
  refine rn ?_;refine qq rfl rfl (za5 rfl rfl (bt_ge _ _) (bt_lt _ _)) ?_
  refine qq rfl rfl (ze6 rfl (show _=some (.v (.int .u8 3)) from by rw [firstC_get (bt_ge s 0) (bt_lt s 0),hx])) ?_
  refine rn ?_;refine za0 rfl (fun hc23=> ?_) (fun hc23=> ?_)
  ·first|cases hc23|exact absurd hc23 (by decide)|(exfalso;simp_all;done)
  ·refine rn ?_;refine qq rfl rfl (za5 rfl rfl (by decide) (by decide)) ?_
   refine rn ?_;refine za2 rfl (zb1 rfl fun b9=> ?_)
   refine rn ?_;refine za0 rfl (fun hc45=> ?_) (fun hc45=> ?_)
   ·refine rn ?_;have hd:za7 s=(65533,1):=by
     unfold za7
     rw [if_neg (by omega)]
     simp only [hx]
     rw [if_neg (by decide),if_pos (show (s.size:Int) < (3:Int) % 8 from of_decide_eq_true hc45)]
    exact retU rfl rfl (.drop1 _ _ _) ⟨rfl,by rw [hd];rfl⟩
   ·have h2:3≤s.size:=by
     have:¬((s.size:Int) < 3):=of_decide_eq_false hc45
     omega
    refine rn ?_;refine qq rfl rfl (zd1 1 rfl rfl (by omega)) ?_
    refine rn ?_;refine za8 (fun hg14_4=> ?_) (fun hg14_4=> ?_)
    ·refine rn ?_;refine za0 rfl (fun hc57=> ?_) (fun hc57=> ?_)
     ·refine rn ?_;have hd:za7 s=(65533,1):=by
       unfold za7
       rw [if_neg (by omega)]
       simp only [hx]
       rw [if_neg (by decide),if_neg (show ¬(s.size:Int) < (3:Int) % 8 from of_decide_eq_false hc45),if_pos (show bt s 1 < zf6 ((3:Int) / 16).toNat∨zf7 ((3:Int) / 16).toNat < bt s 1 from by first|exact .inl (of_decide_eq_true hg14_4)|exact .inr (of_decide_eq_true hc57))]
      exact retU rfl rfl (.drop1 _ _ _) ⟨rfl,by rw [hd];rfl⟩
     ·first|cases hc57|exact absurd hc57 (by decide)|(exfalso;simp_all;done)
    ·refine rn ?_;refine za0 rfl (fun hc57=> ?_) (fun hc57=> ?_)
     ·refine rn ?_;have hd:za7 s=(65533,1):=by
       unfold za7
       rw [if_neg (by omega)]
       simp only [hx]
       rw [if_neg (by decide),if_neg (show ¬(s.size:Int) < (3:Int) % 8 from of_decide_eq_false hc45),if_pos (show bt s 1 < zf6 ((3:Int) / 16).toNat∨zf7 ((3:Int) / 16).toNat < bt s 1 from by first|exact .inl (of_decide_eq_true hg14_4)|exact .inr (of_decide_eq_true hc57))]
      exact retU rfl rfl (.drop1 _ _ _) ⟨rfl,by rw [hd];rfl⟩
     ·refine rn ?_;refine za0 rfl (fun hc59=> ?_) (fun hc59=> ?_)
      ·first|cases hc59|exact absurd hc59 (by decide)|(exfalso;simp_all;done)
      ·refine rn ?_;refine qq rfl rfl (zd1 2 rfl rfl (by omega)) ?_
       refine rn ?_;refine za8 (fun hg19_2=> ?_) (fun hg19_2=> ?_)
       ·refine rn ?_;refine za0 rfl (fun hc75=> ?_) (fun hc75=> ?_)
        ·refine rn ?_;have hd:za7 s=(65533,1):=by
          unfold za7
          rw [if_neg (by omega)]
          simp only [hx]
          rw [if_neg (by decide),if_neg (show ¬(s.size:Int) < (3:Int) % 8 from of_decide_eq_false hc45),if_neg (show ¬(bt s 1 < zf6 ((3:Int) / 16).toNat∨zf7 ((3:Int) / 16).toNat < bt s 1) from fun q=>q.elim (of_decide_eq_false hg14_4) (of_decide_eq_false hc57)),if_neg (by decide),if_pos (show bt s 2 < 128∨191 < bt s 2 from by first|exact .inl (of_decide_eq_true hg19_2)|exact .inr (of_decide_eq_true hc75))]
         exact retU rfl rfl (.drop1 _ _ _) ⟨rfl,by rw [hd];rfl⟩
        ·first|cases hc75|exact absurd hc75 (by decide)|(exfalso;simp_all;done)
       ·refine rn ?_;refine za0 rfl (fun hc75=> ?_) (fun hc75=> ?_)
        ·refine rn ?_;have hd:za7 s=(65533,1):=by
          unfold za7
          rw [if_neg (by omega)]
          simp only [hx]
          rw [if_neg (by decide),if_neg (show ¬(s.size:Int) < (3:Int) % 8 from of_decide_eq_false hc45),if_neg (show ¬(bt s 1 < zf6 ((3:Int) / 16).toNat∨zf7 ((3:Int) / 16).toNat < bt s 1) from fun q=>q.elim (of_decide_eq_false hg14_4) (of_decide_eq_false hc57)),if_neg (by decide),if_pos (show bt s 2 < 128∨191 < bt s 2 from by first|exact .inl (of_decide_eq_true hg19_2)|exact .inr (of_decide_eq_true hc75))]
         exact retU rfl rfl (.drop1 _ _ _) ⟨rfl,by rw [hd];rfl⟩
        ·refine rn ?_;refine za0 rfl (fun hc77=> ?_) (fun hc77=> ?_)
         ·refine rn ?_;have hd:za7 s=(bI .or .i32 (bI .or .i32 (rbits (bt s 0) 15 12) (rbits (bt s 1) 63 6)) (rbits (bt s 2) 63 0),3):=by
           unfold za7
           rw [if_neg (by omega)]
           simp only [hx]
           rw [if_neg (by decide),if_neg (show ¬(s.size:Int) < (3:Int) % 8 from of_decide_eq_false hc45),if_neg (show ¬(bt s 1 < zf6 ((3:Int) / 16).toNat∨zf7 ((3:Int) / 16).toNat < bt s 1) from fun q=>q.elim (of_decide_eq_false hg14_4) (of_decide_eq_false hc57)),if_neg (by decide),if_neg (show ¬(bt s 2 < 128∨191 < bt s 2) from fun q=>q.elim (of_decide_eq_false hg19_2) (of_decide_eq_false hc75)),if_pos (by decide)]
          exact retU rfl rfl (.drop1 _ _ _) ⟨rfl,by rw [hd];rfl⟩
         ·first|cases hc77|exact absurd hc77 (by decide)|(exfalso;simp_all;done)
theorem decodeSlow35 (s:ByteArray) (hx:ze3 (bt s 0).toNat=35):za6 Tryz.prog 284 [.v (.string s)] [.glob 4 305 zb6,.glob 5 308 zb2] (fun r h'=>h'= [.glob 4 305 zb6,.glob 5 308 zb2]∧r= .tup [.v (.int .i32 (za7 s).1),iv (za7 s).2]):=by
 refine za1 Tryz.func284 rfl rfl rfl ?_
 refine rn ?_;refine za0 rfl (fun hc16=> ?_) (fun hc16=> ?_)
 ·refine rn ?_;have hd:za7 s=(65533,0):=by
   unfold za7
   rw [if_pos (by simp at hc16;omega)]
  exact retU rfl rfl (.refl _ _) ⟨rfl,by rw [hd];rfl⟩
 ·have h1 :0 < s.size:=by simp at hc16;omega
  refine rn ?_;refine qq rfl rfl (zd1 0 rfl rfl (by omega)) ?_
  refine rn ?_;refine qq rfl rfl (za5 rfl rfl (bt_ge _ _) (bt_lt _ _)) ?_
  refine qq rfl rfl (ze6 rfl (show _=some (.v (.int .u8 35)) from by rw [firstC_get (bt_ge s 0) (bt_lt s 0),hx])) ?_
  refine rn ?_;refine za0 rfl (fun hc23=> ?_) (fun hc23=> ?_)
  ·first|cases hc23|exact absurd hc23 (by decide)|(exfalso;simp_all;done)
  ·refine rn ?_;refine qq rfl rfl (za5 rfl rfl (by decide) (by decide)) ?_
   refine rn ?_;refine za2 rfl (zb1 rfl fun b9=> ?_)
   refine rn ?_;refine za0 rfl (fun hc45=> ?_) (fun hc45=> ?_)
   ·refine rn ?_;have hd:za7 s=(65533,1):=by
     unfold za7
     rw [if_neg (by omega)]
     simp only [hx]
     rw [if_neg (by decide),if_pos (show (s.size:Int) < (35:Int) % 8 from of_decide_eq_true hc45)]
    exact retU rfl rfl (.drop1 _ _ _) ⟨rfl,by rw [hd];rfl⟩
   ·have h2:3≤s.size:=by
     have:¬((s.size:Int) < 3):=of_decide_eq_false hc45
     omega
    refine rn ?_;refine qq rfl rfl (zd1 1 rfl rfl (by omega)) ?_
    refine rn ?_;refine za8 (fun hg14_4=> ?_) (fun hg14_4=> ?_)
    ·refine rn ?_;refine za0 rfl (fun hc57=> ?_) (fun hc57=> ?_)
     ·refine rn ?_;have hd:za7 s=(65533,1):=by
       unfold za7
       rw [if_neg (by omega)]
       simp only [hx]
       rw [if_neg (by decide),if_neg (show ¬(s.size:Int) < (35:Int) % 8 from of_decide_eq_false hc45),if_pos (show bt s 1 < zf6 ((35:Int) / 16).toNat∨zf7 ((35:Int) / 16).toNat < bt s 1 from by first|exact .inl (of_decide_eq_true hg14_4)|exact .inr (of_decide_eq_true hc57))]
      exact retU rfl rfl (.drop1 _ _ _) ⟨rfl,by rw [hd];rfl⟩
     ·first|cases hc57|exact absurd hc57 (by decide)|(exfalso;simp_all;done)
    ·refine rn ?_;refine za0 rfl (fun hc57=> ?_) (fun hc57=> ?_)
     ·refine rn ?_;have hd:za7 s=(65533,1):=by
       unfold za7
       rw [if_neg (by omega)]
       simp only [hx]
       rw [if_neg (by decide),if_neg (show ¬(s.size:Int) < (35:Int) % 8 from of_decide_eq_false hc45),if_pos (show bt s 1 < zf6 ((35:Int) / 16).toNat∨zf7 ((35:Int) / 16).toNat < bt s 1 from by first|exact .inl (of_decide_eq_true hg14_4)|exact .inr (of_decide_eq_true hc57))]
      exact retU rfl rfl (.drop1 _ _ _) ⟨rfl,by rw [hd];rfl⟩
     ·refine rn ?_;refine za0 rfl (fun hc59=> ?_) (fun hc59=> ?_)
      ·first|cases hc59|exact absurd hc59 (by decide)|(exfalso;simp_all;done)
      ·refine rn ?_;refine qq rfl rfl (zd1 2 rfl rfl (by omega)) ?_
       refine rn ?_;refine za8 (fun hg19_2=> ?_) (fun hg19_2=> ?_)
       ·refine rn ?_;refine za0 rfl (fun hc75=> ?_) (fun hc75=> ?_)
        ·refine rn ?_;have hd:za7 s=(65533,1):=by
          unfold za7
          rw [if_neg (by omega)]
          simp only [hx]
          rw [if_neg (by decide),if_neg (show ¬(s.size:Int) < (35:Int) % 8 from of_decide_eq_false hc45),if_neg (show ¬(bt s 1 < zf6 ((35:Int) / 16).toNat∨zf7 ((35:Int) / 16).toNat < bt s 1) from fun q=>q.elim (of_decide_eq_false hg14_4) (of_decide_eq_false hc57)),if_neg (by decide),if_pos (show bt s 2 < 128∨191 < bt s 2 from by first|exact .inl (of_decide_eq_true hg19_2)|exact .inr (of_decide_eq_true hc75))]
         exact retU rfl rfl (.drop1 _ _ _) ⟨rfl,by rw [hd];rfl⟩
        ·first|cases hc75|exact absurd hc75 (by decide)|(exfalso;simp_all;done)
       ·refine rn ?_;refine za0 rfl (fun hc75=> ?_) (fun hc75=> ?_)
        ·refine rn ?_;have hd:za7 s=(65533,1):=by
          unfold za7
          rw [if_neg (by omega)]
          simp only [hx]
          rw [if_neg (by decide),if_neg (show ¬(s.size:Int) < (35:Int) % 8 from of_decide_eq_false hc45),if_neg (show ¬(bt s 1 < zf6 ((35:Int) / 16).toNat∨zf7 ((35:Int) / 16).toNat < bt s 1) from fun q=>q.elim (of_decide_eq_false hg14_4) (of_decide_eq_false hc57)),if_neg (by decide),if_pos (show bt s 2 < 128∨191 < bt s 2 from by first|exact .inl (of_decide_eq_true hg19_2)|exact .inr (of_decide_eq_true hc75))]
         exact retU rfl rfl (.drop1 _ _ _) ⟨rfl,by rw [hd];rfl⟩
        ·refine rn ?_;refine za0 rfl (fun hc77=> ?_) (fun hc77=> ?_)
         ·refine rn ?_;have hd:za7 s=(bI .or .i32 (bI .or .i32 (rbits (bt s 0) 15 12) (rbits (bt s 1) 63 6)) (rbits (bt s 2) 63 0),3):=by
           unfold za7
           rw [if_neg (by omega)]
           simp only [hx]
           rw [if_neg (by decide),if_neg (show ¬(s.size:Int) < (35:Int) % 8 from of_decide_eq_false hc45),if_neg (show ¬(bt s 1 < zf6 ((35:Int) / 16).toNat∨zf7 ((35:Int) / 16).toNat < bt s 1) from fun q=>q.elim (of_decide_eq_false hg14_4) (of_decide_eq_false hc57)),if_neg (by decide),if_neg (show ¬(bt s 2 < 128∨191 < bt s 2) from fun q=>q.elim (of_decide_eq_false hg19_2) (of_decide_eq_false hc75)),if_pos (by decide)]
          exact retU rfl rfl (.drop1 _ _ _) ⟨rfl,by rw [hd];rfl⟩
         ·first|cases hc77|exact absurd hc77 (by decide)|(exfalso;simp_all;done)
theorem decodeSlow52 (s:ByteArray) (hx:ze3 (bt s 0).toNat=52):za6 Tryz.prog 284 [.v (.string s)] [.glob 4 305 zb6,.glob 5 308 zb2] (fun r h'=>h'= [.glob 4 305 zb6,.glob 5 308 zb2]∧r= .tup [.v (.int .i32 (za7 s).1),iv (za7 s).2]):=by
 refine za1 Tryz.func284 rfl rfl rfl ?_
 refine rn ?_;refine za0 rfl (fun hc16=> ?_) (fun hc16=> ?_)
 ·refine rn ?_;have hd:za7 s=(65533,0):=by
   unfold za7
   rw [if_pos (by simp at hc16;omega)]
  exact retU rfl rfl (.refl _ _) ⟨rfl,by rw [hd];rfl⟩
 ·have h1 : 0 < s.size:=by simp at hc16;omega
  refine rn ?_;refine qq rfl rfl (zd1 0 rfl rfl (by omega)) ?_
  refine rn ?_;refine qq rfl rfl (za5 rfl rfl (bt_ge _ _) (bt_lt _ _)) ?_
  refine qq rfl rfl (ze6 rfl (show _=some (.v (.int .u8 52)) from by rw [firstC_get (bt_ge s 0) (bt_lt s 0),hx])) ?_
  refine rn ?_;refine za0 rfl (fun hc23=> ?_) (fun hc23=> ?_)
  ·first|cases hc23|exact absurd hc23 (by decide)|(exfalso;simp_all;done)
  ·refine rn ?_;refine qq rfl rfl (za5 rfl rfl (by decide) (by decide)) ?_
   refine rn ?_;refine za2 rfl (zb1 rfl fun b9=> ?_)
   refine rn ?_;refine za0 rfl (fun hc45=> ?_) (fun hc45=> ?_)
   ·refine rn ?_;have hd:za7 s=(65533,1):=by
     unfold za7
     rw [if_neg (by omega)]
     simp only [hx]
     rw [if_neg (by decide),if_pos (show (s.size:Int) < (52:Int) % 8 from of_decide_eq_true hc45)]
    exact retU rfl rfl (.drop1 _ _ _) ⟨rfl,by rw [hd];rfl⟩
   ·have h2 :4≤s.size:=by
     have:¬((s.size:Int) < 4):=of_decide_eq_false hc45
     omega
    refine rn ?_;refine qq rfl rfl (zd1 1 rfl rfl (by omega)) ?_
    refine rn ?_;refine za8 (fun hg14_4=> ?_) (fun hg14_4=> ?_)
    ·refine rn ?_;refine za0 rfl (fun hc57=> ?_) (fun hc57=> ?_)
     ·refine rn ?_;have hd:za7 s=(65533,1):=by
       unfold za7
       rw [if_neg (by omega)]
       simp only [hx]
       rw [if_neg (by decide),if_neg (show ¬(s.size:Int) < (52:Int) % 8 from of_decide_eq_false hc45),if_pos (show bt s 1 < zf6 ((52:Int) / 16).toNat∨zf7 ((52:Int) / 16).toNat < bt s 1 from by first|exact .inl (of_decide_eq_true hg14_4)|exact .inr (of_decide_eq_true hc57))]
      exact retU rfl rfl (.drop1 _ _ _) ⟨rfl,by rw [hd];rfl⟩
     ·first|cases hc57|exact absurd hc57 (by decide)|(exfalso;simp_all;done)
    ·refine rn ?_;refine za0 rfl (fun hc57=> ?_) (fun hc57=> ?_)
     ·refine rn ?_;have hd:za7 s=(65533,1):=by
       unfold za7
       rw [if_neg (by omega)]
       simp only [hx]
       rw [if_neg (by decide),if_neg (show ¬(s.size:Int) < (52:Int) % 8 from of_decide_eq_false hc45),if_pos (show bt s 1 < zf6 ((52:Int) / 16).toNat∨zf7 ((52:Int) / 16).toNat < bt s 1 from by first|exact .inl (of_decide_eq_true hg14_4)|exact .inr (of_decide_eq_true hc57))]
      exact retU rfl rfl (.drop1 _ _ _) ⟨rfl,by rw [hd];rfl⟩
     ·refine rn ?_;refine za0 rfl (fun hc59=> ?_) (fun hc59=> ?_)
      ·first|cases hc59|exact absurd hc59 (by decide)|(exfalso;simp_all;done)
      ·refine rn ?_;refine qq rfl rfl (zd1 2 rfl rfl (by omega)) ?_
       refine rn ?_;refine za8 (fun hg19_2=> ?_) (fun hg19_2=> ?_)
       ·refine rn ?_;refine za0 rfl (fun hc75=> ?_) (fun hc75=> ?_)
        ·refine rn ?_;have hd:za7 s=(65533,1):=by
          unfold za7
          rw [if_neg (by omega)]
          simp only [hx]
          rw [if_neg (by decide),if_neg (show ¬(s.size:Int) < (52:Int) % 8 from of_decide_eq_false hc45),if_neg (show ¬(bt s 1 < zf6 ((52:Int) / 16).toNat∨zf7 ((52:Int) / 16).toNat < bt s 1) from fun q=>q.elim (of_decide_eq_false hg14_4) (of_decide_eq_false hc57)),if_neg (by decide),if_pos (show bt s 2 < 128∨191 < bt s 2 from by first|exact .inl (of_decide_eq_true hg19_2)|exact .inr (of_decide_eq_true hc75))]
         exact retU rfl rfl (.drop1 _ _ _) ⟨rfl,by rw [hd];rfl⟩
        ·first|cases hc75|exact absurd hc75 (by decide)|(exfalso;simp_all;done)
       ·refine rn ?_;refine za0 rfl (fun hc75=> ?_) (fun hc75=> ?_)
        ·refine rn ?_;have hd:za7 s=(65533,1):=by
          unfold za7
          rw [if_neg (by omega)]
          simp only [hx]
          rw [if_neg (by decide),if_neg (show ¬(s.size:Int) < (52:Int) % 8 from of_decide_eq_false hc45),if_neg (show ¬(bt s 1 < zf6 ((52:Int) / 16).toNat∨zf7 ((52:Int) / 16).toNat < bt s 1) from fun q=>q.elim (of_decide_eq_false hg14_4) (of_decide_eq_false hc57)),if_neg (by decide),if_pos (show bt s 2 < 128∨191 < bt s 2 from by first|exact .inl (of_decide_eq_true hg19_2)|exact .inr (of_decide_eq_true hc75))]
         exact retU rfl rfl (.drop1 _ _ _) ⟨rfl,by rw [hd];rfl⟩
        ·refine rn ?_;refine za0 rfl (fun hc77=> ?_) (fun hc77=> ?_)
         ·first|cases hc77|exact absurd hc77 (by decide)|(exfalso;simp_all;done)
         ·refine rn ?_;refine qq rfl rfl (zd1 3 rfl rfl (by omega)) ?_
          refine rn ?_;refine za8 (fun hg24_2=> ?_) (fun hg24_2=> ?_)
          ·refine rn ?_;refine za0 rfl (fun hc98=> ?_) (fun hc98=> ?_)
           ·refine rn ?_;have hd:za7 s=(65533,1):=by
             unfold za7
             rw [if_neg (by omega)]
             simp only [hx]
             rw [if_neg (by decide),if_neg (show ¬(s.size:Int) < (52:Int) % 8 from of_decide_eq_false hc45),if_neg (show ¬(bt s 1 < zf6 ((52:Int) / 16).toNat∨zf7 ((52:Int) / 16).toNat < bt s 1) from fun q=>q.elim (of_decide_eq_false hg14_4) (of_decide_eq_false hc57)),if_neg (by decide),if_neg (show ¬(bt s 2 < 128∨191 < bt s 2) from fun q=>q.elim (of_decide_eq_false hg19_2) (of_decide_eq_false hc75)),if_neg (by decide),if_pos (show bt s 3 < 128∨191 < bt s 3 from by first|exact .inl (of_decide_eq_true hg24_2)|exact .inr (of_decide_eq_true hc98))]
            exact retU rfl rfl (.drop1 _ _ _) ⟨rfl,by rw [hd];rfl⟩
           ·first|cases hc98|exact absurd hc98 (by decide)|(exfalso;simp_all;done)
          ·refine rn ?_;refine za0 rfl (fun hc98=> ?_) (fun hc98=> ?_)
           ·refine rn ?_;have hd:za7 s=(65533,1):=by
             unfold za7
             rw [if_neg (by omega)]
             simp only [hx]
             rw [if_neg (by decide),if_neg (show ¬(s.size:Int) < (52:Int) % 8 from of_decide_eq_false hc45),if_neg (show ¬(bt s 1 < zf6 ((52:Int) / 16).toNat∨zf7 ((52:Int) / 16).toNat < bt s 1) from fun q=>q.elim (of_decide_eq_false hg14_4) (of_decide_eq_false hc57)),if_neg (by decide),if_neg (show ¬(bt s 2 < 128∨191 < bt s 2) from fun q=>q.elim (of_decide_eq_false hg19_2) (of_decide_eq_false hc75)),if_neg (by decide),if_pos (show bt s 3 < 128∨191 < bt s 3 from by first|exact .inl (of_decide_eq_true hg24_2)|exact .inr (of_decide_eq_true hc98))]
            exact retU rfl rfl (.drop1 _ _ _) ⟨rfl,by rw [hd];rfl⟩
           ·refine rn ?_;have hd:za7 s=(bI .or .i32 (bI .or .i32 (bI .or .i32 (rbits (bt s 0) 7 18) (rbits (bt s 1) 63 12)) (rbits (bt s 2) 63 6)) (rbits (bt s 3) 63 0),4):=by
             unfold za7
             rw [if_neg (by omega)]
             simp only [hx]
             rw [if_neg (by decide),if_neg (show ¬(s.size:Int) < (52:Int) % 8 from of_decide_eq_false hc45),if_neg (show ¬(bt s 1 < zf6 ((52:Int) / 16).toNat∨zf7 ((52:Int) / 16).toNat < bt s 1) from fun q=>q.elim (of_decide_eq_false hg14_4) (of_decide_eq_false hc57)),if_neg (by decide),if_neg (show ¬(bt s 2 < 128∨191 < bt s 2) from fun q=>q.elim (of_decide_eq_false hg19_2) (of_decide_eq_false hc75)),if_neg (by decide),if_neg (show ¬(bt s 3 < 128∨191 < bt s 3) from fun q=>q.elim (of_decide_eq_false hg24_2) (of_decide_eq_false hc98))]
            exact retU rfl rfl (.drop1 _ _ _) ⟨rfl,by rw [hd];rfl⟩
theorem decodeSlow4 (s:ByteArray) (hx:ze3 (bt s 0).toNat=4):za6 Tryz.prog 284 [.v (.string s)] [.glob 4 305 zb6,.glob 5 308 zb2] (fun r h'=>h'= [.glob 4 305 zb6,.glob 5 308 zb2]∧r= .tup [.v (.int .i32 (za7 s).1),iv (za7 s).2]):=by
 refine za1 Tryz.func284 rfl rfl rfl ?_
 refine rn ?_;refine za0 rfl (fun hc16=> ?_) (fun hc16=> ?_)
 ·refine rn ?_;have hd:za7 s=(65533,0):=by
   unfold za7
   rw [if_pos (by simp at hc16;omega)]
  exact retU rfl rfl (.refl _ _) ⟨rfl,by rw [hd];rfl⟩
 ·have h1 : 0 < s.size:=by simp at hc16;omega
  refine rn ?_;refine qq rfl rfl (zd1 0 rfl rfl (by omega)) ?_
  refine rn ?_;refine qq rfl rfl (za5 rfl rfl (bt_ge _ _) (bt_lt _ _)) ?_
  refine qq rfl rfl (ze6 rfl (show _=some (.v (.int .u8 4)) from by rw [firstC_get (bt_ge s 0) (bt_lt s 0),hx])) ?_
  refine rn ?_;refine za0 rfl (fun hc23=> ?_) (fun hc23=> ?_)
  ·first|cases hc23|exact absurd hc23 (by decide)|(exfalso;simp_all;done)
  ·refine rn ?_;refine qq rfl rfl (za5 rfl rfl (by decide) (by decide)) ?_
   refine rn ?_;refine za2 rfl (zb1 rfl fun b9=> ?_)
   refine rn ?_;refine za0 rfl (fun hc45=> ?_) (fun hc45=> ?_)
   ·refine rn ?_;have hd:za7 s=(65533,1):=by
     unfold za7
     rw [if_neg (by omega)]
     simp only [hx]
     rw [if_neg (by decide),if_pos (show (s.size:Int) < (4:Int) % 8 from of_decide_eq_true hc45)]
    exact retU rfl rfl (.drop1 _ _ _) ⟨rfl,by rw [hd];rfl⟩
   ·have h2 :4≤s.size:=by
     have:¬((s.size:Int) < 4):=of_decide_eq_false hc45
     omega
    refine rn ?_;refine qq rfl rfl (zd1 1 rfl rfl (by omega)) ?_
    refine rn ?_;refine za8 (fun hg14_4=> ?_) (fun hg14_4=> ?_)
    ·refine rn ?_;refine za0 rfl (fun hc57=> ?_) (fun hc57=> ?_)
     ·refine rn ?_;have hd:za7 s=(65533,1):=by
       unfold za7
       rw [if_neg (by omega)]
       simp only [hx]
       rw [if_neg (by decide),if_neg (show ¬(s.size:Int) < (4:Int) % 8 from of_decide_eq_false hc45),if_pos (show bt s 1 < zf6 ((4:Int) / 16).toNat∨zf7 ((4:Int) / 16).toNat < bt s 1 from by first|exact .inl (of_decide_eq_true hg14_4)|exact .inr (of_decide_eq_true hc57))]
      exact retU rfl rfl (.drop1 _ _ _) ⟨rfl,by rw [hd];rfl⟩
     ·first|cases hc57|exact absurd hc57 (by decide)|(exfalso;simp_all;done)
    ·refine rn ?_;refine za0 rfl (fun hc57=> ?_) (fun hc57=> ?_)
     ·refine rn ?_;have hd:za7 s=(65533,1):=by
       unfold za7
       rw [if_neg (by omega)]
       simp only [hx]
       rw [if_neg (by decide),if_neg (show ¬(s.size:Int) < (4:Int) % 8 from of_decide_eq_false hc45),if_pos (show bt s 1 < zf6 ((4:Int) / 16).toNat∨zf7 ((4:Int) / 16).toNat < bt s 1 from by first|exact .inl (of_decide_eq_true hg14_4)|exact .inr (of_decide_eq_true hc57))]
      exact retU rfl rfl (.drop1 _ _ _) ⟨rfl,by rw [hd];rfl⟩
     ·refine rn ?_;refine za0 rfl (fun hc59=> ?_) (fun hc59=> ?_)
      ·first|cases hc59|exact absurd hc59 (by decide)|(exfalso;simp_all;done)
      ·refine rn ?_;refine qq rfl rfl (zd1 2 rfl rfl (by omega)) ?_
       refine rn ?_;refine za8 (fun hg19_2=> ?_) (fun hg19_2=> ?_)
       ·refine rn ?_;refine za0 rfl (fun hc75=> ?_) (fun hc75=> ?_)
        ·refine rn ?_;have hd:za7 s=(65533,1):=by
          unfold za7
          rw [if_neg (by omega)]
          simp only [hx]
          rw [if_neg (by decide),if_neg (show ¬(s.size:Int) < (4:Int) % 8 from of_decide_eq_false hc45),if_neg (show ¬(bt s 1 < zf6 ((4:Int) / 16).toNat∨zf7 ((4:Int) / 16).toNat < bt s 1) from fun q=>q.elim (of_decide_eq_false hg14_4) (of_decide_eq_false hc57)),if_neg (by decide),if_pos (show bt s 2 < 128∨191 < bt s 2 from by first|exact .inl (of_decide_eq_true hg19_2)|exact .inr (of_decide_eq_true hc75))]
         exact retU rfl rfl (.drop1 _ _ _) ⟨rfl,by rw [hd];rfl⟩
        ·first|cases hc75|exact absurd hc75 (by decide)|(exfalso;simp_all;done)
       ·refine rn ?_;refine za0 rfl (fun hc75=> ?_) (fun hc75=> ?_)
        ·refine rn ?_;have hd:za7 s=(65533,1):=by
          unfold za7
          rw [if_neg (by omega)]
          simp only [hx]
          rw [if_neg (by decide),if_neg (show ¬(s.size:Int) < (4:Int) % 8 from of_decide_eq_false hc45),if_neg (show ¬(bt s 1 < zf6 ((4:Int) / 16).toNat∨zf7 ((4:Int) / 16).toNat < bt s 1) from fun q=>q.elim (of_decide_eq_false hg14_4) (of_decide_eq_false hc57)),if_neg (by decide),if_pos (show bt s 2 < 128∨191 < bt s 2 from by first|exact .inl (of_decide_eq_true hg19_2)|exact .inr (of_decide_eq_true hc75))]
         exact retU rfl rfl (.drop1 _ _ _) ⟨rfl,by rw [hd];rfl⟩
        ·refine rn ?_;refine za0 rfl (fun hc77=> ?_) (fun hc77=> ?_)
         ·first|cases hc77|exact absurd hc77 (by decide)|(exfalso;simp_all;done)
         ·refine rn ?_;refine qq rfl rfl (zd1 3 rfl rfl (by omega)) ?_
          refine rn ?_;refine za8 (fun hg24_2=> ?_) (fun hg24_2=> ?_)
          ·refine rn ?_;refine za0 rfl (fun hc98=> ?_) (fun hc98=> ?_)
           ·refine rn ?_;have hd:za7 s=(65533,1):=by
             unfold za7
             rw [if_neg (by omega)]
             simp only [hx]
             rw [if_neg (by decide),if_neg (show ¬(s.size:Int) < (4:Int) % 8 from of_decide_eq_false hc45),if_neg (show ¬(bt s 1 < zf6 ((4:Int) / 16).toNat∨zf7 ((4:Int) / 16).toNat < bt s 1) from fun q=>q.elim (of_decide_eq_false hg14_4) (of_decide_eq_false hc57)),if_neg (by decide),if_neg (show ¬(bt s 2 < 128∨191 < bt s 2) from fun q=>q.elim (of_decide_eq_false hg19_2) (of_decide_eq_false hc75)),if_neg (by decide),if_pos (show bt s 3 < 128∨191 < bt s 3 from by first|exact .inl (of_decide_eq_true hg24_2)|exact .inr (of_decide_eq_true hc98))]
            exact retU rfl rfl (.drop1 _ _ _) ⟨rfl,by rw [hd];rfl⟩
           ·first|cases hc98|exact absurd hc98 (by decide)|(exfalso;simp_all;done)
          ·refine rn ?_;refine za0 rfl (fun hc98=> ?_) (fun hc98=> ?_)
           ·refine rn ?_;have hd:za7 s=(65533,1):=by
             unfold za7
             rw [if_neg (by omega)]
             simp only [hx]
             rw [if_neg (by decide),if_neg (show ¬(s.size:Int) < (4:Int) % 8 from of_decide_eq_false hc45),if_neg (show ¬(bt s 1 < zf6 ((4:Int) / 16).toNat∨zf7 ((4:Int) / 16).toNat < bt s 1) from fun q=>q.elim (of_decide_eq_false hg14_4) (of_decide_eq_false hc57)),if_neg (by decide),if_neg (show ¬(bt s 2 < 128∨191 < bt s 2) from fun q=>q.elim (of_decide_eq_false hg19_2) (of_decide_eq_false hc75)),if_neg (by decide),if_pos (show bt s 3 < 128∨191 < bt s 3 from by first|exact .inl (of_decide_eq_true hg24_2)|exact .inr (of_decide_eq_true hc98))]
            exact retU rfl rfl (.drop1 _ _ _) ⟨rfl,by rw [hd];rfl⟩
           ·refine rn ?_;have hd:za7 s=(bI .or .i32 (bI .or .i32 (bI .or .i32 (rbits (bt s 0) 7 18) (rbits (bt s 1) 63 12)) (rbits (bt s 2) 63 6)) (rbits (bt s 3) 63 0),4):=by
             unfold za7
             rw [if_neg (by omega)]
             simp only [hx]
             rw [if_neg (by decide),if_neg (show ¬(s.size:Int) < (4:Int) % 8 from of_decide_eq_false hc45),if_neg (show ¬(bt s 1 < zf6 ((4:Int) / 16).toNat∨zf7 ((4:Int) / 16).toNat < bt s 1) from fun q=>q.elim (of_decide_eq_false hg14_4) (of_decide_eq_false hc57)),if_neg (by decide),if_neg (show ¬(bt s 2 < 128∨191 < bt s 2) from fun q=>q.elim (of_decide_eq_false hg19_2) (of_decide_eq_false hc75)),if_neg (by decide),if_neg (show ¬(bt s 3 < 128∨191 < bt s 3) from fun q=>q.elim (of_decide_eq_false hg24_2) (of_decide_eq_false hc98))]
            exact retU rfl rfl (.drop1 _ _ _) ⟨rfl,by rw [hd];rfl⟩
theorem decodeSlow68 (s:ByteArray) (hx:ze3 (bt s 0).toNat=68):za6 Tryz.prog 284 [.v (.string s)] [.glob 4 305 zb6,.glob 5 308 zb2] (fun r h'=>h'= [.glob 4 305 zb6,.glob 5 308 zb2]∧r= .tup [.v (.int .i32 (za7 s).1),iv (za7 s).2]):=by
 refine za1 Tryz.func284 rfl rfl rfl ?_
 refine rn ?_;refine za0 rfl (fun hc16=> ?_) (fun hc16=> ?_)
 ·refine rn ?_;have hd:za7 s=(65533,0):=by
   unfold za7
   rw [if_pos (by simp at hc16;omega)]
  exact retU rfl rfl (.refl _ _) ⟨rfl,by rw [hd];rfl⟩
 ·have h1 : 0 < s.size:=by simp at hc16;omega
  refine rn ?_;refine qq rfl rfl (zd1 0 rfl rfl (by omega)) ?_
  refine rn ?_;refine qq rfl rfl (za5 rfl rfl (bt_ge _ _) (bt_lt _ _)) ?_
  refine qq rfl rfl (ze6 rfl (show _=some (.v (.int .u8 68)) from by rw [firstC_get (bt_ge s 0) (bt_lt s 0),hx])) ?_
  refine rn ?_;refine za0 rfl (fun hc23=> ?_) (fun hc23=> ?_)
  ·first|cases hc23|exact absurd hc23 (by decide)|(exfalso;simp_all;done)
  ·refine rn ?_;refine qq rfl rfl (za5 rfl rfl (by decide) (by decide)) ?_
   refine rn ?_;refine za2 rfl (zb1 rfl fun b9=> ?_)
   refine rn ?_;refine za0 rfl (fun hc45=> ?_) (fun hc45=> ?_)
   ·refine rn ?_;have hd:za7 s=(65533,1):=by
     unfold za7
     rw [if_neg (by omega)]
     simp only [hx]
     rw [if_neg (by decide),if_pos (show (s.size:Int) < (68:Int) % 8 from of_decide_eq_true hc45)]
    exact retU rfl rfl (.drop1 _ _ _) ⟨rfl,by rw [hd];rfl⟩
   ·have h2 :4≤s.size:=by
     have:¬((s.size:Int) < 4):=of_decide_eq_false hc45
     omega
    refine rn ?_;refine qq rfl rfl (zd1 1 rfl rfl (by omega)) ?_
    refine rn ?_;refine za8 (fun hg14_4=> ?_) (fun hg14_4=> ?_)
    ·refine rn ?_;refine za0 rfl (fun hc57=> ?_) (fun hc57=> ?_)
     ·refine rn ?_;have hd:za7 s=(65533,1):=by
       unfold za7
       rw [if_neg (by omega)]
       simp only [hx]
       rw [if_neg (by decide),if_neg (show ¬(s.size:Int) < (68:Int) % 8 from of_decide_eq_false hc45),if_pos (show bt s 1 < zf6 ((68:Int) / 16).toNat∨zf7 ((68:Int) / 16).toNat < bt s 1 from by first|exact .inl (of_decide_eq_true hg14_4)|exact .inr (of_decide_eq_true hc57))]
      exact retU rfl rfl (.drop1 _ _ _) ⟨rfl,by rw [hd];rfl⟩
     ·first|cases hc57|exact absurd hc57 (by decide)|(exfalso;simp_all;done)
    ·refine rn ?_;refine za0 rfl (fun hc57=> ?_) (fun hc57=> ?_)
     ·refine rn ?_;have hd:za7 s=(65533,1):=by
       unfold za7
       rw [if_neg (by omega)]
       simp only [hx]
       rw [if_neg (by decide),if_neg (show ¬(s.size:Int) < (68:Int) % 8 from of_decide_eq_false hc45),if_pos (show bt s 1 < zf6 ((68:Int) / 16).toNat∨zf7 ((68:Int) / 16).toNat < bt s 1 from by first|exact .inl (of_decide_eq_true hg14_4)|exact .inr (of_decide_eq_true hc57))]
      exact retU rfl rfl (.drop1 _ _ _) ⟨rfl,by rw [hd];rfl⟩
     ·refine rn ?_;refine za0 rfl (fun hc59=> ?_) (fun hc59=> ?_)
      ·first|cases hc59|exact absurd hc59 (by decide)|(exfalso;simp_all;done)
      ·refine rn ?_;refine qq rfl rfl (zd1 2 rfl rfl (by omega)) ?_
       refine rn ?_;refine za8 (fun hg19_2=> ?_) (fun hg19_2=> ?_)
       ·refine rn ?_;refine za0 rfl (fun hc75=> ?_) (fun hc75=> ?_)
        ·refine rn ?_;have hd:za7 s=(65533,1):=by
          unfold za7
          rw [if_neg (by omega)]
          simp only [hx]
          rw [if_neg (by decide),if_neg (show ¬(s.size:Int) < (68:Int) % 8 from of_decide_eq_false hc45),if_neg (show ¬(bt s 1 < zf6 ((68:Int) / 16).toNat∨zf7 ((68:Int) / 16).toNat < bt s 1) from fun q=>q.elim (of_decide_eq_false hg14_4) (of_decide_eq_false hc57)),if_neg (by decide),if_pos (show bt s 2 < 128∨191 < bt s 2 from by first|exact .inl (of_decide_eq_true hg19_2)|exact .inr (of_decide_eq_true hc75))]
         exact retU rfl rfl (.drop1 _ _ _) ⟨rfl,by rw [hd];rfl⟩
        ·first|cases hc75|exact absurd hc75 (by decide)|(exfalso;simp_all;done)
       ·refine rn ?_;refine za0 rfl (fun hc75=> ?_) (fun hc75=> ?_)
        ·refine rn ?_;have hd:za7 s=(65533,1):=by
          unfold za7
          rw [if_neg (by omega)]
          simp only [hx]
          rw [if_neg (by decide),if_neg (show ¬(s.size:Int) < (68:Int) % 8 from of_decide_eq_false hc45),if_neg (show ¬(bt s 1 < zf6 ((68:Int) / 16).toNat∨zf7 ((68:Int) / 16).toNat < bt s 1) from fun q=>q.elim (of_decide_eq_false hg14_4) (of_decide_eq_false hc57)),if_neg (by decide),if_pos (show bt s 2 < 128∨191 < bt s 2 from by first|exact .inl (of_decide_eq_true hg19_2)|exact .inr (of_decide_eq_true hc75))]
         exact retU rfl rfl (.drop1 _ _ _) ⟨rfl,by rw [hd];rfl⟩
        ·refine rn ?_;refine za0 rfl (fun hc77=> ?_) (fun hc77=> ?_)
         ·first|cases hc77|exact absurd hc77 (by decide)|(exfalso;simp_all;done)
         ·refine rn ?_;refine qq rfl rfl (zd1 3 rfl rfl (by omega)) ?_
          refine rn ?_;refine za8 (fun hg24_2=> ?_) (fun hg24_2=> ?_)
          ·refine rn ?_;refine za0 rfl (fun hc98=> ?_) (fun hc98=> ?_)
           ·refine rn ?_;have hd:za7 s=(65533,1):=by
             unfold za7
             rw [if_neg (by omega)]
             simp only [hx]
             rw [if_neg (by decide),if_neg (show ¬(s.size:Int) < (68:Int) % 8 from of_decide_eq_false hc45),if_neg (show ¬(bt s 1 < zf6 ((68:Int) / 16).toNat∨zf7 ((68:Int) / 16).toNat < bt s 1) from fun q=>q.elim (of_decide_eq_false hg14_4) (of_decide_eq_false hc57)),if_neg (by decide),if_neg (show ¬(bt s 2 < 128∨191 < bt s 2) from fun q=>q.elim (of_decide_eq_false hg19_2) (of_decide_eq_false hc75)),if_neg (by decide),if_pos (show bt s 3 < 128∨191 < bt s 3 from by first|exact .inl (of_decide_eq_true hg24_2)|exact .inr (of_decide_eq_true hc98))]
            exact retU rfl rfl (.drop1 _ _ _) ⟨rfl,by rw [hd];rfl⟩
           ·first|cases hc98|exact absurd hc98 (by decide)|(exfalso;simp_all;done)
          ·refine rn ?_;refine za0 rfl (fun hc98=> ?_) (fun hc98=> ?_)
           ·refine rn ?_;have hd:za7 s=(65533,1):=by
             unfold za7
             rw [if_neg (by omega)]
             simp only [hx]
             rw [if_neg (by decide),if_neg (show ¬(s.size:Int) < (68:Int) % 8 from of_decide_eq_false hc45),if_neg (show ¬(bt s 1 < zf6 ((68:Int) / 16).toNat∨zf7 ((68:Int) / 16).toNat < bt s 1) from fun q=>q.elim (of_decide_eq_false hg14_4) (of_decide_eq_false hc57)),if_neg (by decide),if_neg (show ¬(bt s 2 < 128∨191 < bt s 2) from fun q=>q.elim (of_decide_eq_false hg19_2) (of_decide_eq_false hc75)),if_neg (by decide),if_pos (show bt s 3 < 128∨191 < bt s 3 from by first|exact .inl (of_decide_eq_true hg24_2)|exact .inr (of_decide_eq_true hc98))]
            exact retU rfl rfl (.drop1 _ _ _) ⟨rfl,by rw [hd];rfl⟩
           ·refine rn ?_;have hd:za7 s=(bI .or .i32 (bI .or .i32 (bI .or .i32 (rbits (bt s 0) 7 18) (rbits (bt s 1) 63 12)) (rbits (bt s 2) 63 6)) (rbits (bt s 3) 63 0),4):=by
             unfold za7
             rw [if_neg (by omega)]
             simp only [hx]
             rw [if_neg (by decide),if_neg (show ¬(s.size:Int) < (68:Int) % 8 from of_decide_eq_false hc45),if_neg (show ¬(bt s 1 < zf6 ((68:Int) / 16).toNat∨zf7 ((68:Int) / 16).toNat < bt s 1) from fun q=>q.elim (of_decide_eq_false hg14_4) (of_decide_eq_false hc57)),if_neg (by decide),if_neg (show ¬(bt s 2 < 128∨191 < bt s 2) from fun q=>q.elim (of_decide_eq_false hg19_2) (of_decide_eq_false hc75)),if_neg (by decide),if_neg (show ¬(bt s 3 < 128∨191 < bt s 3) from fun q=>q.elim (of_decide_eq_false hg24_2) (of_decide_eq_false hc98))]
            exact retU rfl rfl (.drop1 _ _ _) ⟨rfl,by rw [hd];rfl⟩
theorem decodeSlow (s:ByteArray):za6 Tryz.prog 284 [.v (.string s)] [.glob 4 305 zb6,.glob 5 308 zb2] (fun r h'=>h'= [.glob 4 305 zb6,.glob 5 308 zb2]∧r= .tup [.v (.int .i32 (za7 s).1),iv (za7 s).2]):=by
 rcases firstV_cases (bt s 0).toNat with hx|hx|hx|hx|hx|hx|hx|hx|hx
 ·exact decodeSlow240 s hx
 ·exact decodeSlow241 s hx
 ·exact decodeSlow2 s hx
 ·exact decodeSlow19 s hx
 ·exact decodeSlow3 s hx
 ·exact decodeSlow35 s hx
 ·exact decodeSlow52 s hx
 ·exact decodeSlow4 s hx
 ·exact decodeSlow68 s hx
theorem decodeRune (s:ByteArray):za6 Tryz.prog 281 [.v (.string s)] [.glob 4 305 zb6,.glob 5 308 zb2] (fun r h'=>h'= [.glob 4 305 zb6,.glob 5 308 zb2]∧r= .tup [.v (.int .i32 (decStr s).1),iv (decStr s).2]):=by
 refine za1 Tryz.func281 rfl rfl rfl ?_
 refine rn ?_;refine za8 (fun hg1_2=> ?_) (fun hg1_2=> ?_)
 ·refine rn ?_;have h1:0 < s.size:=str_ne hg1_2
  refine qq rfl rfl (zd1 0 rfl rfl (by omega)) ?_
  refine rn ?_;refine za0 rfl (fun hc10=> ?_) (fun hc10=> ?_)
  ·refine rn ?_;refine qq rfl rfl (zd1 0 rfl rfl (by omega)) ?_
   refine rn ?_;have hd:decStr s=(bt s 0,1):=by
    unfold decStr
    exact if_pos ⟨str_ne hg1_2,of_decide_eq_true hc10⟩
   exact retU rfl rfl (.refl _ _) ⟨rfl,by rw [hd];exact congrArg (fun c=>AV.tup [.v (.int .i32 c),iv 1]) (bt_wrap s 0)⟩
  ·refine rn ?_;refine qv rfl rfl (za4 rfl rfl (za3.of_fun (decodeSlow s))) ?_
   refine rn ?_;have hd:decStr s=za7 s:=by
    unfold decStr
    exact if_neg fun q=>by first|exact str_eq hg1_2 q.1|exact absurd q.2 (of_decide_eq_false hc10)
   exact retU rfl rfl (.refl _ _) ⟨rfl,by rw [hd];rfl⟩
 ·refine rn ?_;refine aw_cf rfl ?_;refine rn ?_;refine qv rfl rfl (za4 rfl rfl (za3.of_fun (decodeSlow s))) ?_
  refine rn ?_;have hd:decStr s=za7 s:=by
   unfold decStr
   exact if_neg fun q=>by first|exact str_eq hg1_2 q.1|exact absurd q.2 (of_decide_eq_false hc10)
  exact retU rfl rfl (.refl _ _) ⟨rfl,by rw [hd];rfl⟩
theorem equalInt {f g:Bool} (l m:List Int) (hl:l.length≤4611686018427387904) (hm:m.length≤4611686018427387904):za6 Tryz.prog 25 [.list f 1 (l.map intR),.list g 1 (m.map intR)] [] (fun r h'=>h'= []∧r=bv (eqF intEq l m)):=by
 refine za1 Tryz.func25 rfl rfl rfl ?_
 refine rn ?_;refine za0 rfl (fun hc10=> ?_) (fun hc10=> ?_)
 ·refine rn ?_;have hne:(l.length==m.length)=false:=beq_eq_false_iff_ne.2 fun q=>by simp [q] at hc10
  exact retT rfl (.refl _ _) ⟨rfl,by rw [eqF,hne,Bool.false_and];rfl⟩
 ·have hlm:l.length=m.length:=by simp at hc10;omega
  refine rn ?_;refine zd4 (fun k:Nat=>k≤l.length∧zall intEq l m=zall intEq (l.drop k) (m.drop k)) (fun k=>⟨[(13,iv k),(12,iv (l.map intR).length),(0,.list f 1 (l.map intR)),(1,.list g 1 (m.map intR))],[],[]⟩) (fun k=>l.length - k) 0 ⟨Nat.zero_le _,by simp⟩
   (zb8 (.cons _ _ _ rfl (.cons _ _ _ rfl (.cons _ _ _ rfl (.cons _ _ _ rfl (.nil)))))) ?_
  rintro k ⟨hk,hz⟩
  refine rn ?_;refine za0 rfl (fun hc14=> ?_) (fun hc14=> ?_)
  ·have hk2:k < l.length:=by simpa using hc14
   have hk3:k < m.length:=by omega
   have hrow1:(l.map intR)[k]? =some (intR l[k]):=by simp [hk2]
   have hrow2:(m.map intR)[k]? =some (intR m[k]):=by simp [hk3]
   have hd1:=List.drop_eq_getElem_cons hk2
   have hd2:=List.drop_eq_getElem_cons hk3
   refine rn ?_;refine zd2 8 rfl ?_
   refine rn ?_;refine za0 rfl (fun hc24=> ?_) (fun hc24=> ?_)
   ·refine rn ?_;exact retT rfl (.refl _ _) ⟨rfl,by rw [eqF,hz,hd1,hd2,zall,show intEq l[k] m[k]=false from not_t hc24,Bool.false_and,Bool.and_false];rfl⟩
   ·refine rn ?_;exact ⟨k+1,⟨by omega,by rw [hz,hd1,hd2,zall,show intEq l[k] m[k]=true from not_f hc24,Bool.true_and]⟩,(zb8 (.cons _ _ _ rfl (.cons _ _ _ rfl (.cons _ _ _ rfl (.cons _ _ _ rfl (.nil)))))),by omega⟩
  ·have hk3:k=l.length:=by
    have:l.length≤k:=by simpa using hc14
    omega
   refine rn ?_;exact retT rfl (.refl _ _) ⟨rfl,by rw [eqF,hz,hk3,List.drop_length,zall_nil,hlm,beq_self_eq_true];rfl⟩
theorem equalSeen {f g:Bool} (l m:List Seen) (hl:l.length≤4611686018427387904) (hm:m.length≤4611686018427387904):za6 Tryz.prog 271 [.list f 3 (l.map ze9),.list g 3 (m.map ze9)] [] (fun r h'=>h'= []∧r=bv (eqF seenEq l m)):=by
 refine za1 Tryz.func271 rfl rfl rfl ?_
 refine rn ?_;refine za0 rfl (fun hc10=> ?_) (fun hc10=> ?_)
 ·refine rn ?_;have hne:(l.length==m.length)=false:=beq_eq_false_iff_ne.2 fun q=>by simp [q] at hc10
  exact retT rfl (.refl _ _) ⟨rfl,by rw [eqF,hne,Bool.false_and];rfl⟩
 ·have hlm:l.length=m.length:=by simp at hc10;omega
  refine rn ?_;refine zd4 (fun k:Nat=>k≤l.length∧zall seenEq l m=zall seenEq (l.drop k) (m.drop k)) (fun k=>⟨[(13,iv k),(12,iv (l.map ze9).length),(0,.list f 3 (l.map ze9)),(1,.list g 3 (m.map ze9))],[],[]⟩) (fun k=>l.length - k) 0 ⟨Nat.zero_le _,by simp⟩
   (zb8 (.cons _ _ _ rfl (.cons _ _ _ rfl (.cons _ _ _ rfl (.cons _ _ _ rfl (.nil)))))) ?_
  rintro k ⟨hk,hz⟩
  refine rn ?_;refine za0 rfl (fun hc14=> ?_) (fun hc14=> ?_)
  ·have hk2:k < l.length:=by simpa using hc14
   have hk3:k < m.length:=by omega
   have hrow1:(l.map ze9)[k]? =some (ze9 l[k]):=by simp [hk2]
   have hrow2:(m.map ze9)[k]? =some (ze9 m[k]):=by simp [hk3]
   have hd1:=List.drop_eq_getElem_cons hk2
   have hd2:=List.drop_eq_getElem_cons hk3
   refine rn ?_;refine zd2 8 rfl ?_
   refine rn ?_;refine za0 rfl (fun hc24=> ?_) (fun hc24=> ?_)
   ·refine rn ?_;exact retT rfl (.refl _ _) ⟨rfl,by rw [eqF,hz,hd1,hd2,zall,show seenEq l[k] m[k]=false from not_t hc24,Bool.false_and,Bool.and_false];rfl⟩
   ·refine rn ?_;exact ⟨k+1,⟨by omega,by rw [hz,hd1,hd2,zall,show seenEq l[k] m[k]=true from not_f hc24,Bool.true_and]⟩,(zb8 (.cons _ _ _ rfl (.cons _ _ _ rfl (.cons _ _ _ rfl (.cons _ _ _ rfl (.nil)))))),by omega⟩
  ·have hk3:k=l.length:=by
    have:l.length≤k:=by simpa using hc14
    omega
   refine rn ?_;exact retT rfl (.refl _ _) ⟨rfl,by rw [eqF,hz,hk3,List.drop_length,zall_nil,hlm,beq_self_eq_true];rfl⟩
theorem levelCheck (l:Int):za6 Tryz.prog 232 [iv l] [] (fun r h'=>h'= []∧r=iv (levB l)):=by
 refine za1 Tryz.func232 rfl rfl rfl ?_
 refine rn ?_;refine za8 (fun hg1_2=> ?_) (fun hg1_2=> ?_)
 ·refine rn ?_;refine aw_ct rfl ?_;refine rn ?_;exact retT rfl (.refl _ _) ⟨rfl,congrArg iv (by simp_all [levB])⟩
 ·refine rn ?_;refine za0 rfl (fun hc8=> ?_) (fun hc8=> ?_)
  ·refine rn ?_;exact retT rfl (.refl _ _) ⟨rfl,congrArg iv (by simp_all [levB])⟩
  ·refine rn ?_;exact retT rfl (.refl _ _) ⟨rfl,congrArg iv (by simp_all [levB])⟩
theorem lexNumber (c:Int):za6 Tryz.prog 224 [.v (.int .i32 c)] [] (fun r h'=>h'= []∧r=bv (numB c)):=by
 refine za1 Tryz.func224 rfl rfl rfl ?_
 refine rn ?_;refine za8 (fun hg1_2=> ?_) (fun hg1_2=> ?_)
 ·refine rn ?_;exact retT rfl (.refl _ _) ⟨rfl,congrArg bv (by first|(simp only [numB, *,Bool.true_and,Bool.false_and,Bool.and_false,Bool.and_true,Bool.true_or,Bool.or_false,Bool.false_or,Bool.or_true,if_true,if_false,Bool.false_eq_true,Bool.not_true,Bool.not_false];done)|(simp_all [numB];done)|(simp_all [numB] <;> omega))⟩
 ·refine rn ?_;exact retT rfl (.refl _ _) ⟨rfl,congrArg bv (by first|(simp only [numB, *,Bool.true_and,Bool.false_and,Bool.and_false,Bool.and_true,Bool.true_or,Bool.or_false,Bool.false_or,Bool.or_true,if_true,if_false,Bool.false_eq_true,Bool.not_true,Bool.not_false];done)|(simp_all [numB];done)|(simp_all [numB] <;> omega))⟩
theorem bvz0_3234 {a b:Bool} (h:a=b:=by first|(simp only [letB, *,Bool.true_and,Bool.false_and,Bool.and_false,Bool.and_true,Bool.true_or,Bool.or_false,Bool.false_or,Bool.or_true,if_true,if_false,Bool.false_eq_true,Bool.not_true,Bool.not_false];done)|(simp_all [letB];done)|(simp_all [letB] <;> omega)):bv a=bv b:=congrArg bv h
theorem lexLetter (c:Int):za6 Tryz.prog 267 [.v (.int .i32 c)] [] (fun r h'=>h'= []∧r=bv (letB c)):=by
 refine za1 Tryz.func267 rfl rfl rfl ?_
 refine rn ?_;refine za8 (fun hg1_2=> ?_) (fun hg1_2=> ?_)
 ·refine rn ?_;exact retT rfl (.refl _ _) ⟨rfl,bvz0_3234⟩
 ·refine rn ?_;refine za8 (fun hg1_5=> ?_) (fun hg1_5=> ?_)
  ·refine rn ?_;refine za8 (fun hg1_10=> ?_) (fun hg1_10=> ?_)
   ·refine rn ?_;exact retT rfl (.refl _ _) ⟨rfl,bvz0_3234⟩
   ·refine rn ?_;refine za8 (fun hg1_13=> ?_) (fun hg1_13=> ?_)
    ·refine rn ?_;refine za8 (fun hg1_18=> ?_) (fun hg1_18=> ?_)
     ·refine rn ?_;exact retT rfl (.refl _ _) ⟨rfl,bvz0_3234⟩
     ·refine rn ?_;exact retT rfl (.refl _ _) ⟨rfl,bvz0_3234⟩
    ·refine rn ?_;exact retT rfl (.refl _ _) ⟨rfl,bvz0_3234⟩
  ·refine rn ?_;refine za8 (fun hg1_13=> ?_) (fun hg1_13=> ?_)
   ·refine rn ?_;refine za8 (fun hg1_18=> ?_) (fun hg1_18=> ?_)
    ·refine rn ?_;exact retT rfl (.refl _ _) ⟨rfl,bvz0_3234⟩
    ·refine rn ?_;exact retT rfl (.refl _ _) ⟨rfl,bvz0_3234⟩
   ·refine rn ?_;exact retT rfl (.refl _ _) ⟨rfl,bvz0_3234⟩
theorem lexEither (c:Int):za6 Tryz.prog 226 [.v (.int .i32 c)] [] (fun r h'=>h'= []∧r=bv (letB c||numB c)):=by
 refine za1 Tryz.func226 rfl rfl rfl ?_
 refine rn ?_;refine qv rfl rfl (za4 rfl rfl (zc0 (lexLetter _) (Sbs.refl _))) ?_
 refine rn ?_;refine za8 (fun hg1_2=> ?_) (fun hg1_2=> ?_)
 ·refine rn ?_;exact retT rfl (.refl _ _) ⟨rfl,congrArg bv (by first|(simp only [*,Bool.true_and,Bool.false_and,Bool.and_false,Bool.and_true,Bool.true_or,Bool.or_false,Bool.false_or,Bool.or_true,if_true,if_false,Bool.false_eq_true,Bool.not_true,Bool.not_false];done)|(simp_all;done)|(simp_all <;> omega))⟩
 ·refine rn ?_;refine qv rfl rfl (za4 rfl rfl (zc0 (lexNumber _) (Sbs.refl _))) ?_
  refine rn ?_;exact retT rfl (.refl _ _) ⟨rfl,congrArg bv (by first|(simp only [*,Bool.true_and,Bool.false_and,Bool.and_false,Bool.and_true,Bool.true_or,Bool.or_false,Bool.false_or,Bool.or_true,if_true,if_false,Bool.false_eq_true,Bool.not_true,Bool.not_false];done)|(simp_all;done)|(simp_all <;> omega))⟩
theorem names (h:Hist):za6 Tryz.prog 142 [.agg (zb0 h)] [] (fun r h'=>h'= []∧r= .agg (namesC h)):=by
 refine za1 Tryz.func142 rfl rfl rfl ?_
 refine rn ?_;refine za2 rfl (zb5 rfl rfl rfl fun b1=> ?_)
 refine za2 rfl (zb1 rfl fun b2=> ?_)
 refine rn ?_;exact retq (.cons _ _ _ _ (.agg _ _ _ _ _ _ _ rfl inferInstance inferInstance inferInstance rfl) .nil) (.drop [_,_] _ _) ⟨rfl,rfl⟩
theorem told (h:Hist) (sort:Nat) (n:Int) (l:List ByteArray) (hs:(namesC h)[sort]? =some (strsA l)) (hs4:sort < 4):za6 Tryz.prog 191 [.agg (zb0 h),iv sort,iv n] [] (fun r h'=>h'= []∧r=bv (toldB l n)):=by
 refine za1 Tryz.func191 rfl rfl rfl ?_
 refine rn ?_;refine za2 rfl (zb5 rfl rfl rfl fun b3=> ?_)
 refine rn ?_;refine za8 (fun hg1_2=> ?_) (fun hg1_2=> ?_)
 ·refine rn ?_;refine qv rfl rfl (za4 rfl rfl (zc0 (names _) (Sbs.refl _))) ?_
  refine q1 ?_;refine qq rfl rfl (qr_index_arr_one rfl rfl (by omega) (by simpa using hs)) ?_
  refine rn ?_;exact retT rfl (.drop1 _ _ _) ⟨rfl,congrArg bv (by first|(simp only [toldB, *,Bool.true_and,Bool.false_and,Bool.and_false,Bool.and_true,Bool.true_or,Bool.or_false,Bool.false_or,Bool.or_true,if_true,if_false,Bool.false_eq_true,Bool.not_true,Bool.not_false];done)|(simp_all [toldB];done)|(simp_all [toldB] <;> omega))⟩
 ·refine rn ?_;exact retT rfl (.drop1 _ _ _) ⟨rfl,congrArg bv (by first|(simp only [toldB, *,Bool.true_and,Bool.false_and,Bool.and_false,Bool.and_true,Bool.true_or,Bool.or_false,Bool.false_or,Bool.or_true,if_true,if_false,Bool.false_eq_true,Bool.not_true,Bool.not_false];done)|(simp_all [toldB];done)|(simp_all [toldB] <;> omega))⟩
theorem bvz1_6853 {a b:Bool} (h:a=b:=by first|(simp only [verB, *,Bool.true_and,Bool.false_and,Bool.and_false,Bool.and_true,Bool.true_or,Bool.or_false,Bool.false_or,Bool.or_true,if_true,if_false,Bool.false_eq_true,Bool.not_true,Bool.not_false];done)|(simp_all [verB];done)|(simp_all [verB] <;> omega)):bv a=bv b:=congrArg bv h
theorem version (h:Hist) (v:Ver):za6 Tryz.prog 234 [.agg (zb0 h),.agg (verR v)] [] (fun r h'=>h'= []∧r=bv (verB h.ts v)):=by
 refine za1 Tryz.func234 rfl rfl rfl ?_
 refine rn ?_;refine za2 rfl (zb5 rfl rfl rfl fun b2=> ?_)
 refine za2 rfl (zb5 rfl rfl rfl fun b3=> ?_)
 refine rn ?_;refine za0 rfl (fun hc7=> ?_) (fun hc7=> ?_)
 ·refine rn ?_;exact retT rfl (.drop [_,_] _ _) ⟨rfl,bvz1_6853⟩
 ·refine rn ?_;refine qv rfl rfl (za4 rfl rfl (zc0 (told _ 0 _ _ rfl (by decide)) (Sbs.refl _))) ?_
  refine rn ?_;refine za8 (fun hg3_4=> ?_) (fun hg3_4=> ?_)
  ·refine rn ?_;refine za8 (fun hg3_9=> ?_) (fun hg3_9=> ?_)
   ·refine rn ?_;exact retT rfl (.drop [_,_] _ _) ⟨rfl,bvz1_6853⟩
   ·refine rn ?_;exact retT rfl (.drop [_,_] _ _) ⟨rfl,bvz1_6853⟩
  ·refine rn ?_;exact retT rfl (.drop [_,_] _ _) ⟨rfl,bvz1_6853⟩
theorem bvz2_2536 {a b:Bool} (h:a=b:=by first|(simp only [evEq, *,Bool.true_and,Bool.false_and,Bool.and_false,Bool.and_true,Bool.true_or,Bool.or_false,Bool.false_or,Bool.or_true,if_true,if_false,Bool.false_eq_true,Bool.not_true,Bool.not_false];done)|(simp_all [evEq];done)|(simp_all [evEq] <;> omega)):bv a=bv b:=congrArg bv h
theorem sameEvent (a b:Ev) (ha:a.scan.length≤4611686018427387904) (hb:b.scan.length≤4611686018427387904):za6 Tryz.prog 241 [.agg (evR a),.agg (evR b)] [] (fun r h'=>h'= []∧r=bv (evEq a b)):=by
 refine za1 Tryz.func241 rfl rfl rfl ?_
 refine rn ?_;refine za2 rfl (zb5 rfl rfl rfl fun b2=> ?_)
 refine za2 rfl (zb5 rfl rfl rfl fun b3=> ?_)
 refine rn ?_;refine za8 (fun hg1_5=> ?_) (fun hg1_5=> ?_)
 ·refine rn ?_;refine za8 (fun hg1_12=> ?_) (fun hg1_12=> ?_)
  ·refine rn ?_;refine za8 (fun hg1_19=> ?_) (fun hg1_19=> ?_)
   ·refine rn ?_;refine za8 (fun hg2_1=> ?_) (fun hg2_1=> ?_)
    ·refine rn ?_;refine za8 (fun hg2_8=> ?_) (fun hg2_8=> ?_)
     ·refine rn ?_;refine za8 (fun hg2_15=> ?_) (fun hg2_15=> ?_)
      ·refine rn ?_;refine za8 (fun hg2_22=> ?_) (fun hg2_22=> ?_)
       ·refine rn ?_;refine qv rfl rfl (za4 rfl rfl (zc0 (equalSeen _ _ ha hb) (Sbs.refl _))) ?_
        refine rn ?_;exact retT rfl (.drop [_,_] _ _) ⟨rfl,bvz2_2536⟩
       ·refine rn ?_;exact retT rfl (.drop [_,_] _ _) ⟨rfl,bvz2_2536⟩
      ·refine rn ?_;exact retT rfl (.drop [_,_] _ _) ⟨rfl,bvz2_2536⟩
     ·refine rn ?_;exact retT rfl (.drop [_,_] _ _) ⟨rfl,bvz2_2536⟩
    ·refine rn ?_;exact retT rfl (.drop [_,_] _ _) ⟨rfl,bvz2_2536⟩
   ·refine rn ?_;exact retT rfl (.drop [_,_] _ _) ⟨rfl,bvz2_2536⟩
  ·refine rn ?_;exact retT rfl (.drop [_,_] _ _) ⟨rfl,bvz2_2536⟩
 ·refine rn ?_;exact retT rfl (.drop [_,_] _ _) ⟨rfl,bvz2_2536⟩
theorem runeTold (s:ByteArray) (i:Nat) (c:Int) (bs bi bc:Nat) (hi:i≤s.size):za6 Tryz.prog 280 [pZ bs,pZ bi,pZ bc] [.box bs 9 [sv s],.box bi 3 [iv (i:Nat)],.box bc 21 [.v (.int .i32 c)],.glob 4 305 zb6,.glob 5 308 zb2] (fun r h'=>h'= [.box bs 9 [sv s],.box bi 3 [iv (i:Nat)],.box bc 21 [.v (.int .i32 c)],.glob 4 305 zb6,.glob 5 308 zb2]∧r= .tup [.v (.int .i32 c),bv (toldF s i c)]):=by
 refine za1 Tryz.func280 rfl rfl rfl ?_
 refine zb4 (za9 ?_)
 refine q1 ?_;refine q1 ?_;refine zd5 (zd8 ?_)
 refine zb4 (za9 ?_)
 refine q1 ?_;refine q1 ?_;refine qq rfl rfl (qr_slice_string_l rfl rfl hi) ?_
 refine qv rfl rfl (za4 rfl rfl (za3.quiet (R:=fun x=>x=_) (h2:= [_,_,_]) (List.perm_append_comm (l₁:= [_,_,_])) (za3.of_fun (decodeRune (s.extract i s.size))))) ?_
 refine rn ?_;refine za8 (fun hg2_3=> ?_) (fun hg2_3=> ?_)
 ·refine rn ?_;exact retU rfl rfl (.refl _ _) ⟨rfl,congrArg (fun b=>AV.tup [.v (.int .i32 c),bv b]) (by first|(simp only [toldF, *,Bool.true_and,Bool.false_and,Bool.and_false,Bool.and_true,Bool.true_or,Bool.or_false,Bool.false_or,Bool.or_true,if_true,if_false,Bool.false_eq_true,Bool.not_true,Bool.not_false];done)|(simp_all [toldF];done))⟩
 ·refine rn ?_;exact retU rfl rfl (.refl _ _) ⟨rfl,congrArg (fun b=>AV.tup [.v (.int .i32 c),bv b]) (by first|(simp only [toldF, *,Bool.true_and,Bool.false_and,Bool.and_false,Bool.and_true,Bool.true_or,Bool.or_false,Bool.false_or,Bool.or_true,if_true,if_false,Bool.false_eq_true,Bool.not_true,Bool.not_false];done)|(simp_all [toldF];done))⟩
theorem runesIter (s:ByteArray) (bs:Nat) (y:AV) (p:Nat→Int→Bool) (I:List Res→Prop) (J:Nat→List Res→Prop) (hy:∀(i bi bc it:Nat) (L:List Res),i < s.size→I L→za3 Tryz.prog y [iv i,.fn (.func 280) [] [pZ bs,pZ bi,pZ bc]] (.box bc 21 [.v (.int .i32 (Utf8.decode s i).1)]:: .box bi 3 [iv (i:Nat)]:: .obj it (.stringIter s (i+(Utf8.decode s i).2)):: .box bs 9 [sv s]::L) (fun r h'=>∃L',h'= .box bc 21 [.v (.int .i32 (Utf8.decode s i).1)]:: .box bi 3 [iv (i:Nat)]:: .obj it (.stringIter s (i+(Utf8.decode s i).2)):: .box bs 9 [sv s]::L'∧((p i (Utf8.decode s i).1=true∧r=bv true∧I L')∨(p i (Utf8.decode s i).1=false∧r=bv false∧J i L')))) (L0:List Res) (h0:I L0):za6 Tryz.prog 279 [y,pZ bs] (.box bs 9 [sv s]::L0) (fun r h'=>∃L',h'= .box bs 9 [sv s]::L'∧((whileF s p 0=s.size∧I L')∨(whileF s p 0 < s.size∧J (whileF s p 0) L'))):=by
 refine za1 Tryz.func279 rfl rfl rfl ?_
 refine rn ?_;refine za2 rfl (oe_range_str rfl rfl fun b7=> ?_)
 refine rn ?_;refine zd4 (fun x:Nat×List Res=>whileF s p 0=whileF s p x.1∧I x.2) (fun x=>⟨[(7,pZ b7),(0,y),(1,pZ bs)],.obj b7 (.stringIter s x.1):: .box bs 9 [sv s]::x.2,[]⟩) (fun x=>s.size - x.1) (0,L0) ⟨rfl,h0⟩
  (zb8 (.cons _ _ _ rfl (.cons _ _ _ rfl (.cons _ _ _ rfl (.nil))))) ?_
 rintro ⟨k,L⟩ ⟨hw,hI⟩
 simp only at hw hI
 refine zb4 (za9 ?_)
 refine za2 rfl (oe_next_str rfl rfl (fun hp=> ?_) (fun hp=> ?_))
 ·refine rn ?_;refine za0 rfl (fun hc9=> ?_) (fun hc9=> ?_)
  ·first|cases hc9|exact absurd hc9 (by decide)|(exfalso;simp_all;done)
  ·refine rn ?_;exact retq_n .nil (.drop1 _ _ _) ⟨_,rfl,.inl ⟨by rw [hw,whileF_end hp],hI⟩⟩
 ·refine rn ?_;refine za0 rfl (fun hc9=> ?_) (fun hc9=> ?_)
  ·refine rn ?_;refine za2 rfl (zb1 rfl fun b3=> ?_)
   refine za2 rfl (zb1 rfl fun b4=> ?_)
   first|refine za2 rfl (oe_store_all rfl rfl rfl ?_)|refine za2 rfl (oe_store rfl rfl rfl rfl (Nat.le_of_ble_eq_true rfl) ?_)
   first|refine za2 rfl (oe_store_all rfl rfl rfl ?_)|refine za2 rfl (oe_store rfl rfl rfl rfl (Nat.le_of_ble_eq_true rfl) ?_)
   refine zd5 (zd8 ?_)
   refine zb4 (za9 ?_)
   refine q1 ?_;refine q1 ?_;refine zd5 (zd8 ?_)
   refine zb4 (za9 ?_)
   refine q1 ?_;refine q1 ?_;refine q1 ?_;refine za2 rfl (zc3 rfl rfl (hy k b3 b4 b7 L hp hI) rfl ?_)
   rintro av h' ⟨L',rfl,⟨hp1,rfl,hI2⟩|⟨hp1,rfl,hJ⟩⟩
   ·refine rn ?_;refine za0 rfl (fun hc17=> ?_) (fun hc17=> ?_)
    ·first|cases hc17|exact absurd hc17 (by decide)|(exfalso;simp_all;done)
    ·refine rn ?_;exact ⟨(k+(Utf8.decode s k).2,L'),⟨hw.trans (whileF_go hp hp1),hI2⟩,(zc5 (ent_drop (h1:= [_,_])) (zb8 (.cons _ _ _ rfl (.cons _ _ _ rfl (.cons _ _ _ rfl (.nil)))))),by have:=width_pos s k;simp only at hp ⊢;omega⟩
   ·refine rn ?_;refine za0 rfl (fun hc17=> ?_) (fun hc17=> ?_)
    ·refine rn ?_;exact retq .nil (.drop [_,_,_] _ _) ⟨_,rfl,.inr (by rw [hw,whileF_stop hp hp1];exact ⟨hp,hJ⟩)⟩
    ·first|cases hc17|exact absurd hc17 (by decide)|(exfalso;simp_all;done)
  ·first|cases hc9|exact absurd hc9 (by decide)|(exfalso;simp_all;done)
theorem runes (s:ByteArray) (h:List Res):za6 Tryz.prog 266 [sv s] h (fun r h'=>∃bs,h'= .box bs 9 [sv s]::h∧r= .fn (.func 279) [] [pZ bs]):=by
 refine za1 Tryz.func266 rfl rfl rfl ?_
 refine rn ?_;refine za2 rfl (zb5 rfl rfl rfl fun b1=> ?_)
 refine rn ?_;exact retT rfl (.refl _ _) ⟨_,rfl,rfl⟩
theorem lexWhile (s:ByteArray) (fv:AV) (g:Int→Bool) (hone:fv.cellsOf=some [fv]) (hgo:∀c h,za3 Tryz.prog fv [.v (.int .i32 c)] h (fun r h'=>h'=h∧r=bv (g c))):za6 Tryz.prog 225 [sv s,fv] [.glob 4 305 zb6,.glob 5 308 zb2] (fun r h'=>h'= [.glob 4 305 zb6,.glob 5 308 zb2]∧r=iv (whileF s (okRune s g) 0:Nat)):=by
 refine za1 Tryz.func225 rfl rfl rfl ?_
 refine rn ?_;refine za2 rfl (zb5 rfl hone rfl fun b3=> ?_)
 refine rn ?_;refine aw_scope ?_;refine rn ?_;refine za2 rfl (zb1 rfl fun b5=> ?_)
 refine rn ?_;refine za2 rfl (zc3 rfl rfl (za3.of_fun (runes s _)) rfl ?_)
 rintro _ _ ⟨bs,rfl,rfl⟩
 refine rn ?_;refine aw_rf (fun pend h''=>(pend=none∨pend=some (.exit 0))∧h''= .box bs 9 [sv s]:: .box b5 3 [iv (whileF s (okRune s g) 0:Nat)]:: .box b3 270 [fv]:: [.glob 4 305 zb6,.glob 5 308 zb2]) rfl (fun fn l q lp hlp=> ?_) (fun q h'' hK=> ?_) (fun q h'' c hK=> ?_)
 ·suffices hy:∀(i bi bc it:Nat) (L:List Res),i < s.size→L=lp .ready none:: .defs q:: .box b5 3 [iv s.size]:: .box b3 270 [fv]:: [.glob 4 305 zb6,.glob 5 308 zb2]→za3 Tryz.prog (yv l) [iv i,.fn (.func 280) [] [pZ bs,pZ bi,pZ bc]] (.box bc 21 [.v (.int .i32 (Utf8.decode s i).1)]:: .box bi 3 [iv (i:Nat)]:: .obj it (.stringIter s (i+(Utf8.decode s i).2)):: .box bs 9 [sv s]::L)
   (fun r h'=>∃L',h'= .box bc 21 [.v (.int .i32 (Utf8.decode s i).1)]:: .box bi 3 [iv (i:Nat)]:: .obj it (.stringIter s (i+(Utf8.decode s i).2)):: .box bs 9 [sv s]::L'∧((okRune s g i (Utf8.decode s i).1=true∧r=bv true∧L'=lp .ready none:: .defs q:: .box b5 3 [iv s.size]:: .box b3 270 [fv]:: [.glob 4 305 zb6,.glob 5 308 zb2])∨(okRune s g i (Utf8.decode s i).1=false∧r=bv false∧L'=lp .done (some (.exit 0)):: .defs q:: .box b5 3 [iv (i:Nat)]:: .box b3 270 [fv]:: [.glob 4 305 zb6,.glob 5 308 zb2]))) by
   refine za6.mono (za6.perm (pt2 _ _ _ _) (runesIter s bs (yv l) (okRune s g) _ (fun i L=>L=lp .done (some (.exit 0)):: .defs q:: .box b5 3 [iv (i:Nat)]:: .box b3 270 [fv]:: [.glob 4 305 zb6,.glob 5 308 zb2]) hy _ rfl)) ?_
   rintro _ _ ⟨L',rfl,⟨hw,rfl⟩|⟨hw,rfl⟩⟩
   ·exact ⟨_,_,_,(pt2 _ _ _ _).symm,by simp,.inl rfl,by rw [hw]⟩
   ·exact ⟨_,_,_,(pt2 _ _ _ _).symm,by simp,.inr rfl,rfl⟩
  rintro i bi bc it _ hi rfl
  refine za3.perm (pt4 _ _ _ _ _ _) (za3.permR (fcall_yl hlp rfl rfl ?_))
  refine rn ?_;refine ⟨[(6,iv (i:Nat)),(7,.fn (.func 280) [] [pZ bs,pZ bi,pZ bc]),(5,pZ b5),(3,pZ b3)],zb8 (.cons _ _ _ rfl (.cons _ _ _ rfl (.cons _ _ _ rfl (.cons _ _ _ rfl .nil)))),?_⟩
  refine rn ?_;refine qv rfl rfl (za4 rfl rfl (za3.qt (za3.of_acall (fs:= []) (cs:= [pZ bs,pZ bi,pZ bc]) (runeTold s i (Utf8.decode s i).1 bs bi bc (by omega))) ((pt4 _ _ _ _ _ _).trans (.cons _ ((pt2 _ _ _ _).trans (.cons _ ((pt1 _ _ _).trans (.cons _ ((pt5 _ _ _ _ _ _ _).trans (.cons _ (pt5 _ _ _ _ _ _ _))))))))))) ?_
  refine rn ?_;refine za8 (fun hg6_2=> ?_) (fun hg6_2=> ?_)
  ·refine rn ?_;refine aw_ct rfl ?_;refine rn ?_;exact round_e (.refl _) ⟨_,((pt1 _ _ _).trans (.cons _ ((pt1 _ _ _).trans (.cons _ ((pt1 _ _ _).trans (.cons _ (pt1 _ _ _))))))),_,rfl,.inr ⟨by simp_all [okRune],rfl,rfl⟩⟩
  ·refine rn ?_;refine qv rfl rfl (za4 rfl rfl (hgo _ _)) ?_
   refine rn ?_;refine za0 rfl (fun hc28=> ?_) (fun hc28=> ?_)
   ·refine rn ?_;exact round_e (.refl _) ⟨_,((pt1 _ _ _).trans (.cons _ ((pt1 _ _ _).trans (.cons _ ((pt1 _ _ _).trans (.cons _ (pt1 _ _ _))))))),_,rfl,.inr ⟨by simp_all [okRune],rfl,rfl⟩⟩
   ·refine rn ?_;exact round_n (.refl _) ⟨_,((pt1 _ _ _).trans (.cons _ ((pt1 _ _ _).trans (.cons _ ((pt1 _ _ _).trans (.cons _ (pt1 _ _ _))))))),_,rfl,.inl ⟨by simp_all [okRune],rfl,rfl⟩⟩
 ·obtain ⟨_,rfl⟩:=hK
  refine rn ?_;refine ⟨fun l h=>(by cases h),?_⟩
  exact retqd (.refl _) (.cons _ _ _ _ (.tmp _ _ rfl) .nil) (.drop [_,_,_] _ _) ⟨rfl,rfl⟩
 ·obtain ⟨hc,rfl⟩:=hK
  obtain rfl:c= .exit 0:=by simpa using hc
  refine rn ?_;refine ⟨fun l h=>(by cases h),?_⟩
  exact retqd (.refl _) (.cons _ _ _ _ (.tmp _ _ rfl) .nil) (.drop [_,_,_] _ _) ⟨rfl,rfl⟩
theorem bvz3_192 {a b:Bool} (h:a=b:=by first|(simp only [wordB, *,Bool.true_and,Bool.false_and,Bool.and_false,Bool.and_true,Bool.true_or,Bool.or_false,Bool.false_or,Bool.or_true,if_true,if_false,Bool.false_eq_true,Bool.not_true,Bool.not_false];done)|(simp_all [wordB,bt_wrap];done)):bv a=bv b:=congrArg bv h
theorem word (s:ByteArray):za6 Tryz.prog 187 [sv s] [.glob 4 305 zb6,.glob 5 308 zb2] (fun r h'=>h'= [.glob 4 305 zb6,.glob 5 308 zb2]∧r=bv (wordB s)):=by
 refine za1 Tryz.func187 rfl rfl rfl ?_
 refine rn ?_;refine za8 (fun hg1_2=> ?_) (fun hg1_2=> ?_)
 ·refine rn ?_;refine za8 (fun hg1_7=> ?_) (fun hg1_7=> ?_)
  ·refine rn ?_;have h1:0 < s.size:=str_ne hg1_2
   refine qq rfl rfl (zd1 0 rfl rfl (by omega)) ?_
   refine rn ?_;refine qv rfl rfl (za4 rfl rfl (zc0 (lexNumber _) (Sbs.refl _))) ?_
   refine rn ?_;refine za8 (fun hg1_14=> ?_) (fun hg1_14=> ?_)
   ·refine rn ?_;refine qv rfl rfl (za4 rfl rfl (za3.of_fun (lexWhile s (.fn (.func 226) [] []) eitherB rfl (fun c h=>(zc0 (lexEither c) (Sbs.refl _)))))) ?_
    refine rn ?_;exact retT rfl (.refl _ _) ⟨rfl,bvz3_192⟩
   ·refine rn ?_;exact retT rfl (.refl _ _) ⟨rfl,bvz3_192⟩
  ·refine rn ?_;exact retT rfl (.refl _ _) ⟨rfl,bvz3_192⟩
 ·refine rn ?_;exact retT rfl (.refl _ _) ⟨rfl,bvz3_192⟩
theorem event1 (e:Ev) (h:Hist) (be bh:Nat):za6 Tryz.prog 231 [pZ be,pZ bh] [.box be 60 (evR e),.box bh 28 (zb0 h)] (fun r h'=>h'= [.box be 60 (evR e),.box bh 28 (zb0 h)]∧r= .tup [.agg (evR ⟨0,0,e.s,e.l,0,⟨0,0⟩,0,[]⟩),bv (mayBegin h e)]):=by
 refine za1 Tryz.func231 rfl rfl rfl ?_
 refine rn ?_;refine za2 rfl (zb1 rfl fun b2=> ?_)
 refine rn ?_;refine aw_drawS 16 [(b2,60,_)] rfl (List.perm_append_comm (l₁:= [_])) ?_
 refine rn ?_;refine dv rfl rfl (by exact za4 rfl rfl (zc0 (told _ 1 _ _ rfl (by decide)) (Sbs.refl _))) ?_
 refine rn ?_;refine dsplit (fun hg1_9=> ?_) (fun hg1_9=> ?_)
 ·refine rn ?_;refine dv rfl rfl (by exact za4 rfl rfl (zc0 (levelCheck _) (Sbs.refl _))) ?_
  refine rn ?_;refine dw 0 rfl rfl rfl rfl rfl (Nat.le_of_ble_eq_true rfl) ?_
  refine rn2 ?_;show aops _ _ _ _ _ _ ⟨_,.box b2 60 _::_,_⟩
  refine rn ?_;exact retq (.cons _ _ _ _ (.agg _ _ _ _ _ _ _ rfl inferInstance inferInstance inferInstance rfl) (.cons _ _ _ _ (.tmp _ _ rfl) .nil)) (.trans (.drop1 _ _ _) (vent_tup2 (by exact Sb.aggs (by exact ⟨.refl _,.refl _,.refl _,.refl _,.refl _,.refl _,.refl _,.refl _,.nil _ _,trivial⟩)) (by exact .refl _))) ⟨rfl,congrArg (fun b=>AV.tup [.agg (evR ⟨0,0,e.s,e.l,0,⟨0,0⟩,0,[]⟩),bv b]) (by first|(simp only [mayBegin, *,Bool.true_and,Bool.false_and,Bool.and_false,Bool.and_true,Bool.true_or,Bool.or_false,Bool.false_or,Bool.or_true,if_true,if_false,Bool.false_eq_true,Bool.not_true,Bool.not_false];done)|(simp_all [mayBegin];done)|(simp_all [mayBegin] <;> omega))⟩
 ·refine rn ?_;refine dw 0 rfl rfl rfl rfl rfl (Nat.le_of_ble_eq_true rfl) ?_
  refine rn2 ?_;show aops _ _ _ _ _ _ ⟨_,.box b2 60 _::_,_⟩
  refine rn ?_;exact retq (.cons _ _ _ _ (.agg _ _ _ _ _ _ _ rfl inferInstance inferInstance inferInstance rfl) (.cons _ _ _ _ (.tmp _ _ rfl) .nil)) (.trans (.drop1 _ _ _) (vent_tup2 (by exact Sb.aggs (by exact ⟨.refl _,.refl _,.refl _,.refl _,.refl _,.refl _,.refl _,.refl _,.nil _ _,trivial⟩)) (by exact .refl _))) ⟨rfl,congrArg (fun b=>AV.tup [.agg (evR ⟨0,0,e.s,e.l,0,⟨0,0⟩,0,[]⟩),bv b]) (by first|(simp only [mayBegin, *,Bool.true_and,Bool.false_and,Bool.and_false,Bool.and_true,Bool.true_or,Bool.or_false,Bool.false_or,Bool.or_true,if_true,if_false,Bool.false_eq_true,Bool.not_true,Bool.not_false];done)|(simp_all [mayBegin];done)|(simp_all [mayBegin] <;> omega))⟩
theorem event2 (e:Ev) (h:Hist) (be bh:Nat):za6 Tryz.prog 233 [pZ be,pZ bh] [.box be 60 (evR e),.box bh 28 (zb0 h)] (fun r h'=>h'= [.box be 60 (evR e),.box bh 28 (zb0 h)]∧r= .tup [.agg (evR ⟨0,0,0,0,e.o,e.v,0,[]⟩),bv (mayWrite h e)]):=by
 refine za1 Tryz.func233 rfl rfl rfl ?_
 refine rn ?_;refine za2 rfl (zb1 rfl fun b2=> ?_)
 refine rn ?_;refine aw_drawS 30 [(b2,60,_)] rfl (List.perm_append_comm (l₁:= [_])) ?_
 refine rn ?_;refine dv rfl rfl (by exact za4 rfl rfl (zc0 (told _ 2 _ _ rfl (by decide)) (Sbs.refl _))) ?_
 refine rn ?_;refine dsplit (fun hg1_9=> ?_) (fun hg1_9=> ?_)
 ·refine rn ?_;refine dv rfl rfl (by exact za4 rfl rfl (zc0 (version h e.v) (Sbs.refl _))) ?_
  refine rn ?_;refine dsplit (fun hg1_15=> ?_) (fun hg1_15=> ?_)
  ·refine rn ?_;refine dsplit (fun hg1_23=> ?_) (fun hg1_23=> ?_)
   ·refine rn ?_;refine dw 0 rfl rfl rfl rfl rfl (Nat.le_of_ble_eq_true rfl) ?_
    refine rn2 ?_;show aops _ _ _ _ _ _ ⟨_,.box b2 60 _::_,_⟩
    refine rn ?_;exact retq (.cons _ _ _ _ (.agg _ _ _ _ _ _ _ rfl inferInstance inferInstance inferInstance rfl) (.cons _ _ _ _ (.tmp _ _ rfl) .nil)) (.trans (.drop1 _ _ _) (vent_tup2 (by exact Sb.aggs (by exact ⟨.refl _,.refl _,.refl _,.refl _,.refl _,.refl _,.refl _,.refl _,.nil _ _,trivial⟩)) (by exact .refl _))) ⟨rfl,congrArg (fun b=>AV.tup [.agg (evR ⟨0,0,0,0,e.o,e.v,0,[]⟩),bv b]) (by first|(simp only [mayWrite, *,Bool.true_and,Bool.false_and,Bool.and_false,Bool.and_true,Bool.true_or,Bool.or_false,Bool.false_or,Bool.or_true,if_true,if_false,Bool.false_eq_true,Bool.not_true,Bool.not_false];done)|(simp_all [mayWrite];done)|(simp_all [mayWrite] <;> omega))⟩
   ·refine rn ?_;refine dw 0 rfl rfl rfl rfl rfl (Nat.le_of_ble_eq_true rfl) ?_
    refine rn2 ?_;show aops _ _ _ _ _ _ ⟨_,.box b2 60 _::_,_⟩
    refine rn ?_;exact retq (.cons _ _ _ _ (.agg _ _ _ _ _ _ _ rfl inferInstance inferInstance inferInstance rfl) (.cons _ _ _ _ (.tmp _ _ rfl) .nil)) (.trans (.drop1 _ _ _) (vent_tup2 (by exact Sb.aggs (by exact ⟨.refl _,.refl _,.refl _,.refl _,.refl _,.refl _,.refl _,.refl _,.nil _ _,trivial⟩)) (by exact .refl _))) ⟨rfl,congrArg (fun b=>AV.tup [.agg (evR ⟨0,0,0,0,e.o,e.v,0,[]⟩),bv b]) (by first|(simp only [mayWrite, *,Bool.true_and,Bool.false_and,Bool.and_false,Bool.and_true,Bool.true_or,Bool.or_false,Bool.false_or,Bool.or_true,if_true,if_false,Bool.false_eq_true,Bool.not_true,Bool.not_false];done)|(simp_all [mayWrite];done)|(simp_all [mayWrite] <;> omega))⟩
  ·refine rn ?_;refine dw 0 rfl rfl rfl rfl rfl (Nat.le_of_ble_eq_true rfl) ?_
   refine rn2 ?_;show aops _ _ _ _ _ _ ⟨_,.box b2 60 _::_,_⟩
   refine rn ?_;exact retq (.cons _ _ _ _ (.agg _ _ _ _ _ _ _ rfl inferInstance inferInstance inferInstance rfl) (.cons _ _ _ _ (.tmp _ _ rfl) .nil)) (.trans (.drop1 _ _ _) (vent_tup2 (by exact Sb.aggs (by exact ⟨.refl _,.refl _,.refl _,.refl _,.refl _,.refl _,.refl _,.refl _,.nil _ _,trivial⟩)) (by exact .refl _))) ⟨rfl,congrArg (fun b=>AV.tup [.agg (evR ⟨0,0,0,0,e.o,e.v,0,[]⟩),bv b]) (by first|(simp only [mayWrite, *,Bool.true_and,Bool.false_and,Bool.and_false,Bool.and_true,Bool.true_or,Bool.or_false,Bool.false_or,Bool.or_true,if_true,if_false,Bool.false_eq_true,Bool.not_true,Bool.not_false];done)|(simp_all [mayWrite];done)|(simp_all [mayWrite] <;> omega))⟩
 ·refine rn ?_;refine dw 0 rfl rfl rfl rfl rfl (Nat.le_of_ble_eq_true rfl) ?_
  refine rn2 ?_;show aops _ _ _ _ _ _ ⟨_,.box b2 60 _::_,_⟩
  refine rn ?_;exact retq (.cons _ _ _ _ (.agg _ _ _ _ _ _ _ rfl inferInstance inferInstance inferInstance rfl) (.cons _ _ _ _ (.tmp _ _ rfl) .nil)) (.trans (.drop1 _ _ _) (vent_tup2 (by exact Sb.aggs (by exact ⟨.refl _,.refl _,.refl _,.refl _,.refl _,.refl _,.refl _,.refl _,.nil _ _,trivial⟩)) (by exact .refl _))) ⟨rfl,congrArg (fun b=>AV.tup [.agg (evR ⟨0,0,0,0,e.o,e.v,0,[]⟩),bv b]) (by first|(simp only [mayWrite, *,Bool.true_and,Bool.false_and,Bool.and_false,Bool.and_true,Bool.true_or,Bool.or_false,Bool.false_or,Bool.or_true,if_true,if_false,Bool.false_eq_true,Bool.not_true,Bool.not_false];done)|(simp_all [mayWrite];done)|(simp_all [mayWrite] <;> omega))⟩
theorem event3 (e:Ev) (h:Hist) (be bh:Nat):za6 Tryz.prog 235 [pZ be,pZ bh] [.box be 60 (evR e),.box bh 28 (zb0 h)] (fun r h'=>h'= [.box be 60 (evR e),.box bh 28 (zb0 h)]∧r= .tup [.agg (evR ⟨0,0,0,0,e.o,e.v,0,[]⟩),bv (mayRead h e)]):=by
 refine za1 Tryz.func235 rfl rfl rfl ?_
 refine rn ?_;refine za2 rfl (zb1 rfl fun b2=> ?_)
 refine rn ?_;refine aw_drawS 16 [(b2,60,_)] rfl (List.perm_append_comm (l₁:= [_])) ?_
 refine rn ?_;refine dv rfl rfl (by exact za4 rfl rfl (zc0 (told _ 2 _ _ rfl (by decide)) (Sbs.refl _))) ?_
 refine rn ?_;refine dsplit (fun hg1_9=> ?_) (fun hg1_9=> ?_)
 ·refine rn ?_;refine dv rfl rfl (by exact za4 rfl rfl (zc0 (version h e.v) (Sbs.refl _))) ?_
  refine rn ?_;refine dw 0 rfl rfl rfl rfl rfl (Nat.le_of_ble_eq_true rfl) ?_
  refine rn2 ?_;show aops _ _ _ _ _ _ ⟨_,.box b2 60 _::_,_⟩
  refine rn ?_;exact retq (.cons _ _ _ _ (.agg _ _ _ _ _ _ _ rfl inferInstance inferInstance inferInstance rfl) (.cons _ _ _ _ (.tmp _ _ rfl) .nil)) (.trans (.drop1 _ _ _) (vent_tup2 (by exact Sb.aggs (by exact ⟨.refl _,.refl _,.refl _,.refl _,.refl _,.refl _,.refl _,.refl _,.nil _ _,trivial⟩)) (by exact .refl _))) ⟨rfl,congrArg (fun b=>AV.tup [.agg (evR ⟨0,0,0,0,e.o,e.v,0,[]⟩),bv b]) (by first|(simp only [mayRead, *,Bool.true_and,Bool.false_and,Bool.and_false,Bool.and_true,Bool.true_or,Bool.or_false,Bool.false_or,Bool.or_true,if_true,if_false,Bool.false_eq_true,Bool.not_true,Bool.not_false];done)|(simp_all [mayRead];done)|(simp_all [mayRead] <;> omega))⟩
 ·refine rn ?_;refine dw 0 rfl rfl rfl rfl rfl (Nat.le_of_ble_eq_true rfl) ?_
  refine rn2 ?_;show aops _ _ _ _ _ _ ⟨_,.box b2 60 _::_,_⟩
  refine rn ?_;exact retq (.cons _ _ _ _ (.agg _ _ _ _ _ _ _ rfl inferInstance inferInstance inferInstance rfl) (.cons _ _ _ _ (.tmp _ _ rfl) .nil)) (.trans (.drop1 _ _ _) (vent_tup2 (by exact Sb.aggs (by exact ⟨.refl _,.refl _,.refl _,.refl _,.refl _,.refl _,.refl _,.refl _,.nil _ _,trivial⟩)) (by exact .refl _))) ⟨rfl,congrArg (fun b=>AV.tup [.agg (evR ⟨0,0,0,0,e.o,e.v,0,[]⟩),bv b]) (by first|(simp only [mayRead, *,Bool.true_and,Bool.false_and,Bool.and_false,Bool.and_true,Bool.true_or,Bool.or_false,Bool.false_or,Bool.or_true,if_true,if_false,Bool.false_eq_true,Bool.not_true,Bool.not_false];done)|(simp_all [mayRead];done)|(simp_all [mayRead] <;> omega))⟩
theorem event41 (s:Seen) (h:Hist) (bh:Nat):za6 Tryz.prog 237 [.agg (ze9 s),pZ bh] [.box bh 28 (zb0 h)] (fun r h'=>h'= [.box bh 28 (zb0 h)]∧r=bv (seenB h s)):=by
 refine za1 Tryz.func237 rfl rfl rfl ?_
 refine rn ?_;refine za2 rfl (zb5 rfl rfl rfl fun b2=> ?_)
 refine rn ?_;refine qv rfl rfl (za4 rfl rfl (zc0 (told _ 2 _ _ rfl (by decide)) (Sbs.refl _))) ?_
 refine rn ?_;refine za8 (fun hg1_4=> ?_) (fun hg1_4=> ?_)
 ·refine rn ?_;refine qv rfl rfl (za4 rfl rfl (zc0 (version h s.v) (Sbs.refl _))) ?_
  refine rn ?_;exact retT rfl (.drop1 _ _ _) ⟨rfl,congrArg bv (by first|(simp only [seenB, *,Bool.true_and,Bool.false_and,Bool.and_false,Bool.and_true,Bool.true_or,Bool.or_false,Bool.false_or,Bool.or_true,if_true,if_false,Bool.false_eq_true,Bool.not_true,Bool.not_false];done)|(simp_all [seenB];done)|(simp_all [seenB] <;> omega))⟩
 ·refine rn ?_;exact retT rfl (.drop1 _ _ _) ⟨rfl,congrArg bv (by first|(simp only [seenB, *,Bool.true_and,Bool.false_and,Bool.and_false,Bool.and_true,Bool.true_or,Bool.or_false,Bool.false_or,Bool.or_true,if_true,if_false,Bool.false_eq_true,Bool.not_true,Bool.not_false];done)|(simp_all [seenB];done)|(simp_all [seenB] <;> omega))⟩
theorem event4 (e:Ev) (h:Hist) (be bh:Nat) (hl:e.scan.length≤4611686018427387904):za6 Tryz.prog 236 [pZ bh,pZ be] [.box be 60 (evR e),.box bh 28 (zb0 h)] (fun r h'=>h'= [.box be 60 (evR e),.box bh 28 (zb0 h)]∧r= .tup [.agg (evR ⟨0,0,0,0,0,⟨0,0⟩,e.p,e.scan⟩),bv (mayScan h e)]):=by
 refine za1 Tryz.func236 rfl rfl rfl ?_
 refine rn ?_;refine za2 rfl (zb1 rfl fun b2=> ?_)
 refine rn ?_;refine aw_drawS 22 [(b2,60,_)] rfl (List.perm_append_comm (l₁:= [_])) ?_
 refine rn ?_;refine dv rfl rfl (by exact za4 rfl rfl (zc0 (told _ 3 _ _ rfl (by decide)) (Sbs.refl _))) ?_
 refine rn ?_;refine dsplit (fun hg2_9=> ?_) (fun hg2_9=> ?_)
 ·refine rn ?_;refine dsplit (fun hg2_15=> ?_) (fun hg2_15=> ?_)
  ·refine rn ?_;refine dv rfl rfl (by exact za4 rfl rfl (za3.of_fun (allSeen e.scan (.fn (.func 237) [] [pZ bh]) (seenB h) [.box be 60 (evR e),.box bh 28 (zb0 h)] rfl (fun s hs=>za3.quiet (R:=fun x=>x=bv (seenB h s)) (h2:= [_]) (List.perm_append_comm (l₁:= [_])) (za3.of_acall (fs:= []) (cs:= [pZ bh]) (event41 s h bh))) hl))) ?_
   refine rn ?_;refine dw 0 rfl rfl rfl rfl rfl (Nat.le_of_ble_eq_true rfl) ?_
   refine rn2 ?_;show aops _ _ _ _ _ _ ⟨_,.box b2 60 _::_,_⟩
   refine rn ?_;exact retq (.cons _ _ _ _ (.agg _ _ _ _ _ _ _ rfl inferInstance inferInstance inferInstance rfl) (.cons _ _ _ _ (.tmp _ _ rfl) .nil)) (.trans (.drop1 _ _ _) (vent_tup2 (by exact Sb.aggs (by exact ⟨.refl _,.refl _,.refl _,.refl _,.refl _,.refl _,.refl _,.refl _,.refl _,trivial⟩)) (by exact .refl _))) ⟨rfl,congrArg (fun b=>AV.tup [.agg (evR ⟨0,0,0,0,0,⟨0,0⟩,e.p,e.scan⟩),bv b]) (by first|(simp only [mayScan, *,Bool.true_and,Bool.false_and,Bool.and_false,Bool.and_true,Bool.true_or,Bool.or_false,Bool.false_or,Bool.or_true,if_true,if_false,Bool.false_eq_true,Bool.not_true,Bool.not_false];done)|(simp_all [mayScan];done)|(simp_all [mayScan] <;> omega))⟩
  ·refine rn ?_;refine dw 0 rfl rfl rfl rfl rfl (Nat.le_of_ble_eq_true rfl) ?_
   refine rn2 ?_;show aops _ _ _ _ _ _ ⟨_,.box b2 60 _::_,_⟩
   refine rn ?_;exact retq (.cons _ _ _ _ (.agg _ _ _ _ _ _ _ rfl inferInstance inferInstance inferInstance rfl) (.cons _ _ _ _ (.tmp _ _ rfl) .nil)) (.trans (.drop1 _ _ _) (vent_tup2 (by exact Sb.aggs (by exact ⟨.refl _,.refl _,.refl _,.refl _,.refl _,.refl _,.refl _,.refl _,.refl _,trivial⟩)) (by exact .refl _))) ⟨rfl,congrArg (fun b=>AV.tup [.agg (evR ⟨0,0,0,0,0,⟨0,0⟩,e.p,e.scan⟩),bv b]) (by first|(simp only [mayScan, *,Bool.true_and,Bool.false_and,Bool.and_false,Bool.and_true,Bool.true_or,Bool.or_false,Bool.false_or,Bool.or_true,if_true,if_false,Bool.false_eq_true,Bool.not_true,Bool.not_false];done)|(simp_all [mayScan];done)|(simp_all [mayScan] <;> omega))⟩
 ·refine rn ?_;refine dw 0 rfl rfl rfl rfl rfl (Nat.le_of_ble_eq_true rfl) ?_
  refine rn2 ?_;show aops _ _ _ _ _ _ ⟨_,.box b2 60 _::_,_⟩
  refine rn ?_;exact retq (.cons _ _ _ _ (.agg _ _ _ _ _ _ _ rfl inferInstance inferInstance inferInstance rfl) (.cons _ _ _ _ (.tmp _ _ rfl) .nil)) (.trans (.drop1 _ _ _) (vent_tup2 (by exact Sb.aggs (by exact ⟨.refl _,.refl _,.refl _,.refl _,.refl _,.refl _,.refl _,.refl _,.refl _,trivial⟩)) (by exact .refl _))) ⟨rfl,congrArg (fun b=>AV.tup [.agg (evR ⟨0,0,0,0,0,⟨0,0⟩,e.p,e.scan⟩),bv b]) (by first|(simp only [mayScan, *,Bool.true_and,Bool.false_and,Bool.and_false,Bool.and_true,Bool.true_or,Bool.or_false,Bool.false_or,Bool.or_true,if_true,if_false,Bool.false_eq_true,Bool.not_true,Bool.not_false];done)|(simp_all [mayScan];done)|(simp_all [mayScan] <;> omega))⟩
theorem event5  :za6 Tryz.prog 239 [] [] (fun r h'=>h'= []∧r= .tup [.agg (evR ⟨0,0,0,0,0,⟨0,0⟩,0,[]⟩),bv true]):=by
 refine za1 Tryz.func239 rfl rfl rfl ?_
 refine rn ?_;refine za2 rfl (zb1 rfl fun b0=> ?_)
 refine rn ?_;exact retq (.cons _ _ _ _ (.agg _ _ _ _ _ _ _ rfl inferInstance inferInstance inferInstance rfl) (.cons _ _ _ _ (.tmp _ _ rfl) .nil)) (.trans (.drop1 _ _ _) (vent_tup2 (by exact Sb.aggs (by exact ⟨.refl _,.refl _,.refl _,.refl _,.refl _,.refl _,.refl _,.refl _,.nil _ _,trivial⟩)) (by exact .refl _))) ⟨rfl,congrArg (fun b=>AV.tup [.agg (evR ⟨0,0,0,0,0,⟨0,0⟩,0,[]⟩),bv b]) (by rfl)⟩
theorem event6  :za6 Tryz.prog 240 [] [] (fun r h'=>h'= []∧r= .tup [.agg (evR ⟨0,0,0,0,0,⟨0,0⟩,0,[]⟩),bv true]):=by
 refine za1 Tryz.func240 rfl rfl rfl ?_
 refine rn ?_;refine za2 rfl (zb1 rfl fun b0=> ?_)
 refine rn ?_;exact retq (.cons _ _ _ _ (.agg _ _ _ _ _ _ _ rfl inferInstance inferInstance inferInstance rfl) (.cons _ _ _ _ (.tmp _ _ rfl) .nil)) (.trans (.drop1 _ _ _) (vent_tup2 (by exact Sb.aggs (by exact ⟨.refl _,.refl _,.refl _,.refl _,.refl _,.refl _,.refl _,.refl _,.nil _ _,trivial⟩)) (by exact .refl _))) ⟨rfl,congrArg (fun b=>AV.tup [.agg (evR ⟨0,0,0,0,0,⟨0,0⟩,0,[]⟩),bv b]) (by rfl)⟩
theorem eventTab (h:Hist) (e:Ev) (b2 b3 k:Nat) (hl:e.scan.length≤4611686018427387904) (hk:e.kind=k) (h1:1≤k) (h7:k < 7):
 ∃av,(([.v .nilFunc,.fn (.func 231) [] [pZ b3,pZ b2],.fn (.func 233) [] [pZ b3,pZ b2],.fn (.func 235) [] [pZ b3,pZ b2],.fn (.func 236) [] [pZ b2,pZ b3],.fn (.func 239) [] [],.fn (.func 240) [] []]):List AV)[k * 1]? =some av∧za3 Tryz.prog av [] [.box b3 60 (evR e),.box b2 28 (zb0 h)] (fun r h'=>h'= [.box b3 60 (evR e),.box b2 28 (zb0 h)]∧r= .tup [.agg (evR (cand h e).1),bv (cand h e).2]):=by
 rcases (by omega:k=1∨k=2∨k=3∨k=4∨k=5∨k=6) with rfl|rfl|rfl|rfl|rfl|rfl
 ·refine ⟨_,rfl,?_⟩
  have hc:cand h e=(⟨0,0,e.s,e.l,0,⟨0,0⟩,0,[]⟩,mayBegin h e):=by unfold cand;rw [hk];rfl
  rw [hc]
  exact za3.of_acall (fs:= []) (cs:= [pZ b3,pZ b2]) (event1 e h b3 b2)
 ·refine ⟨_,rfl,?_⟩
  have hc:cand h e=(⟨0,0,0,0,e.o,e.v,0,[]⟩,mayWrite h e):=by unfold cand;rw [hk];rfl
  rw [hc]
  exact za3.of_acall (fs:= []) (cs:= [pZ b3,pZ b2]) (event2 e h b3 b2)
 ·refine ⟨_,rfl,?_⟩
  have hc:cand h e=(⟨0,0,0,0,e.o,e.v,0,[]⟩,mayRead h e):=by unfold cand;rw [hk];rfl
  rw [hc]
  exact za3.of_acall (fs:= []) (cs:= [pZ b3,pZ b2]) (event3 e h b3 b2)
 ·refine ⟨_,rfl,?_⟩
  have hc:cand h e=(⟨0,0,0,0,0,⟨0,0⟩,e.p,e.scan⟩,mayScan h e):=by unfold cand;rw [hk];rfl
  rw [hc]
  exact za3.of_acall (fs:= []) (cs:= [pZ b2,pZ b3]) (event4 e h b3 b2 hl)
 ·refine ⟨_,rfl,?_⟩
  have hc:cand h e=(⟨0,0,0,0,0,⟨0,0⟩,0,[]⟩,true):=by unfold cand;rw [hk];rfl
  rw [hc]
  exact za3.pure (R:=fun x=>x=_) (za3.of_acall (fs:= []) (cs:= []) event5)
 ·refine ⟨_,rfl,?_⟩
  have hc:cand h e=(⟨0,0,0,0,0,⟨0,0⟩,0,[]⟩,true):=by unfold cand;rw [hk];rfl
  rw [hc]
  exact za3.pure (R:=fun x=>x=_) (za3.of_acall (fs:= []) (cs:= []) event6)
theorem bvz4_995 {a b:Bool} (h:a=b:=by first|(simp only [eventB, *,Bool.true_and,Bool.false_and,Bool.and_false,Bool.and_true,Bool.true_or,Bool.or_false,Bool.false_or,Bool.or_true,if_true,if_false,Bool.false_eq_true,Bool.not_true,Bool.not_false];done)|(simp_all [eventB];done)|(simp_all [eventB] <;> omega)):bv a=bv b:=congrArg bv h
theorem event (h:Hist) (e:Ev) (hl:e.scan.length≤4611686018427387904):za6 Tryz.prog 194 [.agg (zb0 h),.agg (evR e)] [] (fun r h'=>h'= []∧r=bv (eventB h e)):=by
 refine za1 Tryz.func194 rfl rfl rfl ?_
 refine rn ?_;refine za2 rfl (zb5 rfl rfl rfl fun b2=> ?_)
 refine za2 rfl (zb5 rfl rfl rfl fun b3=> ?_)
 refine rn ?_;refine za2 rfl (zb1 rfl fun b5=> ?_)
 refine rn ?_;refine za8 (fun hg2_3=> ?_) (fun hg2_3=> ?_)
 ·refine rn ?_;refine aw_ct rfl ?_;refine rn ?_;exact retT rfl (.drop [_,_,_] _ _) ⟨rfl,bvz4_995⟩
 ·refine rn ?_;refine za8 (fun hg2_8=> ?_) (fun hg2_8=> ?_)
  ·refine rn ?_;refine aw_ct rfl ?_;refine rn ?_;exact retT rfl (.drop [_,_,_] _ _) ⟨rfl,bvz4_995⟩
  ·refine rn ?_;refine qv rfl rfl (za4 rfl rfl (zc0 (told h 0 e.t _ rfl (by decide)) (Sbs.refl _))) ?_
   refine rn ?_;refine za0 rfl (fun hc27=> ?_) (fun hc27=> ?_)
   ·refine rn ?_;exact retT rfl (.drop [_,_,_] _ _) ⟨rfl,bvz4_995⟩
   ·have hlo:1≤e.kind:=by simpa using hg2_3
    have hhi:e.kind < 7:=by simpa using hg2_8
    obtain ⟨k,hk⟩:=Int.eq_ofNat_of_zero_le (show 0≤e.kind by omega)
    obtain ⟨av,hav,hfc⟩:=eventTab h e b2 b3 k hl hk (by omega) (by omega)
    refine zf2 ?_;refine zd8 ?_;refine zb4 (za9 ?_)
    refine q1 ?_;refine q1 ?_;refine qq rfl rfl (qr_indexAddr_arr rfl (by rw [←hk];rfl) (by omega)) ?_
    refine qq rfl rfl (ze6 rfl (by simpa using hav)) ?_
    refine qv rfl rfl (za4 rfl rfl (za3.quiet (R:=fun x=>x=_) (h2:= [_]) (List.perm_append_comm (l₁:= [_])) hfc)) ?_
    refine rn ?_;refine za2 rfl (zb1 rfl fun b6=> ?_)
    refine rn ?_;refine aw_drawS 6 [(b6,60,_)] rfl (List.perm_append_comm (l₁:= [_])) ?_
    refine rn ?_;refine dw 0 rfl rfl rfl rfl rfl (Nat.le_of_ble_eq_true rfl) ?_
    refine rn2 ?_;show aops _ _ _ _ _ _ ⟨_,[.box b6 60 _,.box b5 _ _,.box b3 60 (evR e),.box b2 28 (zb0 h)],_⟩
    refine rn ?_;refine za8 (fun hg6_1=> ?_) (fun hg6_1=> ?_)
    ·refine rn ?_;refine qv rfl rfl (za4 rfl rfl (zc0 (sameEvent {(cand h e).1 with kind:=e.kind,t:=e.t} e (cand_scan h e hl) hl) (by exact Sbs.refl _))) ?_
     refine rn ?_;exact retT rfl (.drop [_,_,_,_] _ _) ⟨rfl,bvz4_995⟩
    ·refine rn ?_;exact retT rfl (.drop [_,_,_,_] _ _) ⟨rfl,bvz4_995⟩
theorem shaped11 (h:Hist) (b:Nat) (t:Int):za6 Tryz.prog 190 [iv t,pZ b] [.box b 28 (zb0 h)] (fun r h'=>h'= [.box b 28 (zb0 h)]∧r=bv (toldB h.ts t)):=by
 refine za1 Tryz.func190 rfl rfl rfl ?_
 refine rn ?_;refine qv rfl rfl (za4 rfl rfl (zc0 (told h 0 _ _ rfl (by decide)) (Sbs.refl _))) ?_
 refine rn ?_;exact retT rfl (.refl _ _) ⟨rfl,congrArg bv (by rfl)⟩
theorem shaped1 {full:Bool} (h:Hist) (b:Nat) (ts:List Int) (hl:ts.length≤4611686018427387904):za6 Tryz.prog 188 [.list full 1 (ts.map intR),pZ b] [.box b 28 (zb0 h)] (fun r h'=>h'= [.box b 28 (zb0 h)]∧r=bv (tsB h ts)):=by
 refine za1 Tryz.func188 rfl rfl rfl ?_
 refine rn ?_;refine za8 (fun hg1_3=> ?_) (fun hg1_3=> ?_)
 ·refine rn ?_;refine qv rfl rfl (za4 rfl rfl (za3.of_fun (allInt ts (.fn (.func 190) [] [pZ b]) (toldB h.ts) [.box b 28 (zb0 h)] rfl (fun t _=>za3.of_acall (fs:= []) (cs:= [pZ b]) (shaped11 h b t)) hl))) ?_
  refine rn ?_;exact retT rfl (.refl _ _) ⟨rfl,congrArg bv (by first|(simp only [tsB, *,Bool.true_and,Bool.false_and,Bool.and_false,Bool.and_true,Bool.true_or,Bool.or_false,Bool.false_or,Bool.or_true,if_true,if_false,Bool.false_eq_true,Bool.not_true,Bool.not_false];done)|(simp_all [tsB];done)|(simp_all [tsB] <;> omega))⟩
 ·refine rn ?_;exact retT rfl (.refl _ _) ⟨rfl,congrArg bv (by first|(simp only [tsB, *,Bool.true_and,Bool.false_and,Bool.and_false,Bool.and_true,Bool.true_or,Bool.or_false,Bool.false_or,Bool.or_true,if_true,if_false,Bool.false_eq_true,Bool.not_true,Bool.not_false];done)|(simp_all [tsB];done)|(simp_all [tsB] <;> omega))⟩
theorem shaped2 (h:Hist) (b:Nat) (e:Ev) (hl:e.scan.length≤4611686018427387904):za6 Tryz.prog 193 [.agg (evR e),pZ b] [.box b 28 (zb0 h)] (fun r h'=>h'= [.box b 28 (zb0 h)]∧r=bv (eventB h e)):=by
 refine za1 Tryz.func193 rfl rfl rfl ?_
 refine rn ?_;refine za2 rfl (zb5 rfl rfl rfl fun b2=> ?_)
 refine rn ?_;refine qv rfl rfl (za4 rfl rfl (zc0 (event h e hl) (Sbs.refl _))) ?_
 refine rn ?_;exact retT rfl (.drop1 _ _ _) ⟨rfl,congrArg bv (by rfl)⟩
theorem shaped3 (h:Hist) (b c:Nat) (m:H.Ord) (hl:m.ts.length≤4611686018427387904):za6 Tryz.prog 196 [.agg (ordR m),pZ b,pZ c] [.box b 28 (zb0 h),.box c 231 [.fn (.func 188) [] [pZ b]]] (fun r h'=>h'= [.box b 28 (zb0 h),.box c 231 [.fn (.func 188) [] [pZ b]]]∧r=bv (ordB h m)):=by
 refine za1 Tryz.func196 rfl rfl rfl ?_
 refine rn ?_;refine za2 rfl (zb5 rfl rfl rfl fun b3=> ?_)
 refine rn ?_;refine qv rfl rfl (za4 rfl rfl (zc0 (told h 2 _ _ rfl (by decide)) (Sbs.refl _))) ?_
 refine rn ?_;refine za8 (fun hg1_4=> ?_) (fun hg1_4=> ?_)
 ·refine rn ?_;refine qv rfl rfl (za4 rfl rfl (za3.quiet (R:=fun x=>x=bv (tsB h m.ts)) (h2:= [_,_]) (List.Perm.swap _ _ _) (za3.of_acall (fs:= []) (cs:= [pZ b]) (shaped1 h b m.ts hl)))) ?_
  refine rn ?_;exact retT rfl (.drop1 _ _ _) ⟨rfl,congrArg bv (by first|(simp only [ordB, *,Bool.true_and,Bool.false_and,Bool.and_false,Bool.and_true,Bool.true_or,Bool.or_false,Bool.false_or,Bool.or_true,if_true,if_false,Bool.false_eq_true,Bool.not_true,Bool.not_false];done)|(simp_all [ordB];done)|(simp_all [ordB] <;> omega))⟩
 ·refine rn ?_;exact retT rfl (.drop1 _ _ _) ⟨rfl,congrArg bv (by first|(simp only [ordB, *,Bool.true_and,Bool.false_and,Bool.and_false,Bool.and_true,Bool.true_or,Bool.or_false,Bool.false_or,Bool.or_true,if_true,if_false,Bool.false_eq_true,Bool.not_true,Bool.not_false];done)|(simp_all [ordB];done)|(simp_all [ordB] <;> omega))⟩
theorem bvz5_7697 {a b:Bool} (h:a=b:=by first|(simp only [matB, *,Bool.true_and,Bool.false_and,Bool.and_false,Bool.and_true,Bool.true_or,Bool.or_false,Bool.false_or,Bool.or_true,if_true,if_false,Bool.false_eq_true,Bool.not_true,Bool.not_false];done)|(simp_all [matB];done)|(simp_all [matB] <;> omega)):bv a=bv b:=congrArg bv h
theorem shaped4 (h:Hist) (b c:Nat) (m:Mat) (hl:m.ts.length≤4611686018427387904):za6 Tryz.prog 198 [.agg (matR m),pZ b,pZ c] [.box b 28 (zb0 h),.box c 231 [.fn (.func 188) [] [pZ b]]] (fun r h'=>h'= [.box b 28 (zb0 h),.box c 231 [.fn (.func 188) [] [pZ b]]]∧r=bv (matB h m)):=by
 refine za1 Tryz.func198 rfl rfl rfl ?_
 refine rn ?_;refine za2 rfl (zb5 rfl rfl rfl fun b3=> ?_)
 refine rn ?_;refine qv rfl rfl (za4 rfl rfl (zc0 (told h 3 _ _ rfl (by decide)) (Sbs.refl _))) ?_
 refine rn ?_;refine za8 (fun hg1_4=> ?_) (fun hg1_4=> ?_)
 ·refine rn ?_;refine qv rfl rfl (za4 rfl rfl (zc0 (told h 2 _ _ rfl (by decide)) (Sbs.refl _))) ?_
  refine rn ?_;refine za8 (fun hg1_10=> ?_) (fun hg1_10=> ?_)
  ·refine rn ?_;refine qv rfl rfl (za4 rfl rfl (za3.quiet (R:=fun x=>x=bv (tsB h m.ts)) (h2:= [_,_]) (List.Perm.swap _ _ _) (za3.of_acall (fs:= []) (cs:= [pZ b]) (shaped1 h b m.ts hl)))) ?_
   refine rn ?_;exact retT rfl (.drop1 _ _ _) ⟨rfl,bvz5_7697⟩
  ·refine rn ?_;exact retT rfl (.drop1 _ _ _) ⟨rfl,bvz5_7697⟩
 ·refine rn ?_;exact retT rfl (.drop1 _ _ _) ⟨rfl,bvz5_7697⟩
theorem bvz6_6233 {a b:Bool} (h:a=b:=by first|(simp only [wanB, *,Bool.true_and,Bool.false_and,Bool.and_false,Bool.and_true,Bool.true_or,Bool.or_false,Bool.false_or,Bool.or_true,if_true,if_false,Bool.false_eq_true,Bool.not_true,Bool.not_false];done)|(simp_all [wanB];done)|(simp_all [wanB] <;> omega)):bv a=bv b:=congrArg bv h
theorem shaped5 (h:Hist) (b:Nat) (w:Wan):za6 Tryz.prog 200 [.agg (wanR w),pZ b] [.box b 28 (zb0 h)] (fun r h'=>h'= [.box b 28 (zb0 h)]∧r=bv (wanB h w)):=by
 refine za1 Tryz.func200 rfl rfl rfl ?_
 refine rn ?_;refine za2 rfl (zb5 rfl rfl rfl fun b2=> ?_)
 refine rn ?_;refine qv rfl rfl (za4 rfl rfl (zc0 (told h 1 _ _ rfl (by decide)) (Sbs.refl _))) ?_
 refine rn ?_;refine za8 (fun hg1_4=> ?_) (fun hg1_4=> ?_)
 ·refine rn ?_;refine za8 (fun hg1_9=> ?_) (fun hg1_9=> ?_)
  ·refine rn ?_;exact retT rfl (.drop1 _ _ _) ⟨rfl,bvz6_6233⟩
  ·refine rn ?_;exact retT rfl (.drop1 _ _ _) ⟨rfl,bvz6_6233⟩
 ·refine rn ?_;exact retT rfl (.drop1 _ _ _) ⟨rfl,bvz6_6233⟩
theorem bvz7_4688 {a b:Bool} (h:a=b:=by first|(simp only [zd7, *,Bool.true_and,Bool.false_and,Bool.and_false,Bool.and_true,Bool.true_or,Bool.or_false,Bool.false_or,Bool.or_true,if_true,if_false,Bool.false_eq_true,Bool.not_true,Bool.not_false];done)|(simp_all [zd7];done)):bv a=bv b:=congrArg bv h
theorem shaped (h:Hist) (la:Lim 4611686018427387904 h):za6 Tryz.prog 140 [.agg (zb0 h)] [.glob 2 156 zc1,.glob 4 305 zb6,.glob 5 308 zb2] (fun r h'=>h'= [.glob 2 156 zc1,.glob 4 305 zb6,.glob 5 308 zb2]∧r=bv (zd7 h)):=by
 refine za1 Tryz.func140 rfl rfl rfl ?_
 refine rn ?_;refine za2 rfl (zb5 rfl rfl rfl fun b1=> ?_)
 refine rn ?_;refine aw_scope ?_;refine aw_cut (⟨[(1,pZ b1),(3,bv (okK h 0))],.box b1 28 (zb0 h):: [.glob 2 156 zc1,.glob 4 305 zb6,.glob 5 308 zb2],[]⟩) ?_ ?_
 ·refine rn ?_;refine za8 (fun hg1_4=> ?_) (fun hg1_4=> ?_)
  ·refine rn ?_;rw [show okK h 0=_ from sizes_eq h,hg1_4]
   exact (zb8 (.cons _ _ _ rfl (.cons _ _ _ rfl (.nil))))
  ·refine rn ?_;rw [show okK h 0=_ from sizes_eq h,hg1_4]
   exact (zb8 (.cons _ _ _ rfl (.cons _ _ _ rfl (.nil))))
 ·refine zb4 ?_;refine aw_label ?_;refine rn0 ?_;refine aw_cut (⟨[(3,bv (okK h 4)),(1,pZ b1)],.box b1 28 (zb0 h):: [.glob 2 156 zc1,.glob 4 305 zb6,.glob 5 308 zb2],[]⟩) ?_ ?_
  ·refine rn ?_;refine qv rfl rfl (za4 rfl rfl (zc0 (names _) (Sbs.refl _))) ?_
   refine rn ?_;refine zd4 (fun k:Nat=>k≤4) (fun k=>⟨[(29,iv k),(28,.agg (namesC h)),(1,pZ b1),(3,bv (okK h k))],.box b1 28 (zb0 h):: [.glob 2 156 zc1,.glob 4 305 zb6,.glob 5 308 zb2],[]⟩) (fun k=>4 - k) 0 (by omega)
    (zb8 (.cons _ _ _ rfl (.cons _ _ _ rfl (.cons _ _ _ rfl (.cons _ _ _ rfl (.nil)))))) ?_
   rintro k hk
   refine rn ?_;refine za0 rfl (fun hc30=> ?_) (fun hc30=> ?_)
   ·have hk4:k < 4:=by simp at hc30;omega
    refine zf2 ?_;refine zd8 ?_;refine zb4 ?_;refine aw_block ?_;refine zb4 (za9 ?_)
    refine q1 ?_;refine qq rfl rfl (qr_index_arr_one rfl rfl (by omega) (by have:=nmK_get h hk4;simpa using this)) ?_
    refine rn ?_;refine za2 rfl (oe_makeMap (enc:=strK) rfl fun b33=> ?_)
    refine rn0 ?_;refine aw_cut (⟨[(5,strsA (nmK h k)),(3,bv (okj h k 0)),(6,.v (.map (some b33))),(29,iv k),(28,.agg (namesC h)),(1,pZ b1)],.map b33 (encM strK []):: .box b1 28 (zb0 h):: [.glob 2 156 zc1,.glob 4 305 zb6,.glob 5 308 zb2],[]⟩) ?_ ?_
    ·refine rn ?_;refine za8 (fun hg6_1=> ?_) (fun hg6_1=> ?_)
     ·refine q1 ?_;refine q1 ?_;refine q1 ?_;refine qq rfl rfl (qr_indexAddr_arr rfl rfl (by omega)) ?_
      refine qq rfl rfl (ze6 rfl (limitsC_get hk4)) ?_
      refine rn ?_;rw [okj_eq h k,hg6_1]
      first|exact (zb8 (.cons _ _ _ rfl (.cons _ _ _ rfl (.cons _ _ _ rfl (.cons _ _ _ rfl (.cons _ _ _ rfl (.cons _ _ _ rfl (.nil))))))))|(rw [Bool.true_and];exact (zb8 (.cons _ _ _ rfl (.cons _ _ _ rfl (.cons _ _ _ rfl (.cons _ _ _ rfl (.cons _ _ _ rfl (.cons _ _ _ rfl (.nil)))))))))
     ·refine rn ?_;rw [okj_eq h k,hg6_1]
      first|exact (zb8 (.cons _ _ _ rfl (.cons _ _ _ rfl (.cons _ _ _ rfl (.cons _ _ _ rfl (.cons _ _ _ rfl (.cons _ _ _ rfl (.nil))))))))|(rw [Bool.true_and];exact (zb8 (.cons _ _ _ rfl (.cons _ _ _ rfl (.cons _ _ _ rfl (.cons _ _ _ rfl (.cons _ _ _ rfl (.cons _ _ _ rfl (.nil)))))))))
    ·refine rn ?_;refine zd4 (fun j:Nat=>j≤(nmK h k).length∧(0 < j→okj h k 0=true)∧freshB [] (nmK h k)=freshB ((nmK h k).take j) ((nmK h k).drop j)) (fun j=>⟨[(45,iv j),(43,strsA (nmK h k)),(44,iv ((nmK h k).map strR).length),(3,bv (okj h k 0)),(6,.v (.map (some b33))),(29,iv k),(28,.agg (namesC h)),(1,pZ b1)],.map b33 (encM strK (metM ((nmK h k).take j))):: .box b1 28 (zb0 h):: [.glob 2 156 zc1,.glob 4 305 zb6,.glob 5 308 zb2],[]⟩) (fun j=>(nmK h k).length - j) 0 ⟨by omega,by omega,by simp⟩
      (zb8 (.cons _ _ _ rfl (.cons _ _ _ rfl (.cons _ _ _ rfl (.cons _ _ _ rfl (.cons _ _ _ rfl (.cons _ _ _ rfl (.cons _ _ _ rfl (.cons _ _ _ rfl (.nil)))))))))) ?_
     rintro j ⟨hj,hok,hf⟩
     have hlk:=la.nm k
     refine rn ?_;refine za0 rfl (fun hc46=> ?_) (fun hc46=> ?_)
     ·have hj2:j < (nmK h k).length:=by simpa using hc46
      have hrow:(strsA (nmK h k))= .list false 1 ((nmK h k).map strR):=rfl
      have hrow2:((nmK h k).map strR)[j]? =some (strR (nmK h k)[j]):=by simp [hj2]
      have hd:=List.drop_eq_getElem_cons hj2
      refine zf2 ?_;refine rn0 ?_;refine zb4 ?_;refine aw_block ?_;refine zb4 (za9 ?_)
      refine rn0 ?_;refine zb4 ?_;refine aw_cut (⟨[(3,bv (okj h k 0 && wordB (nmK h k)[j] && !memB (nmK h k)[j] ((nmK h k).take j))),(8,sv (nmK h k)[j]),(45,iv j),(43,strsA (nmK h k)),(44,iv ((nmK h k).map strR).length),(6,.v (.map (some b33))),(29,iv k),(28,.agg (namesC h)),(1,pZ b1)],.map b33 (encM strK (metM ((nmK h k).take j))):: .box b1 28 (zb0 h):: [.glob 2 156 zc1,.glob 4 305 zb6,.glob 5 308 zb2],[]⟩) ?_ ?_
      ·refine rn ?_;refine za8 (fun hg10_1=> ?_) (fun hg10_1=> ?_)
       ·refine rn ?_;refine qv rfl rfl (za4 rfl rfl (za3.qt (za3.of_fun (word ((nmK h k)[j]))) ((pt3 _ _ _ _ _).trans (.cons _ (pt3 _ _ _ _ _))))) ?_
        refine rn ?_;refine za8 (fun hg10_5=> ?_) (fun hg10_5=> ?_)
        ·refine rn ?_;refine qq rfl rfl (qr_lookup (enc:=strK) (k:=(nmK h k)[j]) rfl rfl (lookM_metD _ _)) ?_
         refine rn ?_;first|(rw [hg10_1,hg10_5];exact (zb8 (.cons _ _ _ rfl (.cons _ _ _ rfl (.cons _ _ _ rfl (.cons _ _ _ rfl (.cons _ _ _ rfl (.cons _ _ _ rfl (.cons _ _ _ rfl (.cons _ _ _ rfl (.cons _ _ _ rfl (.nil))))))))))))|(rw [hg10_1];exact (zb8 (.cons _ _ _ rfl (.cons _ _ _ rfl (.cons _ _ _ rfl (.cons _ _ _ rfl (.cons _ _ _ rfl (.cons _ _ _ rfl (.cons _ _ _ rfl (.cons _ _ _ rfl (.cons _ _ _ rfl (.nil))))))))))))
        ·refine rn ?_;first|(rw [hg10_1,hg10_5];exact (zb8 (.cons _ _ _ rfl (.cons _ _ _ rfl (.cons _ _ _ rfl (.cons _ _ _ rfl (.cons _ _ _ rfl (.cons _ _ _ rfl (.cons _ _ _ rfl (.cons _ _ _ rfl (.cons _ _ _ rfl (.nil))))))))))))|(rw [hg10_1];exact (zb8 (.cons _ _ _ rfl (.cons _ _ _ rfl (.cons _ _ _ rfl (.cons _ _ _ rfl (.cons _ _ _ rfl (.cons _ _ _ rfl (.cons _ _ _ rfl (.cons _ _ _ rfl (.cons _ _ _ rfl (.nil))))))))))))
       ·refine rn ?_;first|(rw [hg10_1,hg10_5];exact (zb8 (.cons _ _ _ rfl (.cons _ _ _ rfl (.cons _ _ _ rfl (.cons _ _ _ rfl (.cons _ _ _ rfl (.cons _ _ _ rfl (.cons _ _ _ rfl (.cons _ _ _ rfl (.cons _ _ _ rfl (.nil))))))))))))|(rw [hg10_1];exact (zb8 (.cons _ _ _ rfl (.cons _ _ _ rfl (.cons _ _ _ rfl (.cons _ _ _ rfl (.cons _ _ _ rfl (.cons _ _ _ rfl (.cons _ _ _ rfl (.cons _ _ _ rfl (.cons _ _ _ rfl (.nil))))))))))))
      ·refine rn ?_;refine za0 rfl (fun hc61=> ?_) (fun hc61=> ?_)
       ·have hfl:(okj h k 0 && wordB (nmK h k)[j] && !memB (nmK h k)[j] ((nmK h k).take j))=false:=not_t hc61
        have hbad:okK h 4=false:=ok_bad hk4 (ok_or (hf.trans (by rw [hd])) hfl)
        refine rn ?_;first
         |exact (zb8 (.cons _ _ _ rfl (.cons _ _ _ rfl (.nil))))
         |(rw [hbad,←hfl];exact (zc5 (ent_drop (h1:= [_])) (zb8 (.cons _ _ _ rfl (.cons _ _ _ rfl (.nil))))))
       ·obtain ⟨hok2,hw,hfresh⟩:=ok_and (not_f hc61)
        refine rn ?_;refine za2 rfl (oe_mapUpdate (enc:=strK) (k:=(nmK h k)[j]) rfl rfl rfl ?_)
        refine rn ?_;have hu:=updM_met ((nmK h k)[j]) ((nmK h k).take j) (memB_f.1 hfresh)
        rw [←List.take_succ_eq_append_getElem hj2] at hu
        exact ⟨j+1,⟨by omega,fun _=>hok2,by rw [hf,hd,freshB,hw,List.take_succ_eq_append_getElem hj2];simp [hfresh]⟩,by simp only [hu,hok2,hw,hfresh,Bool.true_and,Bool.not_false];exact (zb8 (.cons _ _ _ rfl (.cons _ _ _ rfl (.cons _ _ _ rfl (.cons _ _ _ rfl (.cons _ _ _ rfl (.cons _ _ _ rfl (.cons _ _ _ rfl (.cons _ _ _ rfl (.nil)))))))))),by omega⟩
     ·have hj3:j=(nmK h k).length:=by
       have:(nmK h k).length≤j:=by simpa using hc46
       omega
      refine rn ?_;have hend:=ok_end (h:=h) (k:=k) (by rw [hf,hj3,List.drop_length];rfl)
      exact ⟨k+1,by omega,by rw [←hend];exact (zc5 (ent_drop (h1:= [_])) (zb8 (.cons _ _ _ rfl (.cons _ _ _ rfl (.cons _ _ _ rfl (.cons _ _ _ rfl (.nil))))))),by omega⟩
   ·have hk4:k=4:=by simp at hc30;omega
    subst hk4
    refine rn ?_;first
     |exact (zb8 (.cons _ _ _ rfl (.cons _ _ _ rfl (.nil))))
     |(rw [hbad,←hfl];exact (zc5 (ent_drop (h1:= [_])) (zb8 (.cons _ _ _ rfl (.cons _ _ _ rfl (.nil))))))
  ·refine rn ?_;refine za2 rfl (zb1 rfl fun b9=> ?_)
   refine rn ?_;refine za8 (fun hg16_1=> ?_) (fun hg16_1=> ?_)
   ·refine rn ?_;refine qv rfl rfl (za4 rfl rfl (za3.of_fun (allEv h.evs (.fn (.func 193) [] [pZ b1]) (eventB h) (.box b9 231 [.fn (.func 188) [] [pZ b1]]:: .box b1 28 (zb0 h):: [.glob 2 156 zc1,.glob 4 305 zb6,.glob 5 308 zb2]) rfl (fun e he=>za3.qt (za3.of_acall (fs:= []) (cs:= [pZ b1]) (shaped2 h b1 e (la.scans e he))) (pt1 _ _ _)) la.evs))) ?_
    refine rn ?_;refine za8 (fun hg16_7=> ?_) (fun hg16_7=> ?_)
    ·refine rn ?_;refine qv rfl rfl (za4 rfl rfl (za3.of_fun (allOrd h.ords (.fn (.func 196) [] [pZ b1,pZ b9]) (ordB h) (.box b9 231 [.fn (.func 188) [] [pZ b1]]:: .box b1 28 (zb0 h):: [.glob 2 156 zc1,.glob 4 305 zb6,.glob 5 308 zb2]) rfl (fun e he=>za3.qt (za3.of_acall (fs:= []) (cs:= [pZ b1,pZ b9]) (shaped3 h b1 b9 e (la.ordts e he))) (pt1 _ _ _)) la.ords))) ?_
     refine rn ?_;refine za8 (fun hg16_13=> ?_) (fun hg16_13=> ?_)
     ·refine rn ?_;refine qv rfl rfl (za4 rfl rfl (za3.of_fun (allMat h.mats (.fn (.func 198) [] [pZ b1,pZ b9]) (matB h) (.box b9 231 [.fn (.func 188) [] [pZ b1]]:: .box b1 28 (zb0 h):: [.glob 2 156 zc1,.glob 4 305 zb6,.glob 5 308 zb2]) rfl (fun e he=>za3.qt (za3.of_acall (fs:= []) (cs:= [pZ b1,pZ b9]) (shaped4 h b1 b9 e (la.matts e he))) (pt1 _ _ _)) la.mats))) ?_
      refine rn ?_;refine za8 (fun hg16_19=> ?_) (fun hg16_19=> ?_)
      ·refine rn ?_;refine qv rfl rfl (za4 rfl rfl (za3.of_fun (allWan h.wants (.fn (.func 200) [] [pZ b1]) (wanB h) (.box b9 231 [.fn (.func 188) [] [pZ b1]]:: .box b1 28 (zb0 h):: [.glob 2 156 zc1,.glob 4 305 zb6,.glob 5 308 zb2]) rfl (fun e he=>za3.qt (za3.of_acall (fs:= []) (cs:= [pZ b1]) (shaped5 h b1 e)) (pt1 _ _ _)) la.wants))) ?_
       refine rn ?_;refine ⟨fun l h=>(by cases h),?_⟩
       exact retT rfl (.drop [_,_] _ _) ⟨rfl,bvz7_4688⟩
      ·refine rn ?_;refine ⟨fun l h=>(by cases h),?_⟩
       exact retT rfl (.drop [_,_] _ _) ⟨rfl,bvz7_4688⟩
     ·refine rn ?_;refine ⟨fun l h=>(by cases h),?_⟩
      exact retT rfl (.drop [_,_] _ _) ⟨rfl,bvz7_4688⟩
    ·refine rn ?_;refine ⟨fun l h=>(by cases h),?_⟩
     exact retT rfl (.drop [_,_] _ _) ⟨rfl,bvz7_4688⟩
   ·refine rn ?_;refine ⟨fun l h=>(by cases h),?_⟩
    exact retT rfl (.drop [_,_] _ _) ⟨rfl,bvz7_4688⟩
end Go.Proofs
