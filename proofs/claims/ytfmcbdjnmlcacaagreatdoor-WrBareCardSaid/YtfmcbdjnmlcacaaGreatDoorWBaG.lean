/- The kit's contract of slices.Sort over this program. Conditions: none. -/
import Derived.Test.YtfmcbdjnmlcacaaGreatDoorWBaF
set_option linter.unusedSectionVars false
set_option linter.unusedSimpArgs false
set_option linter.unusedVariables false
namespace Go.Proofs
open Go Go.Ab Go.Shelf
def yex:Go.Shelf.Ren:=⟨fun|125=>137|128=>184|129=>185|189=>89|215=>204|216=>181|257=>136|294=>175|295=>176|296=>177|297=>178|298=>179|299=>180|300=>182|301=>183|328=>219|329=>220|330=>221|331=>222|332=>223|343=>265|n=>n,fun|0=>0|3=>3|4=>4|5=>5|9=>9|28=>29|46=>180|51=>225|53=>227|131=>67|182=>218|183=>219|218=>265|222=>185|228=>288|229=>289|n=>n,fun n=>n⟩
theorem yag:Lays.n189 Tryz.prog yex:={
 mixed:=by kernel_rfl
 f125:=Tryz.func137.trans (congrArg some (by kernel_rfl))
 f128:=Tryz.func184.trans (congrArg some (by kernel_rfl))
 f129:=Tryz.func185.trans (congrArg some (by kernel_rfl))
 f189:=Tryz.func89.trans (congrArg some (by kernel_rfl))
 f215:=Tryz.func204.trans (congrArg some (by kernel_rfl))
 f216:=Tryz.func181.trans (congrArg some (by kernel_rfl))
 f257:=Tryz.func136.trans (congrArg some (by kernel_rfl))
 f294:=Tryz.func175.trans (congrArg some (by kernel_rfl))
 f295:=Tryz.func176.trans (congrArg some (by kernel_rfl))
 f296:=Tryz.func177.trans (congrArg some (by kernel_rfl))
 f297:=Tryz.func178.trans (congrArg some (by kernel_rfl))
 f298:=Tryz.func179.trans (congrArg some (by kernel_rfl))
 f299:=Tryz.func180.trans (congrArg some (by kernel_rfl))
 f300:=Tryz.func182.trans (congrArg some (by kernel_rfl))
 f301:=Tryz.func183.trans (congrArg some (by kernel_rfl))
 f328:=Tryz.func219.trans (congrArg some (by kernel_rfl))
 f329:=Tryz.func220.trans (congrArg some (by kernel_rfl))
 f330:=Tryz.func221.trans (congrArg some (by kernel_rfl))
 f331:=Tryz.func222.trans (congrArg some (by kernel_rfl))
 f332:=Tryz.func223.trans (congrArg some (by kernel_rfl))
 f343:=Tryz.func265.trans (congrArg some (by kernel_rfl))
 t0:=Tryz.underlying0
 a0:=Tryz.isAgg0
 z0:=Tryz.sizeOf0
 v0:=Tryz.zeroValue0
 t3:=Tryz.underlying3
 a3:=Tryz.isAgg3
 z3:=Tryz.sizeOf3
 v3:=Tryz.zeroValue3
 t4:=Tryz.underlying4
 a4:=Tryz.isAgg4
 z4:=Tryz.sizeOf4
 v4:=Tryz.zeroValue4
 t5:=Tryz.underlying5
 a5:=Tryz.isAgg5
 z5:=Tryz.sizeOf5
 v5:=Tryz.zeroValue5
 t9:=Tryz.underlying9
 a9:=Tryz.isAgg9
 z9:=Tryz.sizeOf9
 v9:=Tryz.zeroValue9
 t28:=Tryz.underlying29
 a28:=Tryz.isAgg29
 z28:=Tryz.sizeOf29
 v28:=Tryz.zeroValue29
 t46:=Tryz.underlying180
 a46:=Tryz.isAgg180
 z46:=Tryz.sizeOf180
 v46:=Tryz.zeroValue180
 t51:=Tryz.underlying225
 a51:=Tryz.isAgg225
 z51:=Tryz.sizeOf225
 v51:=Tryz.zeroValue225
 t53:=Tryz.underlying227
 a53:=Tryz.isAgg227
 z53:=Tryz.sizeOf227
 v53:=Tryz.zeroValue227
 t131:=Tryz.underlying67
 a131:=Tryz.isAgg67
 z131:=Tryz.sizeOf67
 v131:=Tryz.zeroValue67
 t182:=Tryz.underlying218
 a182:=Tryz.isAgg218
 z182:=Tryz.sizeOf218
 v182:=Tryz.zeroValue218
 t183:=Tryz.underlying219
 a183:=Tryz.isAgg219
 z183:=Tryz.sizeOf219
 v183:=Tryz.zeroValue219
 t218:=Tryz.underlying265
 a218:=Tryz.isAgg265
 z218:=Tryz.sizeOf265
 v218:=Tryz.zeroValue265
 t222:=Tryz.underlying185
 a222:=Tryz.isAgg185
 z222:=Tryz.sizeOf185
 v222:=Tryz.zeroValue185
 t228:=Tryz.underlying288
 a228:=Tryz.isAgg288
 z228:=Tryz.sizeOf288
 v228:=Tryz.zeroValue288
 t229:=Tryz.underlying289
 a229:=Tryz.isAgg289
 z229:=Tryz.sizeOf289
 v229:=Tryz.zeroValue289}
def yg8:Go.Shelf.Ren:=⟨fun|20=>90|n=>n,fun|0=>0|3=>3|4=>4|22=>29|n=>n,fun n=>n⟩
theorem ycc:Lays2.n20 Tryz.prog yg8:={
 mixed:=by kernel_rfl
 f20:=Tryz.func90.trans (congrArg some (by kernel_rfl))
 i3:=by kernel_rfl
 t0:=Tryz.underlying0
 a0:=Tryz.isAgg0
 z0:=Tryz.sizeOf0
 v0:=Tryz.zeroValue0
 t3:=Tryz.underlying3
 a3:=Tryz.isAgg3
 z3:=Tryz.sizeOf3
 v3:=Tryz.zeroValue3
 t4:=Tryz.underlying4
 a4:=Tryz.isAgg4
 z4:=Tryz.sizeOf4
 v4:=Tryz.zeroValue4
 t22:=Tryz.underlying29
 a22:=Tryz.isAgg29
 z22:=Tryz.sizeOf29
 v22:=Tryz.zeroValue29}
set_option maxRecDepth 10000
attribute [local irreducible] QR QV OE zb8 aw zch zcv za4 zbx thn zeg
open Go.H
theorem ztp {f:Bool} (rows:List (List AV)) (hl:rows.length≤1099511627776):y8 Tryz.prog 64 [.list f 1 rows] [] (fun r h'=>h'= []∧r= .list false 1 rows):=by
 refine z6 Tryz.func64 rfl rfl rfl ?_
 refine rn ?_;refine z7 rfl (zh0 rfl rfl rfl fun b4 hb4=> ?_)
 refine rn ?_;refine y0 rfl (fun hc4=> ?_) (fun hc4=> ?_)
 ·refine rn ?_;have h0:=hb4 hc4
  subst h0
  exact zak rfl (.le (Sb.nil _ _).le) ⟨rfl,rfl⟩
 ·refine rn ?_;refine qv rfl rfl (w8 rfl rfl) ?_
  refine rn ?_;refine qv rfl rfl (zk0 rfl rfl (by simpa using hl)) ?_
  refine rn ?_;exact zak rfl (.refl _ _) ⟨rfl,by rw [List.nil_append];rfl⟩
theorem zp5 {f:Bool} (rows:List (List AV)) (hl:rows.length * 8≤140737488355328) (hone:∀r∈rows,r.all AV.one=true):y8 Tryz.prog 64 [.list f 1 rows] [] (fun r h'=>∃s,h'= [.row s 1 3 rows]∧r= .v s):=by
 refine z6 Tryz.func64 rfl rfl rfl ?_
 refine rn ?_;refine z7 rfl (zh0 rfl rfl rfl fun b4 hb4=> ?_)
 refine rn ?_;refine y0 rfl (fun hc4=> ?_) (fun hc4=> ?_)
 ·refine rn ?_;have h0:=hb4 hc4
  subst h0
  exact zak rfl (zae 1 3 _) ⟨_,rfl,rfl⟩
 ·refine rn ?_;refine z7 rfl (zhc rfl rfl rfl fun s5=> ?_)
  refine rn ?_;refine z7 rfl (zeo rfl rfl (by simp only [List.length_nil];omega) rfl (fun s7=> ?_) hone (by simpa using hl))
  refine rn ?_;exact zak rfl (.refl _ _) ⟨_,by rw [List.nil_append],rfl⟩
theorem zlm {f:Bool} (rows:List (List AV)) (hl:rows.length≤1099511627776) (hone:∀r∈rows,r.all AV.one=true):y8 Tryz.prog 64 [.list f 1 rows] [] (fun r h'=>∃s,h'= [.row s 1 3 rows]∧r= .v s):=zp5 rows (by omega) hone
theorem zp4 {f:Bool} (rows:List (List AV)) (hl:rows.length * 16≤140737488355328) (hone:∀r∈rows,r.all AV.one=true):y8 Tryz.prog 154 [.list f 1 rows] [] (fun r h'=>∃s,h'= [.row s 1 9 rows]∧r= .v s):=by
 refine z6 Tryz.func154 rfl rfl rfl ?_
 refine rn ?_;refine z7 rfl (zh0 rfl rfl rfl fun b4 hb4=> ?_)
 refine rn ?_;refine y0 rfl (fun hc4=> ?_) (fun hc4=> ?_)
 ·refine rn ?_;have h0:=hb4 hc4
  subst h0
  exact zak rfl (zae 1 9 _) ⟨_,rfl,rfl⟩
 ·refine rn ?_;refine z7 rfl (zhc rfl rfl rfl fun s5=> ?_)
  refine rn ?_;refine z7 rfl (zeo rfl rfl (by simp only [List.length_nil];omega) rfl (fun s7=> ?_) hone (by simpa using hl))
  refine rn ?_;exact zak rfl (.refl _ _) ⟨_,by rw [List.nil_append],rfl⟩
theorem zr5 {f:Bool} (rows:List (List AV)) (hl:rows.length≤1099511627776) (hone:∀r∈rows,r.all AV.one=true):y8 Tryz.prog 154 [.list f 1 rows] [] (fun r h'=>∃s,h'= [.row s 1 9 rows]∧r= .v s):=zp4 rows (by omega) hone
theorem zyv {f:Bool} (rows:List (List AV)) (hl:rows.length≤1099511627776):y8 Tryz.prog 85 [.list f 3 rows] [] (fun r h'=>h'= []∧r= .list false 3 rows):=by
 refine z6 Tryz.func85 rfl rfl rfl ?_
 refine rn ?_;refine z7 rfl (zh0 rfl rfl rfl fun b4 hb4=> ?_)
 refine rn ?_;refine y0 rfl (fun hc4=> ?_) (fun hc4=> ?_)
 ·refine rn ?_;have h0:=hb4 hc4
  subst h0
  exact zak rfl (.le (Sb.nil _ _).le) ⟨rfl,rfl⟩
 ·refine rn ?_;refine qv rfl rfl (w8 rfl rfl) ?_
  refine rn ?_;refine qv rfl rfl (zk0 rfl rfl (by simpa using hl)) ?_
  refine rn ?_;exact zak rfl (.refl _ _) ⟨rfl,by rw [List.nil_append];rfl⟩
theorem ycg {f:Bool} (rows:List (List AV)) (hl:rows.length≤1099511627776):y8 Tryz.prog 110 [.list f 2 rows] [] (fun r h'=>h'= []∧r= .list false 2 rows):=by
 refine z6 Tryz.func110 rfl rfl rfl ?_
 refine rn ?_;refine z7 rfl (zh0 rfl rfl rfl fun b4 hb4=> ?_)
 refine rn ?_;refine y0 rfl (fun hc4=> ?_) (fun hc4=> ?_)
 ·refine rn ?_;have h0:=hb4 hc4
  subst h0
  exact zak rfl (.le (Sb.nil _ _).le) ⟨rfl,rfl⟩
 ·refine rn ?_;refine qv rfl rfl (w8 rfl rfl) ?_
  refine rn ?_;refine qv rfl rfl (zk0 rfl rfl (by simpa using hl)) ?_
  refine rn ?_;exact zak rfl (.refl _ _) ⟨rfl,by rw [List.nil_append];rfl⟩
attribute [local irreducible] zdc jch zef
theorem zv6 (s:SV) (xs:List Int) (hs:xs.length < 4611686018427387904):y8 Tryz.prog 89 [.v s.v] [.row s.v 1 3 (xs.map za9)] (fun r h'=>h'= [.row s.v 1 3 ((srt xs).map za9)]∧r= .v (.tuple #[])):=
 zvc yag s 3 xs hs
theorem zyq (s:SV) (xs:List Int) (hs:xs.length≤4611686018427387904):y8 Tryz.prog 90 [.v s.v] [.row s.v 1 3 (xs.map za9)] (fun r h'=>∃s':SV,h'= [.row s'.v 1 3 ((zbj xs).map za9)]∧r= .v s'.v):=by
 rw [←zu8];exact zog ycc s 3 xs hs
theorem zns (h:Hist) (la:Lim 3000 h) (bl:Nat) (x:Int) (G:List Res):y8 Tryz.prog 328 [pZ bl,iv x] (.box bl 252 (zbq h)::G) (fun r h'=>h'= .box bl 252 (zbq h)::G∧r=za5 (zam h.evs x)):=by
 refine z6 Tryz.func328 rfl rfl rfl ?_
 have be:=la.evs
 refine rn ?_;refine z7 rfl (zab (enc:=intK) rfl fun bm=> ?_)
 refine rn ?_;refine zbn h.evs.length (fun k=>True) (fun k=>⟨[(18,iv k),(0,pZ bl),(1,iv x),(5,.v (.map (some bm))),(16,zvg h.evs),(17,iv (h.evs.map evR).length)],.map bm (j8 intK (zar bv (ydx (h.evs.take k)))):: .box bl 252 (zbq h)::G,[]⟩) trivial es ?_
 intro k lk _
 refine rn ?_;refine y0 rfl (fun hc19=> ?_) (fun hc19=> ?_)
 ·have hk:=zdb hc19
  have rk:=zbs (f:=evR) hk
  refine rn ?_;refine z7 rfl (y7 rfl fun b7=> ?_)
  first|refine z7 rfl (u7 rfl rfl rfl ?_)|refine z7 rfl (zad rfl rfl rfl rfl (Nat.le_of_ble_eq_true rfl) ?_)
  refine u4 (zai ?_)
  refine y6 ?_;refine q1 ?_;refine q1 ?_;refine q1 ?_;refine q1 ?_;refine q1 ?_;refine q1 ?_;refine qq rfl rfl (zay (enc:=intK) (k:=h.evs[k].t) false rfl rfl) ?_
  refine rn ?_;refine v8 (fun hg5_7=> ?_) (fun hg5_7=> ?_)
  ·refine rn ?_;refine z7 rfl (j7 (g:=bv) (enc:=intK) (k:=h.evs[k].t) rfl rfl rfl ?_)
   refine rn ?_;exact ⟨hk,trivial,by first|(rw [zh8 hk,hg5_7,Bool.true_or];exact eA)|(rw [zh8 hk,hg5_7,Bool.false_or];exact eA)⟩
  ·refine rn ?_;refine z7 rfl (j7 (g:=bv) (enc:=intK) (k:=h.evs[k].t) rfl rfl rfl ?_)
   refine rn ?_;exact ⟨hk,trivial,by first|(rw [zh8 hk,hg5_7,Bool.true_or];exact eA)|(rw [zh8 hk,hg5_7,Bool.false_or];exact eA)⟩
 ·have qk:=zdd hc19 lk
  subst qk
  rw [List.take_length]
  refine rn ?_;refine zlv h.evs.length (fun k s=>⟨[(41,iv k),(8,.v s.v),(1,iv x),(5,.v (.map (some bm))),(39,zvg h.evs),(40,iv (h.evs.map evR).length)],.row s.v 1 3 ((((h.evs.take k).filter (wrB h.evs x)).map Ev.t).map za9):: .map bm (j8 intK (zar bv (ydx h.evs))):: .box bl 252 (zbq h)::G,[]⟩) ⟨none,0,0⟩ (v6 (zaz 1 3) es) ?_
  intro k s lk
  refine rn ?_;refine y0 rfl (fun hc42=> ?_) (fun hc42=> ?_)
  ·have hk:=zdb hc42
   have rk:=zbs (f:=evR) hk
   refine rn ?_;refine z7 rfl (y7 rfl fun b10=> ?_)
   refine rn ?_;refine v8 (fun hg11_3=> ?_) (fun hg11_3=> ?_)
   ·refine rn ?_;refine v8 (fun hg11_9=> ?_) (fun hg11_9=> ?_)
    ·refine q1 ?_;refine q1 ?_;refine q1 ?_;refine qq rfl rfl (zay (enc:=intK) (k:=h.evs[k].t) false rfl rfl) ?_
     refine rn ?_;refine y0 rfl (fun hc59=> ?_) (fun hc59=> ?_)
     ·have hx:wrB h.evs x h.evs[k]=true:=by unfold wrB;rw [←zkd];simp_all
      refine rn ?_;refine qv rfl rfl (w8 rfl rfl) ?_
      refine z7 rfl (j6 rfl rfl (by simp only [oM,List.length_cons,List.length_nil];have:=zya (l:=h.evs) (k:=k) (p:=wrB h.evs x);omega) rfl (fun s64=> ?_) (ziq [h.evs[k].t]))
      refine zal s64 fun sv hsv=> ?_
      subst hsv
      refine rn ?_;exact ⟨hk,sv,by rw [ym4 hk hx,List.map_append,List.map_append];exact eA⟩
     ·have hx:wrB h.evs x h.evs[k]=false:=by unfold wrB;rw [←zkd];simp_all
      refine rn ?_;exact ⟨hk,s,by rw [yg0 hk hx];exact eA⟩
    ·refine rn ?_;refine zoe rfl ?_;have hx:wrB h.evs x h.evs[k]=false:=by unfold wrB;rw [←zkd];simp_all
     refine rn ?_;exact ⟨hk,s,by rw [yg0 hk hx];exact eA⟩
   ·refine rn ?_;refine zoe rfl ?_;have hx:wrB h.evs x h.evs[k]=false:=by unfold wrB;rw [←zkd];simp_all
    refine rn ?_;exact ⟨hk,s,by rw [yg0 hk hx];exact eA⟩
  ·have qk:=zdd hc42 lk
   subst qk
   refine rn ?_;refine z7 rfl (q7 rfl rfl (ze2 (y1.of_fun (zv6 s _ (by have:=zya (l:=h.evs) (k:=h.evs.length) (p:=wrB h.evs x);rw [oM];omega)))) rfl ?_)
   rintro _ _ ⟨rfl,rfl⟩
   refine rn ?_;refine z7 rfl (q7 rfl rfl (zf9 (y1.of_fun (zyq s _ (by rw [(zb9 _).length_eq,oM];have:=zya (l:=h.evs) (k:=h.evs.length) (p:=wrB h.evs x);omega)))) rfl ?_)
   rintro _ _ ⟨s',rfl,rfl⟩
   refine rn ?_;exact zak rfl (.trans zg8 (.drop1 _ _ _)) ⟨rfl,by rw [List.take_length];rfl⟩
theorem yj5 {f:Bool} (l:List Int) (n:Int) (hl:l.length≤4611686018427387904):y8 Tryz.prog 105 [.list f 1 (l.map za9),iv n] [] (fun r h'=>h'= []∧r=iv (zbi (fun a=>a==n) 0 l)):=by
 refine z6 Tryz.func105 rfl rfl rfl ?_
 refine rn ?_;refine yd3 (l.length) (fun k:Nat=>zbi (fun a=>a==n) 0 l=zbi (fun a=>a==n) k (l.drop k)) (fun k=> [(8,iv k)]) [(0,_),(1,_),(7,_)] (by simp) ?_
 intro k lk zk
 refine rn ?_;refine y0 rfl (fun hc9=> ?_) (fun hc9=> ?_)
 ·have hk:=zdb hc9
  have rk:=zbs (f:=za9) hk
  refine rn ?_;refine y0 rfl (fun hc16=> ?_) (fun hc16=> ?_)
  ·refine rn ?_;refine rq 0 ?_
   exact ⟨rfl,congrArg iv (by rw [zk,List.drop_eq_getElem_cons hk,zbi,if_pos (by rw [beq_iff_eq] at hc16 ⊢;exact hc16.symm)])⟩
  ·refine rn ?_;exact ⟨hk,by rw [zk,List.drop_eq_getElem_cons hk,zbi,if_neg (fun q=>by rw [beq_iff_eq] at q;rw [q] at hc16;simp at hc16)],eA⟩
 ·have qk:=zdd hc9 lk
  refine rn ?_;refine rq 0 ?_
  exact ⟨rfl,congrArg iv (by rw [zk,qk,List.drop_length];rfl)⟩
theorem zp1 {f:Bool} (l:List Int) (n:Int) (hl:l.length≤4611686018427387904):y8 Tryz.prog 44 [.list f 1 (l.map za9),iv n] [] (fun r h'=>h'= []∧r=bv (l.contains n)):=by
 refine z6 Tryz.func44 rfl rfl rfl ?_
 refine rn ?_;refine qv rfl rfl (y4 rfl rfl (zat (yj5 _ _ hl) (Sbs.refl _))) ?_
 refine rn ?_;refine rq 0 ?_
 exact ⟨rfl,congrArg bv (by rw [zdz,zp0])⟩
theorem yi2 (f:List Int) (t:Int) (b:Nat) (G:List Res) (hl:f.length≤4611686018427387904):y8 Tryz.prog 342 [iv t,pZ b] (.box b 29 [za5 f]::G) (fun r h'=>h'= .box b 29 [za5 f]::G∧r=bv (!f.contains t)):=by
 refine z6 Tryz.func342 rfl rfl rfl ?_
 refine rn ?_;refine qv rfl rfl (y4 rfl rfl (zat (zp1 _ _ hl) (Sbs.refl _))) ?_
 refine rn ?_;refine rq 0 ?_
 exact ⟨rfl,rfl⟩
theorem yi3 (ts f:List Int) (hl:ts.length≤1000000) (hf:f.length≤4611686018427387904):y8 Tryz.prog 330 [za5 ts,za5 f] [] (fun r h'=>h'= []∧r=bv (zra ts f)):=by
 refine z6 Tryz.func330 rfl rfl rfl ?_
 have hl':ts.length≤4611686018427387904:=Nat.le_trans hl (by decide)
 refine rn ?_;refine z7 rfl (w7 rfl rfl rfl fun b3=> ?_)
 refine rn ?_;refine z7 rfl (q7 rfl rfl (y1.new (y1.of_fun (zlm (ts.map za9) (by simp;omega) (fun r hr=>by obtain ⟨n,_,rfl⟩:=List.mem_map.1 hr;rfl)))) rfl ?_)
 rintro _ _ ⟨_,⟨s,rfl,rfl⟩,rfl⟩
 show zb8 _ _ _ _ _ _ ⟨_,.row s 1 3 (ts.map za9):: [.box b3 29 [za5 f]],_⟩
 refine zal s fun sv hsv=> ?_
 subst hsv
 refine rn ?_;refine z7 rfl (q7 rfl rfl (ze2 (y1.of_fun (zv6 sv ts (by omega)))) rfl ?_)
 rintro _ _ ⟨rfl,rfl⟩
 refine rn ?_;refine z7 rfl (q7 rfl rfl (zf9 (y1.of_fun (zyq sv (srt ts) (by rw [(zb9 _).length_eq];omega)))) rfl ?_)
 rintro _ _ ⟨s',rfl,rfl⟩
 refine rn ?_;refine v8 (fun hg3_6=> ?_) (fun hg3_6=> ?_)
 ·refine rn ?_;refine qv rfl rfl (y4 rfl rfl (y1.of_fun (zgc ts _ _ [.row s'.v 1 3 ((zbj (srt ts)).map za9),.box b3 29 [za5 f]] (fun t _=>y1.qt (h2:= [_]) (y1.of_acall (fs:= []) (cs:= [pZ b3]) (yi2 f t b3 [] hf)) (zdr [_] [_])) hl'))) ?_
  refine rn ?_;refine rq 2 ?_
  exact ⟨rfl,congrArg bv (by unfold zra;by_cases e:(zbj (srt ts)).length=ts.length <;> first|(simp_all;done)|(exfalso;simp at hg3_6;omega))⟩
 ·refine rn ?_;refine rq 2 ?_
  exact ⟨rfl,congrArg bv (by unfold zra;by_cases e:(zbj (srt ts)).length=ts.length <;> first|(simp_all;done)|(exfalso;simp at hg3_6;omega))⟩
theorem yfh {f:Bool} (l:List H.Ord) (fv:AV) (w:Nat→H.Ord→Bool) (G:List Res) (hp:∀k (hk:k < l.length),y1 Tryz.prog fv [iv k,.agg (zet l[k])] G (fun r h'=>h'=G∧r=bv (w k l[k]))) (hl:l.length≤1000000):y8 Tryz.prog 326 [.list f 2 (l.map zet),fv] G (fun r h'=>h'=G∧r=za8 (zcy w 0 l)):=by
 refine z6 Tryz.func326 rfl rfl rfl ?_
 refine rn ?_;refine zbn l.length (fun k=>zcy w 0 l=zcy w k (l.drop k)) (fun k=>⟨[(10,iv k),(1,fv),(8,.list f 2 (l.map zet)),(9,iv (l.map zet).length)],G,[]⟩) (by simp) es ?_
 intro k lk zk
 refine rn ?_;refine y0 rfl (fun hc11=> ?_) (fun hc11=> ?_)
 ·have hk:=zdb hc11
  have rk:=zbs (f:=zet) hk
  refine rn ?_;refine z7 rfl (y7 rfl fun b7=> ?_)
  refine rn ?_;refine qv rfl rfl (y4 rfl rfl (y1.qt (h2:= [_]) (hp k hk) (zdr [_] _))) ?_
  refine rn ?_;refine y0 rfl (fun hc18=> ?_) (fun hc18=> ?_)
  ·refine rn ?_;refine rq 1 ?_
   exact ⟨rfl,by rw [zfx hk zk (by simpa using hc18)];rfl⟩
  ·refine rn ?_;exact ⟨hk,zc3 hk zk (by simpa using hc18),eA⟩
 ·have qk:=zdd hc11 lk
  refine rn ?_;refine rq 0 ?_
  exact ⟨rfl,by rw [zhx qk zk];rfl⟩
theorem yfg {f:Bool} (l:List ByteArray) (fv:AV) (w:Nat→ByteArray→Bool) (G:List Res) (hp:∀k (hk:k < l.length),y1 Tryz.prog fv [iv k,sv l[k]] G (fun r h'=>h'=G∧r=bv (w k l[k]))) (hl:l.length≤1000000):y8 Tryz.prog 331 [.list f 1 (l.map zfn),fv] G (fun r h'=>h'=G∧r=za8 (zcy w 0 l)):=by
 refine z6 Tryz.func331 rfl rfl rfl ?_
 refine rn ?_;refine zbn l.length (fun k=>zcy w 0 l=zcy w k (l.drop k)) (fun k=>⟨[(10,iv k),(1,fv),(8,.list f 1 (l.map zfn)),(9,iv (l.map zfn).length)],G,[]⟩) (by simp) es ?_
 intro k lk zk
 refine rn ?_;refine y0 rfl (fun hc11=> ?_) (fun hc11=> ?_)
 ·have hk:=zdb hc11
  have rk:=zbs (f:=zfn) hk
  refine rn ?_;refine qv rfl rfl (y4 rfl rfl (hp k hk)) ?_
  refine rn ?_;refine y0 rfl (fun hc18=> ?_) (fun hc18=> ?_)
  ·refine rn ?_;refine rq 0 ?_
   exact ⟨rfl,by rw [zfx hk zk (by simpa using hc18)];rfl⟩
  ·refine rn ?_;exact ⟨hk,zc3 hk zk (by simpa using hc18),eA⟩
 ·have qk:=zdd hc11 lk
  refine rn ?_;refine rq 0 ?_
  exact ⟨rfl,by rw [zhx qk zk];rfl⟩
theorem yfi {f:Bool} (l:List Mat) (fv:AV) (w:Nat→Mat→Bool) (G:List Res) (hp:∀k (hk:k < l.length),y1 Tryz.prog fv [iv k,.agg (zee l[k])] G (fun r h'=>h'=G∧r=bv (w k l[k]))) (hl:l.length≤1000000):y8 Tryz.prog 334 [.list f 4 (l.map zee),fv] G (fun r h'=>h'=G∧r=za8 (zcy w 0 l)):=by
 refine z6 Tryz.func334 rfl rfl rfl ?_
 refine rn ?_;refine zbn l.length (fun k=>zcy w 0 l=zcy w k (l.drop k)) (fun k=>⟨[(10,iv k),(1,fv),(8,.list f 4 (l.map zee)),(9,iv (l.map zee).length)],G,[]⟩) (by simp) es ?_
 intro k lk zk
 refine rn ?_;refine y0 rfl (fun hc11=> ?_) (fun hc11=> ?_)
 ·have hk:=zdb hc11
  have rk:=zbs (f:=zee) hk
  refine rn ?_;refine z7 rfl (y7 rfl fun b7=> ?_)
  refine rn ?_;refine qv rfl rfl (y4 rfl rfl (y1.qt (h2:= [_]) (hp k hk) (zdr [_] _))) ?_
  refine rn ?_;refine y0 rfl (fun hc18=> ?_) (fun hc18=> ?_)
  ·refine rn ?_;refine rq 1 ?_
   exact ⟨rfl,by rw [zfx hk zk (by simpa using hc18)];rfl⟩
  ·refine rn ?_;exact ⟨hk,zc3 hk zk (by simpa using hc18),eA⟩
 ·have qk:=zdd hc11 lk
  refine rn ?_;refine rq 0 ?_
  exact ⟨rfl,by rw [zhx qk zk];rfl⟩
theorem yff {f:Bool} (l:List Wan) (fv:AV) (w:Nat→Wan→Bool) (G:List Res) (hp:∀k (hk:k < l.length),y1 Tryz.prog fv [iv k,.agg (zfq l[k])] G (fun r h'=>h'=G∧r=bv (w k l[k]))) (hl:l.length≤1000000):y8 Tryz.prog 337 [.list f 2 (l.map zfq),fv] G (fun r h'=>h'=G∧r=za8 (zcy w 0 l)):=by
 refine z6 Tryz.func337 rfl rfl rfl ?_
 refine rn ?_;refine zbn l.length (fun k=>zcy w 0 l=zcy w k (l.drop k)) (fun k=>⟨[(10,iv k),(1,fv),(8,.list f 2 (l.map zfq)),(9,iv (l.map zfq).length)],G,[]⟩) (by simp) es ?_
 intro k lk zk
 refine rn ?_;refine y0 rfl (fun hc11=> ?_) (fun hc11=> ?_)
 ·have hk:=zdb hc11
  have rk:=zbs (f:=zfq) hk
  refine rn ?_;refine z7 rfl (y7 rfl fun b7=> ?_)
  refine rn ?_;refine qv rfl rfl (y4 rfl rfl (y1.qt (h2:= [_]) (hp k hk) (zdr [_] _))) ?_
  refine rn ?_;refine y0 rfl (fun hc18=> ?_) (fun hc18=> ?_)
  ·refine rn ?_;refine rq 1 ?_
   exact ⟨rfl,by rw [zfx hk zk (by simpa using hc18)];rfl⟩
  ·refine rn ?_;exact ⟨hk,zc3 hk zk (by simpa using hc18),eA⟩
 ·have qk:=zdd hc11 lk
  refine rn ?_;refine rq 0 ?_
  exact ⟨rfl,by rw [zhx qk zk];rfl⟩
theorem yaq (p r:H.Ord) (b:Nat) (G:List Res):y8 Tryz.prog 329 [.agg (zet p),pZ b] (.box b 87 (zet r)::G) (fun x h'=>h'= .box b 87 (zet r)::G∧x=bv (p.o==r.o)):=by
 refine z6 Tryz.func329 rfl rfl rfl ?_
 refine rn ?_;refine z7 rfl (w7 rfl rfl rfl fun b2=> ?_)
 refine rn ?_;refine rq 1 ?_
 exact ⟨rfl,congrArg bv (by first|rfl|(simp_all;done))⟩
theorem yas (p r:Mat) (b:Nat) (G:List Res):y8 Tryz.prog 336 [.agg (zee p),pZ b] (.box b 109 (zee r)::G) (fun x h'=>h'= .box b 109 (zee r)::G∧x=bv (p.p==r.p && p.o==r.o)):=by
 refine z6 Tryz.func336 rfl rfl rfl ?_
 refine rn ?_;refine z7 rfl (w7 rfl rfl rfl fun b2=> ?_)
 refine rn ?_;refine v8 (fun hg1_5=> ?_) (fun hg1_5=> ?_)
 ·refine rn ?_;refine rq 1 ?_
  exact ⟨rfl,congrArg bv (by first|rfl|(simp_all;done))⟩
 ·refine rn ?_;refine rq 1 ?_
  exact ⟨rfl,congrArg bv (by first|rfl|(simp_all;done))⟩
theorem yfd (p r:Wan) (b:Nat) (G:List Res):y8 Tryz.prog 340 [.agg (zfq p),pZ b] (.box b 111 (zfq r)::G) (fun x h'=>h'= .box b 111 (zfq r)::G∧x=bv (p.s==r.s)):=by
 refine z6 Tryz.func340 rfl rfl rfl ?_
 refine rn ?_;refine z7 rfl (w7 rfl rfl rfl fun b2=> ?_)
 refine rn ?_;refine rq 1 ?_
 exact ⟨rfl,congrArg bv (by first|rfl|(simp_all;done))⟩
theorem yfe (e:Ev) (r:Wan) (b:Nat) (G:List Res):y8 Tryz.prog 339 [.agg (evR e),pZ b] (.box b 111 (zfq r)::G) (fun x h'=>h'= .box b 111 (zfq r)::G∧x=bv (e.kind==1 && e.s==r.s)):=by
 refine z6 Tryz.func339 rfl rfl rfl ?_
 refine rn ?_;refine z7 rfl (w7 rfl rfl rfl fun b2=> ?_)
 refine rn ?_;refine v8 (fun hg1_3=> ?_) (fun hg1_3=> ?_)
 ·refine rn ?_;refine rq 1 ?_
  exact ⟨rfl,congrArg bv (by first|(simp_all;done)|(simp only [*];done))⟩
 ·refine rn ?_;refine rq 1 ?_
  exact ⟨rfl,congrArg bv (by first|(simp_all;done)|(simp only [*];done))⟩
theorem zul (r:H.Ord) (x:Int) (b:Nat) (G:List Res):y8 Tryz.prog 333 [.agg (zet r),pZ b] (.box b 3 [iv x]::G) (fun z h'=>h'= .box b 3 [iv x]::G∧z=bv (r.o==x)):=by
 refine z6 Tryz.func333 rfl rfl rfl ?_
 refine rn ?_;refine z7 rfl (w7 rfl rfl rfl fun b2=> ?_)
 refine rn ?_;refine rq 1 ?_
 exact ⟨rfl,congrArg bv (by first|rfl|(simp_all;done))⟩
theorem yfj (h:Hist) (la:Lim 3000 h) (i:Nat) (hi:i≤h.ords.length) (r:H.Ord) (hr:r.ts.length≤3000) (bl bp:Nat) (G:List Res):y8 Tryz.prog 327 [iv i,.agg (zet r),pZ bp] (.box bp 247 [pZ bl]:: .box bl 252 (zbq h)::G) (fun x h'=>h'=(.box bp 247 [pZ bl]:: .box bl 252 (zbq h)::G)∧x=bv (zf2 h i r)):=by
 refine z6 Tryz.func327 rfl rfl rfl ?_
 have bo:=la.ords
 refine rn ?_;refine z7 rfl (w7 rfl rfl rfl fun b4=> ?_)
 refine rn ?_;refine qv rfl rfl (y4 rfl rfl (y1.qt (h2:= .box b4 87 (zet r):: .box bp 247 [pZ bl]::G) (y1.of_fun (zns h la bl r.o [])) (pt2 _ _ _ _))) ?_
 refine q1 ?_;refine u4 (zai ?_)
 refine w9 (y6 ?_)
 refine q1 ?_;refine q1 ?_;refine q1 ?_;refine q1 ?_;refine q1 ?_;refine q1 ?_;refine qq rfl rfl (zey (k:=i) rfl rfl (by rw [oM];omega)) ?_
 rw [←List.map_take]
 refine rn ?_;refine qv rfl rfl (y4 rfl rfl (y1.of_fun (zea (h.ords.take i) _ _ (.box b4 87 (zet r):: .box bp 247 [pZ bl]:: .box bl 252 (zbq h)::G) (fun p _=>y1.of_acall (fs:= []) (cs:= [pZ b4]) (yaq p r b4 (.box bp 247 [pZ bl]:: .box bl 252 (zbq h)::G))) (by rw [List.length_take];have:=la.ords;omega)))) ?_
 refine rn ?_;refine v8 (fun hg2_9=> ?_) (fun hg2_9=> ?_)
 ·refine rn ?_;refine rq 1 ?_
  exact ⟨rfl,congrArg bv (by unfold zf2;first|(simp only [hg2_9,hg2_16,oM,ziu,Bool.not_true,Bool.not_false,Bool.true_or,Bool.or_true,Bool.false_or];done)|(simp only [hg2_9,Bool.true_or];done)|(simp_all [ziu];done))⟩
 ·refine rn ?_;refine qv rfl rfl (y4 rfl rfl (zat (yi3 r.ts (zam h.evs r.o) (Nat.le_trans hr (by decide)) (Nat.le_trans (zih h.evs r.o) (Nat.le_trans la.evs (by decide)))) (Sbs.refl _))) ?_
  refine rn ?_;refine v8 (fun hg2_16=> ?_) (fun hg2_16=> ?_)
  ·refine rn ?_;refine rq 1 ?_
   exact ⟨rfl,congrArg bv (by unfold zf2;first|(simp only [hg2_9,hg2_16,oM,ziu,Bool.not_true,Bool.not_false,Bool.true_or,Bool.or_true,Bool.false_or];done)|(simp only [hg2_9,Bool.true_or];done)|(simp_all [ziu];done))⟩
  ·refine rn ?_;refine rq 1 ?_
   exact ⟨rfl,congrArg bv (by unfold zf2;first|(simp only [hg2_9,hg2_16,oM,ziu,Bool.not_true,Bool.not_false,Bool.true_or,Bool.or_true,Bool.false_or];done)|(simp only [hg2_9,Bool.true_or];done)|(simp_all [ziu];done))⟩
theorem yfk (h:Hist) (la:Lim 3000 h) (i:Nat) (hi:i≤h.mats.length) (r:Mat) (hr:r.ts.length≤3000) (bl bp:Nat) (G:List Res):y8 Tryz.prog 335 [iv i,.agg (zee r),pZ bp] (.box bp 247 [pZ bl]:: .box bl 252 (zbq h)::G) (fun x h'=>h'=(.box bp 247 [pZ bl]:: .box bl 252 (zbq h)::G)∧x=bv (zje h i r)):=by
 refine z6 Tryz.func335 rfl rfl rfl ?_
 have bo:=la.mats
 refine rn ?_;refine z7 rfl (w7 rfl rfl rfl fun b4=> ?_)
 refine rn ?_;refine j3 16 rfl ?_
 refine dq rfl rfl qrA ?_;refine dq rfl rfl qrA ?_;refine dq rfl rfl qrA ?_;refine dq rfl rfl qrA ?_;refine dq rfl rfl qrA ?_;refine dq rfl rfl qrA ?_;refine dq rfl rfl (zey (k:=i) rfl rfl (by rw [oM];omega)) ?_
 rw [←List.map_take]
 refine rn ?_;refine dv rfl rfl (by exact y4 rfl rfl (y1.of_fun (zgb (h.mats.take i) _ _ (.box b4 109 (zee r):: .box bp 247 [pZ bl]:: .box bl 252 (zbq h)::G) (fun p _=>y1.of_acall (fs:= []) (cs:= [pZ b4]) (yas p r b4 (.box bp 247 [pZ bl]:: .box bl 252 (zbq h)::G))) (by rw [List.length_take];have:=la.mats;omega)))) ?_
 refine rn ?_;refine zcu (fun hg2_9=> ?_) (fun hg2_9=> ?_)
 ·refine rn ?_;refine rq 1 ?_
  exact ⟨rfl,congrArg bv (by unfold zje;simp_all)⟩
 ·refine rn ?_;refine dv rfl rfl (by exact y4 rfl rfl (y1.qt (h2:= .box b4 109 (zee r):: .box bp 247 [pZ bl]::G) (y1.of_fun (zns h la bl r.o [])) (pt2 _ _ _ _))) ?_
  refine rn ?_;refine qv rfl rfl (y4 rfl rfl (zat (yi3 r.ts (zam h.evs r.o) (Nat.le_trans hr (by decide)) (Nat.le_trans (zih h.evs r.o) (Nat.le_trans la.evs (by decide)))) (Sbs.refl _))) ?_
  refine rn ?_;refine rq 1 ?_
  exact ⟨rfl,congrArg bv (by unfold zje;simp_all)⟩
theorem yiv (h:Hist) (la:Lim 3000 h) (i:Nat) (hi:i≤h.wants.length) (r:Wan) (bl bp:Nat) (G:List Res):y8 Tryz.prog 338 [iv i,.agg (zfq r),pZ bp] (.box bp 247 [pZ bl]:: .box bl 252 (zbq h)::G) (fun x h'=>h'=(.box bp 247 [pZ bl]:: .box bl 252 (zbq h)::G)∧x=bv (zqo h i r)):=by
 refine z6 Tryz.func338 rfl rfl rfl ?_
 have bo:=la.wants
 refine rn ?_;refine z7 rfl (w7 rfl rfl rfl fun b4=> ?_)
 refine q1 ?_;refine u4 (zai ?_)
 refine w9 (y6 ?_)
 refine q1 ?_;refine q1 ?_;refine u4 (zai ?_)
 refine w9 (y6 ?_)
 refine q1 ?_;refine q1 ?_;refine q1 ?_;refine q1 ?_;refine q1 ?_;refine q1 ?_;refine qq rfl rfl (zey (k:=i) rfl rfl (by rw [oM];omega)) ?_
 rw [←List.map_take]
 refine rn ?_;refine qv rfl rfl (y4 rfl rfl (y1.of_fun (zga (h.wants.take i) _ _ (.box b4 111 (zfq r):: .box bp 247 [pZ bl]:: .box bl 252 (zbq h)::G) (fun p _=>y1.of_acall (fs:= []) (cs:= [pZ b4]) (yfd p r b4 (.box bp 247 [pZ bl]:: .box bl 252 (zbq h)::G))) (by rw [List.length_take];have:=la.wants;omega)))) ?_
 refine rn ?_;refine v8 (fun hg2_9=> ?_) (fun hg2_9=> ?_)
 ·refine rn ?_;refine rq 1 ?_
  exact ⟨rfl,congrArg bv (by unfold zqo;simp_all)⟩
 ·refine rn ?_;refine qv rfl rfl (y4 rfl rfl (y1.of_fun (zg2 h.evs _ _ (.box b4 111 (zfq r):: .box bp 247 [pZ bl]:: .box bl 252 (zbq h)::G) (fun e _=>y1.of_acall (fs:= []) (cs:= [pZ b4]) (yfe e r b4 (.box bp 247 [pZ bl]:: .box bl 252 (zbq h)::G))) (Nat.le_trans la.evs (by decide))))) ?_
  refine rn ?_;refine rq 1 ?_
  exact ⟨rfl,congrArg bv (by unfold zqo;simp_all)⟩
theorem zww (h:Hist) (la:Lim 3000 h) (x:Int) (s:ByteArray) (bl bp:Nat) (G:List Res):y8 Tryz.prog 332 [iv x,sv s,pZ bp] (.box bp 247 [pZ bl]:: .box bl 252 (zbq h)::G) (fun z h'=>h'=(.box bp 247 [pZ bl]:: .box bl 252 (zbq h)::G)∧z=bv (znx h x)):=by
 refine z6 Tryz.func332 rfl rfl rfl ?_
 refine rn ?_;refine z7 rfl (w7 rfl rfl rfl fun b3=> ?_)
 refine rn ?_;refine qv rfl rfl (y4 rfl rfl (y1.qt (h2:= .box b3 3 [iv x]:: .box bp 247 [pZ bl]::G) (y1.of_fun (zns h la bl x [])) (pt2 _ _ _ _))) ?_
 refine rn ?_;refine v8 (fun hg1_5=> ?_) (fun hg1_5=> ?_)
 ·refine rn ?_;refine qv rfl rfl (y4 rfl rfl (y1.of_fun (zea h.ords _ _ (.box b3 3 [iv x]:: .box bp 247 [pZ bl]:: .box bl 252 (zbq h)::G) (fun r _=>y1.of_acall (fs:= []) (cs:= [pZ b3]) (zul r x b3 (.box bp 247 [pZ bl]:: .box bl 252 (zbq h)::G))) (Nat.le_trans la.ords (by decide))))) ?_
  refine rn ?_;refine rq 1 ?_
  exact ⟨rfl,congrArg bv (by unfold znx;by_cases e:1 < (zam h.evs x).length <;> first|(simp_all;done)|(simp [e];done)|(exfalso;simp at hg1_5;omega))⟩
 ·refine rn ?_;refine rq 1 ?_
  exact ⟨rfl,congrArg bv (by unfold znx;by_cases e:1 < (zam h.evs x).length <;> first|(simp_all;done)|(simp [e];done)|(exfalso;simp at hg1_5;omega))⟩
theorem yi1 (h:Hist) (la:Lim 3000 h) (bl:Nat) (G:List Res):y8 Tryz.prog 312 [pZ bl] (.box bl 252 (zbq h)::G) (fun r h'=>h'=G∧r=za8 (zb4 h 7)):=by
 refine z6 Tryz.func312 rfl rfl rfl ?_
 refine rn ?_;refine z7 rfl (w7 rfl rfl rfl fun b1=> ?_)
 refine rn ?_;refine qv rfl rfl (y4 rfl rfl (y1.of_fun (yfh h.ords (.fn (.func 327) [] [pZ b1]) (zf2 h) (.box b1 247 [pZ bl]:: .box bl 252 (zbq h)::G) (fun k hk=>y1.of_acall (fs:= []) (cs:= [pZ b1]) (yfj h la k (Nat.le_of_lt hk) _ (la.ordts _ (List.getElem_mem hk)) bl b1 G)) (Nat.le_trans la.ords (by decide))))) ?_
 obtain ⟨pi,pb,hpv⟩:∃i b,za8 (zcy (zf2 h) 0 h.ords)= .tup [iv i,bv b]:=zc5 _
 rw [hpv]
 refine rn ?_;refine rq 2 ?_
 exact ⟨rfl,hpv.symm⟩
theorem yar (h:Hist) (la:Lim 3000 h) (bl:Nat) (G:List Res):y8 Tryz.prog 313 [pZ bl] (.box bl 252 (zbq h)::G) (fun r h'=>h'=G∧r=za8 (zb4 h 8)):=by
 refine z6 Tryz.func313 rfl rfl rfl ?_
 refine rn ?_;refine z7 rfl (w7 rfl rfl rfl fun b1=> ?_)
 refine rn ?_;refine qv rfl rfl (y4 rfl rfl (y1.of_fun (yfg h.os (.fn (.func 332) [] [pZ b1]) (fun x _=>znx h (x:Nat)) (.box b1 247 [pZ bl]:: .box bl 252 (zbq h)::G) (fun k hk=>y1.of_acall (fs:= []) (cs:= [pZ b1]) (zww h la k _ bl b1 G)) (Nat.le_trans la.os (by decide))))) ?_
 obtain ⟨pi,pb,hpv⟩:∃i b,za8 (zcy (fun x _=>znx h (x:Nat)) 0 h.os)= .tup [iv i,bv b]:=zc5 _
 rw [hpv]
 refine rn ?_;refine rq 2 ?_
 exact ⟨rfl,hpv.symm⟩
theorem yi4 (h:Hist) (la:Lim 3000 h) (bl:Nat) (G:List Res):y8 Tryz.prog 314 [pZ bl] (.box bl 252 (zbq h)::G) (fun r h'=>h'=G∧r=za8 (zb4 h 9)):=by
 refine z6 Tryz.func314 rfl rfl rfl ?_
 refine rn ?_;refine z7 rfl (w7 rfl rfl rfl fun b1=> ?_)
 refine rn ?_;refine qv rfl rfl (y4 rfl rfl (y1.of_fun (yfi h.mats (.fn (.func 335) [] [pZ b1]) (zje h) (.box b1 247 [pZ bl]:: .box bl 252 (zbq h)::G) (fun k hk=>y1.of_acall (fs:= []) (cs:= [pZ b1]) (yfk h la k (Nat.le_of_lt hk) _ (la.matts _ (List.getElem_mem hk)) bl b1 G)) (Nat.le_trans la.mats (by decide))))) ?_
 obtain ⟨pi,pb,hpv⟩:∃i b,za8 (zcy (zje h) 0 h.mats)= .tup [iv i,bv b]:=zc5 _
 rw [hpv]
 refine rn ?_;refine rq 2 ?_
 exact ⟨rfl,hpv.symm⟩
theorem yl8 (h:Hist) (la:Lim 3000 h) (bl:Nat) (G:List Res):y8 Tryz.prog 315 [pZ bl] (.box bl 252 (zbq h)::G) (fun r h'=>h'=G∧r=za8 (zb4 h 10)):=by
 refine z6 Tryz.func315 rfl rfl rfl ?_
 refine rn ?_;refine z7 rfl (w7 rfl rfl rfl fun b1=> ?_)
 refine rn ?_;refine qv rfl rfl (y4 rfl rfl (y1.of_fun (yff h.wants (.fn (.func 338) [] [pZ b1]) (zqo h) (.box b1 247 [pZ bl]:: .box bl 252 (zbq h)::G) (fun k hk=>y1.of_acall (fs:= []) (cs:= [pZ b1]) (yiv h la k (Nat.le_of_lt hk) _ bl b1 G)) (Nat.le_trans la.wants (by decide))))) ?_
 obtain ⟨pi,pb,hpv⟩:∃i b,za8 (zcy (zqo h) 0 h.wants)= .tup [iv i,bv b]:=zc5 _
 rw [hpv]
 refine rn ?_;refine rq 2 ?_
 exact ⟨rfl,hpv.symm⟩
theorem zn8 (s:ByteArray) (hx:zb6 (bt s 0).toNat=240):y8 Tryz.prog 284 [.v (.string s)] [.glob 4 305 y3,.glob 5 308 z8] (fun r h'=>h'= [.glob 4 305 y3,.glob 5 308 z8]∧r= .tup [.v (.int .i32 (y5 s).1),iv (y5 s).2]):=by
 refine z6 Tryz.func284 rfl rfl rfl ?_
 refine rn ?_;refine y0 rfl (fun hc16=> ?_) (fun hc16=> ?_)
 ·refine rn ?_;have hd:y5 s=(65533,0):=by
   unfold y5
   rw [if_pos (by simp at hc16;omega)]
  exact zbk rfl rfl (.refl _ _) ⟨rfl,by rw [hd];rfl⟩
 ·have h1:0 < s.size:=by simp at hc16;omega
  refine rn ?_;refine qq rfl rfl (u0 0 rfl rfl (by omega)) ?_
  refine rn ?_;refine qq rfl rfl (u6 rfl rfl (zff _ _) (zfe _ _)) ?_
  refine qq rfl rfl (k9 rfl (show _=some (.v (.int .u8 240)) from by rw [zcb (zff s 0) (zfe s 0),hx])) ?_
  refine rn ?_;refine y0 rfl (fun hc23=> ?_) (fun hc23=> ?_)
  ·refine rn ?_;refine qq rfl rfl (u0 0 rfl rfl (by omega)) ?_
   refine rn ?_;have hd:y5 s=(bI .or .i32 (bI .andNot .i32 (IntKind.i32.wrap (bt s 0)) (zi3 240)) (bI .and .i32 65533 (zi3 240)),1):=by
    unfold y5
    rw [if_neg (by omega)]
    simp only [hx]
    rw [if_pos (by decide)]
   exact zbk rfl rfl (.refl _ _) ⟨rfl,by rw [hd];rfl⟩
  ·first|cases hc23|exact absurd hc23 (by decide)|(exfalso;simp_all;done)
theorem zn7 (s:ByteArray) (hx:zb6 (bt s 0).toNat=241):y8 Tryz.prog 284 [.v (.string s)] [.glob 4 305 y3,.glob 5 308 z8] (fun r h'=>h'= [.glob 4 305 y3,.glob 5 308 z8]∧r= .tup [.v (.int .i32 (y5 s).1),iv (y5 s).2]):=by
 refine z6 Tryz.func284 rfl rfl rfl ?_
 refine rn ?_;refine y0 rfl (fun hc16=> ?_) (fun hc16=> ?_)
 ·refine rn ?_;have hd:y5 s=(65533,0):=by
   unfold y5
   rw [if_pos (by simp at hc16;omega)]
  exact zbk rfl rfl (.refl _ _) ⟨rfl,by rw [hd];rfl⟩
 ·have h1:0 < s.size:=by simp at hc16;omega
  refine rn ?_;refine qq rfl rfl (u0 0 rfl rfl (by omega)) ?_
  refine rn ?_;refine qq rfl rfl (u6 rfl rfl (zff _ _) (zfe _ _)) ?_
  refine qq rfl rfl (k9 rfl (show _=some (.v (.int .u8 241)) from by rw [zcb (zff s 0) (zfe s 0),hx])) ?_
  refine rn ?_;refine y0 rfl (fun hc23=> ?_) (fun hc23=> ?_)
  ·refine rn ?_;refine qq rfl rfl (u0 0 rfl rfl (by omega)) ?_
   refine rn ?_;have hd:y5 s=(bI .or .i32 (bI .andNot .i32 (IntKind.i32.wrap (bt s 0)) (zi3 241)) (bI .and .i32 65533 (zi3 241)),1):=by
    unfold y5
    rw [if_neg (by omega)]
    simp only [hx]
    rw [if_pos (by decide)]
   exact zbk rfl rfl (.refl _ _) ⟨rfl,by rw [hd];rfl⟩
  ·first|cases hc23|exact absurd hc23 (by decide)|(exfalso;simp_all;done)
theorem zr3 (s:ByteArray) (hx:zb6 (bt s 0).toNat=2):y8 Tryz.prog 284 [.v (.string s)] [.glob 4 305 y3,.glob 5 308 z8] (fun r h'=>h'= [.glob 4 305 y3,.glob 5 308 z8]∧r= .tup [.v (.int .i32 (y5 s).1),iv (y5 s).2]):=by
 refine z6 Tryz.func284 rfl rfl rfl ?_
 refine rn ?_;refine y0 rfl (fun hc16=> ?_) (fun hc16=> ?_)
 ·refine rn ?_;have hd:y5 s=(65533,0):=by
   unfold y5
   rw [if_pos (by simp at hc16;omega)]
  exact zbk rfl rfl (.refl _ _) ⟨rfl,by rw [hd];rfl⟩
 ·have h1:0 < s.size:=by simp at hc16;omega
  refine rn ?_;refine qq rfl rfl (u0 0 rfl rfl (by omega)) ?_
  refine rn ?_;refine qq rfl rfl (u6 rfl rfl (zff _ _) (zfe _ _)) ?_
  refine qq rfl rfl (k9 rfl (show _=some (.v (.int .u8 2)) from by rw [zcb (zff s 0) (zfe s 0),hx])) ?_
  refine rn ?_;refine y0 rfl (fun hc23=> ?_) (fun hc23=> ?_)
  ·first|cases hc23|exact absurd hc23 (by decide)|(exfalso;simp_all;done)
  ·refine rn ?_;refine qq rfl rfl (u6 rfl rfl (by decide) (by decide)) ?_
   refine rn ?_;refine z7 rfl (y7 rfl fun b9=> ?_)
   refine rn ?_;refine y0 rfl (fun hc45=> ?_) (fun hc45=> ?_)
   ·refine rn ?_;have hd:y5 s=(65533,1):=by
     unfold y5
     rw [if_neg (by omega)]
     simp only [hx]
     rw [if_neg (by decide),if_pos (show (s.size:Int) < (2:Int) % 8 from oT hc45)]
    exact zbk rfl rfl (.drop1 _ _ _) ⟨rfl,by rw [hd];rfl⟩
   ·have h2:2≤s.size:=by
     have:¬((s.size:Int) < 2):=oF hc45
     omega
    refine rn ?_;refine qq rfl rfl (u0 1 rfl rfl (by omega)) ?_
    refine rn ?_;refine v8 (fun hg14_4=> ?_) (fun hg14_4=> ?_)
    ·refine rn ?_;refine y0 rfl (fun hc57=> ?_) (fun hc57=> ?_)
     ·refine rn ?_;have hd:y5 s=(65533,1):=by
       unfold y5
       rw [if_neg (by omega)]
       simp only [hx]
       rw [if_neg (by decide),if_neg (show ¬(s.size:Int) < (2:Int) % 8 from oF hc45),if_pos (show bt s 1 < zbt ((2:Int) / 16).toNat∨zbu ((2:Int) / 16).toNat < bt s 1 from by first|exact .inl (oT hg14_4)|exact .inr (oT hc57))]
      exact zbk rfl rfl (.drop1 _ _ _) ⟨rfl,by rw [hd];rfl⟩
     ·first|cases hc57|exact absurd hc57 (by decide)|(exfalso;simp_all;done)
    ·refine rn ?_;refine y0 rfl (fun hc57=> ?_) (fun hc57=> ?_)
     ·refine rn ?_;have hd:y5 s=(65533,1):=by
       unfold y5
       rw [if_neg (by omega)]
       simp only [hx]
       rw [if_neg (by decide),if_neg (show ¬(s.size:Int) < (2:Int) % 8 from oF hc45),if_pos (show bt s 1 < zbt ((2:Int) / 16).toNat∨zbu ((2:Int) / 16).toNat < bt s 1 from by first|exact .inl (oT hg14_4)|exact .inr (oT hc57))]
      exact zbk rfl rfl (.drop1 _ _ _) ⟨rfl,by rw [hd];rfl⟩
     ·refine rn ?_;refine y0 rfl (fun hc59=> ?_) (fun hc59=> ?_)
      ·refine rn ?_;have hd:y5 s=(bI .or .i32 (zck (bt s 0) 31 6) (zck (bt s 1) 63 0),2):=by
        unfold y5
        rw [if_neg (by omega)]
        simp only [hx]
        rw [if_neg (by decide),if_neg (show ¬(s.size:Int) < (2:Int) % 8 from oF hc45),if_neg (show ¬(bt s 1 < zbt ((2:Int) / 16).toNat∨zbu ((2:Int) / 16).toNat < bt s 1) from fun q=>q.elim (oF hg14_4) (oF hc57)),if_pos (by decide)]
       exact zbk rfl rfl (.drop1 _ _ _) ⟨rfl,by rw [hd];rfl⟩
      ·first|cases hc59|exact absurd hc59 (by decide)|(exfalso;simp_all;done)
theorem zpv (s:ByteArray) (hx:zb6 (bt s 0).toNat=19):y8 Tryz.prog 284 [.v (.string s)] [.glob 4 305 y3,.glob 5 308 z8] (fun r h'=>h'= [.glob 4 305 y3,.glob 5 308 z8]∧r= .tup [.v (.int .i32 (y5 s).1),iv (y5 s).2]):=by
 refine z6 Tryz.func284 rfl rfl rfl ?_
 refine rn ?_;refine y0 rfl (fun hc16=> ?_) (fun hc16=> ?_)
 ·refine rn ?_;have hd:y5 s=(65533,0):=by
   unfold y5
   rw [if_pos (by simp at hc16;omega)]
  exact zbk rfl rfl (.refl _ _) ⟨rfl,by rw [hd];rfl⟩
 ·have h1:0 < s.size:=by simp at hc16;omega
  refine rn ?_;refine qq rfl rfl (u0 0 rfl rfl (by omega)) ?_
  refine rn ?_;refine qq rfl rfl (u6 rfl rfl (zff _ _) (zfe _ _)) ?_
  refine qq rfl rfl (k9 rfl (show _=some (.v (.int .u8 19)) from by rw [zcb (zff s 0) (zfe s 0),hx])) ?_
  refine rn ?_;refine y0 rfl (fun hc23=> ?_) (fun hc23=> ?_)
  ·first|cases hc23|exact absurd hc23 (by decide)|(exfalso;simp_all;done)
  ·refine rn ?_;refine qq rfl rfl (u6 rfl rfl (by decide) (by decide)) ?_
   refine rn ?_;refine z7 rfl (y7 rfl fun b9=> ?_)
   refine rn ?_;refine y0 rfl (fun hc45=> ?_) (fun hc45=> ?_)
   ·refine rn ?_;have hd:y5 s=(65533,1):=by
     unfold y5
     rw [if_neg (by omega)]
     simp only [hx]
     rw [if_neg (by decide),if_pos (show (s.size:Int) < (19:Int) % 8 from oT hc45)]
    exact zbk rfl rfl (.drop1 _ _ _) ⟨rfl,by rw [hd];rfl⟩
   ·have h2:3≤s.size:=by
     have:¬((s.size:Int) < 3):=oF hc45
     omega
    refine rn ?_;refine qq rfl rfl (u0 1 rfl rfl (by omega)) ?_
    refine rn ?_;refine v8 (fun hg14_4=> ?_) (fun hg14_4=> ?_)
    ·refine rn ?_;refine y0 rfl (fun hc57=> ?_) (fun hc57=> ?_)
     ·refine rn ?_;have hd:y5 s=(65533,1):=by
       unfold y5
       rw [if_neg (by omega)]
       simp only [hx]
       rw [if_neg (by decide),if_neg (show ¬(s.size:Int) < (19:Int) % 8 from oF hc45),if_pos (show bt s 1 < zbt ((19:Int) / 16).toNat∨zbu ((19:Int) / 16).toNat < bt s 1 from by first|exact .inl (oT hg14_4)|exact .inr (oT hc57))]
      exact zbk rfl rfl (.drop1 _ _ _) ⟨rfl,by rw [hd];rfl⟩
     ·first|cases hc57|exact absurd hc57 (by decide)|(exfalso;simp_all;done)
    ·refine rn ?_;refine y0 rfl (fun hc57=> ?_) (fun hc57=> ?_)
     ·refine rn ?_;have hd:y5 s=(65533,1):=by
       unfold y5
       rw [if_neg (by omega)]
       simp only [hx]
       rw [if_neg (by decide),if_neg (show ¬(s.size:Int) < (19:Int) % 8 from oF hc45),if_pos (show bt s 1 < zbt ((19:Int) / 16).toNat∨zbu ((19:Int) / 16).toNat < bt s 1 from by first|exact .inl (oT hg14_4)|exact .inr (oT hc57))]
      exact zbk rfl rfl (.drop1 _ _ _) ⟨rfl,by rw [hd];rfl⟩
     ·refine rn ?_;refine y0 rfl (fun hc59=> ?_) (fun hc59=> ?_)
      ·first|cases hc59|exact absurd hc59 (by decide)|(exfalso;simp_all;done)
      ·refine rn ?_;refine qq rfl rfl (u0 2 rfl rfl (by omega)) ?_
       refine rn ?_;refine v8 (fun hg19_2=> ?_) (fun hg19_2=> ?_)
       ·refine rn ?_;refine y0 rfl (fun hc75=> ?_) (fun hc75=> ?_)
        ·refine rn ?_;have hd:y5 s=(65533,1):=by
          unfold y5
          rw [if_neg (by omega)]
          simp only [hx]
          rw [if_neg (by decide),if_neg (show ¬(s.size:Int) < (19:Int) % 8 from oF hc45),if_neg (show ¬(bt s 1 < zbt ((19:Int) / 16).toNat∨zbu ((19:Int) / 16).toNat < bt s 1) from fun q=>q.elim (oF hg14_4) (oF hc57)),if_neg (by decide),if_pos (show bt s 2 < 128∨191 < bt s 2 from by first|exact .inl (oT hg19_2)|exact .inr (oT hc75))]
         exact zbk rfl rfl (.drop1 _ _ _) ⟨rfl,by rw [hd];rfl⟩
        ·first|cases hc75|exact absurd hc75 (by decide)|(exfalso;simp_all;done)
       ·refine rn ?_;refine y0 rfl (fun hc75=> ?_) (fun hc75=> ?_)
        ·refine rn ?_;have hd:y5 s=(65533,1):=by
          unfold y5
          rw [if_neg (by omega)]
          simp only [hx]
          rw [if_neg (by decide),if_neg (show ¬(s.size:Int) < (19:Int) % 8 from oF hc45),if_neg (show ¬(bt s 1 < zbt ((19:Int) / 16).toNat∨zbu ((19:Int) / 16).toNat < bt s 1) from fun q=>q.elim (oF hg14_4) (oF hc57)),if_neg (by decide),if_pos (show bt s 2 < 128∨191 < bt s 2 from by first|exact .inl (oT hg19_2)|exact .inr (oT hc75))]
         exact zbk rfl rfl (.drop1 _ _ _) ⟨rfl,by rw [hd];rfl⟩
        ·refine rn ?_;refine y0 rfl (fun hc77=> ?_) (fun hc77=> ?_)
         ·refine rn ?_;have hd:y5 s=(bI .or .i32 (bI .or .i32 (zck (bt s 0) 15 12) (zck (bt s 1) 63 6)) (zck (bt s 2) 63 0),3):=by
           unfold y5
           rw [if_neg (by omega)]
           simp only [hx]
           rw [if_neg (by decide),if_neg (show ¬(s.size:Int) < (19:Int) % 8 from oF hc45),if_neg (show ¬(bt s 1 < zbt ((19:Int) / 16).toNat∨zbu ((19:Int) / 16).toNat < bt s 1) from fun q=>q.elim (oF hg14_4) (oF hc57)),if_neg (by decide),if_neg (show ¬(bt s 2 < 128∨191 < bt s 2) from fun q=>q.elim (oF hg19_2) (oF hc75)),if_pos (by decide)]
          exact zbk rfl rfl (.drop1 _ _ _) ⟨rfl,by rw [hd];rfl⟩
         ·first|cases hc77|exact absurd hc77 (by decide)|(exfalso;simp_all;done)
theorem zr2 (s:ByteArray) (hx:zb6 (bt s 0).toNat=3):y8 Tryz.prog 284 [.v (.string s)] [.glob 4 305 y3,.glob 5 308 z8] (fun r h'=>h'= [.glob 4 305 y3,.glob 5 308 z8]∧r= .tup [.v (.int .i32 (y5 s).1),iv (y5 s).2]):=by
 refine z6 Tryz.func284 rfl rfl rfl ?_
 refine rn ?_;refine y0 rfl (fun hc16=> ?_) (fun hc16=> ?_)
 ·refine rn ?_;have hd:y5 s=(65533,0):=by
   unfold y5
   rw [if_pos (by simp at hc16;omega)]
  exact zbk rfl rfl (.refl _ _) ⟨rfl,by rw [hd];rfl⟩
 ·have h1:0 < s.size:=by simp at hc16;omega
  refine rn ?_;refine qq rfl rfl (u0 0 rfl rfl (by omega)) ?_
  refine rn ?_;refine qq rfl rfl (u6 rfl rfl (zff _ _) (zfe _ _)) ?_
  refine qq rfl rfl (k9 rfl (show _=some (.v (.int .u8 3)) from by rw [zcb (zff s 0) (zfe s 0),hx])) ?_
  refine rn ?_;refine y0 rfl (fun hc23=> ?_) (fun hc23=> ?_)
  ·first|cases hc23|exact absurd hc23 (by decide)|(exfalso;simp_all;done)
  ·refine rn ?_;refine qq rfl rfl (u6 rfl rfl (by decide) (by decide)) ?_
   refine rn ?_;refine z7 rfl (y7 rfl fun b9=> ?_)
   refine rn ?_;refine y0 rfl (fun hc45=> ?_) (fun hc45=> ?_)
   ·refine rn ?_;have hd:y5 s=(65533,1):=by
     unfold y5
     rw [if_neg (by omega)]
     simp only [hx]
     rw [if_neg (by decide),if_pos (show (s.size:Int) < (3:Int) % 8 from oT hc45)]
    exact zbk rfl rfl (.drop1 _ _ _) ⟨rfl,by rw [hd];rfl⟩
   ·have h2:3≤s.size:=by
     have:¬((s.size:Int) < 3):=oF hc45
     omega
    refine rn ?_;refine qq rfl rfl (u0 1 rfl rfl (by omega)) ?_
    refine rn ?_;refine v8 (fun hg14_4=> ?_) (fun hg14_4=> ?_)
    ·refine rn ?_;refine y0 rfl (fun hc57=> ?_) (fun hc57=> ?_)
     ·refine rn ?_;have hd:y5 s=(65533,1):=by
       unfold y5
       rw [if_neg (by omega)]
       simp only [hx]
       rw [if_neg (by decide),if_neg (show ¬(s.size:Int) < (3:Int) % 8 from oF hc45),if_pos (show bt s 1 < zbt ((3:Int) / 16).toNat∨zbu ((3:Int) / 16).toNat < bt s 1 from by first|exact .inl (oT hg14_4)|exact .inr (oT hc57))]
      exact zbk rfl rfl (.drop1 _ _ _) ⟨rfl,by rw [hd];rfl⟩
     ·first|cases hc57|exact absurd hc57 (by decide)|(exfalso;simp_all;done)
    ·refine rn ?_;refine y0 rfl (fun hc57=> ?_) (fun hc57=> ?_)
     ·refine rn ?_;have hd:y5 s=(65533,1):=by
       unfold y5
       rw [if_neg (by omega)]
       simp only [hx]
       rw [if_neg (by decide),if_neg (show ¬(s.size:Int) < (3:Int) % 8 from oF hc45),if_pos (show bt s 1 < zbt ((3:Int) / 16).toNat∨zbu ((3:Int) / 16).toNat < bt s 1 from by first|exact .inl (oT hg14_4)|exact .inr (oT hc57))]
      exact zbk rfl rfl (.drop1 _ _ _) ⟨rfl,by rw [hd];rfl⟩
     ·refine rn ?_;refine y0 rfl (fun hc59=> ?_) (fun hc59=> ?_)
      ·first|cases hc59|exact absurd hc59 (by decide)|(exfalso;simp_all;done)
      ·refine rn ?_;refine qq rfl rfl (u0 2 rfl rfl (by omega)) ?_
       refine rn ?_;refine v8 (fun hg19_2=> ?_) (fun hg19_2=> ?_)
       ·refine rn ?_;refine y0 rfl (fun hc75=> ?_) (fun hc75=> ?_)
        ·refine rn ?_;have hd:y5 s=(65533,1):=by
          unfold y5
          rw [if_neg (by omega)]
          simp only [hx]
          rw [if_neg (by decide),if_neg (show ¬(s.size:Int) < (3:Int) % 8 from oF hc45),if_neg (show ¬(bt s 1 < zbt ((3:Int) / 16).toNat∨zbu ((3:Int) / 16).toNat < bt s 1) from fun q=>q.elim (oF hg14_4) (oF hc57)),if_neg (by decide),if_pos (show bt s 2 < 128∨191 < bt s 2 from by first|exact .inl (oT hg19_2)|exact .inr (oT hc75))]
         exact zbk rfl rfl (.drop1 _ _ _) ⟨rfl,by rw [hd];rfl⟩
        ·first|cases hc75|exact absurd hc75 (by decide)|(exfalso;simp_all;done)
       ·refine rn ?_;refine y0 rfl (fun hc75=> ?_) (fun hc75=> ?_)
        ·refine rn ?_;have hd:y5 s=(65533,1):=by
          unfold y5
          rw [if_neg (by omega)]
          simp only [hx]
          rw [if_neg (by decide),if_neg (show ¬(s.size:Int) < (3:Int) % 8 from oF hc45),if_neg (show ¬(bt s 1 < zbt ((3:Int) / 16).toNat∨zbu ((3:Int) / 16).toNat < bt s 1) from fun q=>q.elim (oF hg14_4) (oF hc57)),if_neg (by decide),if_pos (show bt s 2 < 128∨191 < bt s 2 from by first|exact .inl (oT hg19_2)|exact .inr (oT hc75))]
         exact zbk rfl rfl (.drop1 _ _ _) ⟨rfl,by rw [hd];rfl⟩
        ·refine rn ?_;refine y0 rfl (fun hc77=> ?_) (fun hc77=> ?_)
         ·refine rn ?_;have hd:y5 s=(bI .or .i32 (bI .or .i32 (zck (bt s 0) 15 12) (zck (bt s 1) 63 6)) (zck (bt s 2) 63 0),3):=by
           unfold y5
           rw [if_neg (by omega)]
           simp only [hx]
           rw [if_neg (by decide),if_neg (show ¬(s.size:Int) < (3:Int) % 8 from oF hc45),if_neg (show ¬(bt s 1 < zbt ((3:Int) / 16).toNat∨zbu ((3:Int) / 16).toNat < bt s 1) from fun q=>q.elim (oF hg14_4) (oF hc57)),if_neg (by decide),if_neg (show ¬(bt s 2 < 128∨191 < bt s 2) from fun q=>q.elim (oF hg19_2) (oF hc75)),if_pos (by decide)]
          exact zbk rfl rfl (.drop1 _ _ _) ⟨rfl,by rw [hd];rfl⟩
         ·first|cases hc77|exact absurd hc77 (by decide)|(exfalso;simp_all;done)
theorem zpu (s:ByteArray) (hx:zb6 (bt s 0).toNat=35):y8 Tryz.prog 284 [.v (.string s)] [.glob 4 305 y3,.glob 5 308 z8] (fun r h'=>h'= [.glob 4 305 y3,.glob 5 308 z8]∧r= .tup [.v (.int .i32 (y5 s).1),iv (y5 s).2]):=by
 refine z6 Tryz.func284 rfl rfl rfl ?_
 refine rn ?_;refine y0 rfl (fun hc16=> ?_) (fun hc16=> ?_)
 ·refine rn ?_;have hd:y5 s=(65533,0):=by
   unfold y5
   rw [if_pos (by simp at hc16;omega)]
  exact zbk rfl rfl (.refl _ _) ⟨rfl,by rw [hd];rfl⟩
 ·have h1:0 < s.size:=by simp at hc16;omega
  refine rn ?_;refine qq rfl rfl (u0 0 rfl rfl (by omega)) ?_
  refine rn ?_;refine qq rfl rfl (u6 rfl rfl (zff _ _) (zfe _ _)) ?_
  refine qq rfl rfl (k9 rfl (show _=some (.v (.int .u8 35)) from by rw [zcb (zff s 0) (zfe s 0),hx])) ?_
  refine rn ?_;refine y0 rfl (fun hc23=> ?_) (fun hc23=> ?_)
  ·first|cases hc23|exact absurd hc23 (by decide)|(exfalso;simp_all;done)
  ·refine rn ?_;refine qq rfl rfl (u6 rfl rfl (by decide) (by decide)) ?_
   refine rn ?_;refine z7 rfl (y7 rfl fun b9=> ?_)
   refine rn ?_;refine y0 rfl (fun hc45=> ?_) (fun hc45=> ?_)
   ·refine rn ?_;have hd:y5 s=(65533,1):=by
     unfold y5
     rw [if_neg (by omega)]
     simp only [hx]
     rw [if_neg (by decide),if_pos (show (s.size:Int) < (35:Int) % 8 from oT hc45)]
    exact zbk rfl rfl (.drop1 _ _ _) ⟨rfl,by rw [hd];rfl⟩
   ·have h2:3≤s.size:=by
     have:¬((s.size:Int) < 3):=oF hc45
     omega
    refine rn ?_;refine qq rfl rfl (u0 1 rfl rfl (by omega)) ?_
    refine rn ?_;refine v8 (fun hg14_4=> ?_) (fun hg14_4=> ?_)
    ·refine rn ?_;refine y0 rfl (fun hc57=> ?_) (fun hc57=> ?_)
     ·refine rn ?_;have hd:y5 s=(65533,1):=by
       unfold y5
       rw [if_neg (by omega)]
       simp only [hx]
       rw [if_neg (by decide),if_neg (show ¬(s.size:Int) < (35:Int) % 8 from oF hc45),if_pos (show bt s 1 < zbt ((35:Int) / 16).toNat∨zbu ((35:Int) / 16).toNat < bt s 1 from by first|exact .inl (oT hg14_4)|exact .inr (oT hc57))]
      exact zbk rfl rfl (.drop1 _ _ _) ⟨rfl,by rw [hd];rfl⟩
     ·first|cases hc57|exact absurd hc57 (by decide)|(exfalso;simp_all;done)
    ·refine rn ?_;refine y0 rfl (fun hc57=> ?_) (fun hc57=> ?_)
     ·refine rn ?_;have hd:y5 s=(65533,1):=by
       unfold y5
       rw [if_neg (by omega)]
       simp only [hx]
       rw [if_neg (by decide),if_neg (show ¬(s.size:Int) < (35:Int) % 8 from oF hc45),if_pos (show bt s 1 < zbt ((35:Int) / 16).toNat∨zbu ((35:Int) / 16).toNat < bt s 1 from by first|exact .inl (oT hg14_4)|exact .inr (oT hc57))]
      exact zbk rfl rfl (.drop1 _ _ _) ⟨rfl,by rw [hd];rfl⟩
     ·refine rn ?_;refine y0 rfl (fun hc59=> ?_) (fun hc59=> ?_)
      ·first|cases hc59|exact absurd hc59 (by decide)|(exfalso;simp_all;done)
      ·refine rn ?_;refine qq rfl rfl (u0 2 rfl rfl (by omega)) ?_
       refine rn ?_;refine v8 (fun hg19_2=> ?_) (fun hg19_2=> ?_)
       ·refine rn ?_;refine y0 rfl (fun hc75=> ?_) (fun hc75=> ?_)
        ·refine rn ?_;have hd:y5 s=(65533,1):=by
          unfold y5
          rw [if_neg (by omega)]
          simp only [hx]
          rw [if_neg (by decide),if_neg (show ¬(s.size:Int) < (35:Int) % 8 from oF hc45),if_neg (show ¬(bt s 1 < zbt ((35:Int) / 16).toNat∨zbu ((35:Int) / 16).toNat < bt s 1) from fun q=>q.elim (oF hg14_4) (oF hc57)),if_neg (by decide),if_pos (show bt s 2 < 128∨191 < bt s 2 from by first|exact .inl (oT hg19_2)|exact .inr (oT hc75))]
         exact zbk rfl rfl (.drop1 _ _ _) ⟨rfl,by rw [hd];rfl⟩
        ·first|cases hc75|exact absurd hc75 (by decide)|(exfalso;simp_all;done)
       ·refine rn ?_;refine y0 rfl (fun hc75=> ?_) (fun hc75=> ?_)
        ·refine rn ?_;have hd:y5 s=(65533,1):=by
          unfold y5
          rw [if_neg (by omega)]
          simp only [hx]
          rw [if_neg (by decide),if_neg (show ¬(s.size:Int) < (35:Int) % 8 from oF hc45),if_neg (show ¬(bt s 1 < zbt ((35:Int) / 16).toNat∨zbu ((35:Int) / 16).toNat < bt s 1) from fun q=>q.elim (oF hg14_4) (oF hc57)),if_neg (by decide),if_pos (show bt s 2 < 128∨191 < bt s 2 from by first|exact .inl (oT hg19_2)|exact .inr (oT hc75))]
         exact zbk rfl rfl (.drop1 _ _ _) ⟨rfl,by rw [hd];rfl⟩
        ·refine rn ?_;refine y0 rfl (fun hc77=> ?_) (fun hc77=> ?_)
         ·refine rn ?_;have hd:y5 s=(bI .or .i32 (bI .or .i32 (zck (bt s 0) 15 12) (zck (bt s 1) 63 6)) (zck (bt s 2) 63 0),3):=by
           unfold y5
           rw [if_neg (by omega)]
           simp only [hx]
           rw [if_neg (by decide),if_neg (show ¬(s.size:Int) < (35:Int) % 8 from oF hc45),if_neg (show ¬(bt s 1 < zbt ((35:Int) / 16).toNat∨zbu ((35:Int) / 16).toNat < bt s 1) from fun q=>q.elim (oF hg14_4) (oF hc57)),if_neg (by decide),if_neg (show ¬(bt s 2 < 128∨191 < bt s 2) from fun q=>q.elim (oF hg19_2) (oF hc75)),if_pos (by decide)]
          exact zbk rfl rfl (.drop1 _ _ _) ⟨rfl,by rw [hd];rfl⟩
         ·first|cases hc77|exact absurd hc77 (by decide)|(exfalso;simp_all;done)
theorem zpt (s:ByteArray) (hx:zb6 (bt s 0).toNat=52):y8 Tryz.prog 284 [.v (.string s)] [.glob 4 305 y3,.glob 5 308 z8] (fun r h'=>h'= [.glob 4 305 y3,.glob 5 308 z8]∧r= .tup [.v (.int .i32 (y5 s).1),iv (y5 s).2]):=by
 refine z6 Tryz.func284 rfl rfl rfl ?_
 refine rn ?_;refine y0 rfl (fun hc16=> ?_) (fun hc16=> ?_)
 ·refine rn ?_;have hd:y5 s=(65533,0):=by
   unfold y5
   rw [if_pos (by simp at hc16;omega)]
  exact zbk rfl rfl (.refl _ _) ⟨rfl,by rw [hd];rfl⟩
 ·have h1:0 < s.size:=by simp at hc16;omega
  refine rn ?_;refine qq rfl rfl (u0 0 rfl rfl (by omega)) ?_
  refine rn ?_;refine qq rfl rfl (u6 rfl rfl (zff _ _) (zfe _ _)) ?_
  refine qq rfl rfl (k9 rfl (show _=some (.v (.int .u8 52)) from by rw [zcb (zff s 0) (zfe s 0),hx])) ?_
  refine rn ?_;refine y0 rfl (fun hc23=> ?_) (fun hc23=> ?_)
  ·first|cases hc23|exact absurd hc23 (by decide)|(exfalso;simp_all;done)
  ·refine rn ?_;refine qq rfl rfl (u6 rfl rfl (by decide) (by decide)) ?_
   refine rn ?_;refine z7 rfl (y7 rfl fun b9=> ?_)
   refine rn ?_;refine y0 rfl (fun hc45=> ?_) (fun hc45=> ?_)
   ·refine rn ?_;have hd:y5 s=(65533,1):=by
     unfold y5
     rw [if_neg (by omega)]
     simp only [hx]
     rw [if_neg (by decide),if_pos (show (s.size:Int) < (52:Int) % 8 from oT hc45)]
    exact zbk rfl rfl (.drop1 _ _ _) ⟨rfl,by rw [hd];rfl⟩
   ·have h2:4≤s.size:=by
     have:¬((s.size:Int) < 4):=oF hc45
     omega
    refine rn ?_;refine qq rfl rfl (u0 1 rfl rfl (by omega)) ?_
    refine rn ?_;refine v8 (fun hg14_4=> ?_) (fun hg14_4=> ?_)
    ·refine rn ?_;refine y0 rfl (fun hc57=> ?_) (fun hc57=> ?_)
     ·refine rn ?_;have hd:y5 s=(65533,1):=by
       unfold y5
       rw [if_neg (by omega)]
       simp only [hx]
       rw [if_neg (by decide),if_neg (show ¬(s.size:Int) < (52:Int) % 8 from oF hc45),if_pos (show bt s 1 < zbt ((52:Int) / 16).toNat∨zbu ((52:Int) / 16).toNat < bt s 1 from by first|exact .inl (oT hg14_4)|exact .inr (oT hc57))]
      exact zbk rfl rfl (.drop1 _ _ _) ⟨rfl,by rw [hd];rfl⟩
     ·first|cases hc57|exact absurd hc57 (by decide)|(exfalso;simp_all;done)
    ·refine rn ?_;refine y0 rfl (fun hc57=> ?_) (fun hc57=> ?_)
     ·refine rn ?_;have hd:y5 s=(65533,1):=by
       unfold y5
       rw [if_neg (by omega)]
       simp only [hx]
       rw [if_neg (by decide),if_neg (show ¬(s.size:Int) < (52:Int) % 8 from oF hc45),if_pos (show bt s 1 < zbt ((52:Int) / 16).toNat∨zbu ((52:Int) / 16).toNat < bt s 1 from by first|exact .inl (oT hg14_4)|exact .inr (oT hc57))]
      exact zbk rfl rfl (.drop1 _ _ _) ⟨rfl,by rw [hd];rfl⟩
     ·refine rn ?_;refine y0 rfl (fun hc59=> ?_) (fun hc59=> ?_)
      ·first|cases hc59|exact absurd hc59 (by decide)|(exfalso;simp_all;done)
      ·refine rn ?_;refine qq rfl rfl (u0 2 rfl rfl (by omega)) ?_
       refine rn ?_;refine v8 (fun hg19_2=> ?_) (fun hg19_2=> ?_)
       ·refine rn ?_;refine y0 rfl (fun hc75=> ?_) (fun hc75=> ?_)
        ·refine rn ?_;have hd:y5 s=(65533,1):=by
          unfold y5
          rw [if_neg (by omega)]
          simp only [hx]
          rw [if_neg (by decide),if_neg (show ¬(s.size:Int) < (52:Int) % 8 from oF hc45),if_neg (show ¬(bt s 1 < zbt ((52:Int) / 16).toNat∨zbu ((52:Int) / 16).toNat < bt s 1) from fun q=>q.elim (oF hg14_4) (oF hc57)),if_neg (by decide),if_pos (show bt s 2 < 128∨191 < bt s 2 from by first|exact .inl (oT hg19_2)|exact .inr (oT hc75))]
         exact zbk rfl rfl (.drop1 _ _ _) ⟨rfl,by rw [hd];rfl⟩
        ·first|cases hc75|exact absurd hc75 (by decide)|(exfalso;simp_all;done)
       ·refine rn ?_;refine y0 rfl (fun hc75=> ?_) (fun hc75=> ?_)
        ·refine rn ?_;have hd:y5 s=(65533,1):=by
          unfold y5
          rw [if_neg (by omega)]
          simp only [hx]
          rw [if_neg (by decide),if_neg (show ¬(s.size:Int) < (52:Int) % 8 from oF hc45),if_neg (show ¬(bt s 1 < zbt ((52:Int) / 16).toNat∨zbu ((52:Int) / 16).toNat < bt s 1) from fun q=>q.elim (oF hg14_4) (oF hc57)),if_neg (by decide),if_pos (show bt s 2 < 128∨191 < bt s 2 from by first|exact .inl (oT hg19_2)|exact .inr (oT hc75))]
         exact zbk rfl rfl (.drop1 _ _ _) ⟨rfl,by rw [hd];rfl⟩
        ·refine rn ?_;refine y0 rfl (fun hc77=> ?_) (fun hc77=> ?_)
         ·first|cases hc77|exact absurd hc77 (by decide)|(exfalso;simp_all;done)
         ·refine rn ?_;refine qq rfl rfl (u0 3 rfl rfl (by omega)) ?_
          refine rn ?_;refine v8 (fun hg24_2=> ?_) (fun hg24_2=> ?_)
          ·refine rn ?_;refine y0 rfl (fun hc98=> ?_) (fun hc98=> ?_)
           ·refine rn ?_;have hd:y5 s=(65533,1):=by
             unfold y5
             rw [if_neg (by omega)]
             simp only [hx]
             rw [if_neg (by decide),if_neg (show ¬(s.size:Int) < (52:Int) % 8 from oF hc45),if_neg (show ¬(bt s 1 < zbt ((52:Int) / 16).toNat∨zbu ((52:Int) / 16).toNat < bt s 1) from fun q=>q.elim (oF hg14_4) (oF hc57)),if_neg (by decide),if_neg (show ¬(bt s 2 < 128∨191 < bt s 2) from fun q=>q.elim (oF hg19_2) (oF hc75)),if_neg (by decide),if_pos (show bt s 3 < 128∨191 < bt s 3 from by first|exact .inl (oT hg24_2)|exact .inr (oT hc98))]
            exact zbk rfl rfl (.drop1 _ _ _) ⟨rfl,by rw [hd];rfl⟩
           ·first|cases hc98|exact absurd hc98 (by decide)|(exfalso;simp_all;done)
          ·refine rn ?_;refine y0 rfl (fun hc98=> ?_) (fun hc98=> ?_)
           ·refine rn ?_;have hd:y5 s=(65533,1):=by
             unfold y5
             rw [if_neg (by omega)]
             simp only [hx]
             rw [if_neg (by decide),if_neg (show ¬(s.size:Int) < (52:Int) % 8 from oF hc45),if_neg (show ¬(bt s 1 < zbt ((52:Int) / 16).toNat∨zbu ((52:Int) / 16).toNat < bt s 1) from fun q=>q.elim (oF hg14_4) (oF hc57)),if_neg (by decide),if_neg (show ¬(bt s 2 < 128∨191 < bt s 2) from fun q=>q.elim (oF hg19_2) (oF hc75)),if_neg (by decide),if_pos (show bt s 3 < 128∨191 < bt s 3 from by first|exact .inl (oT hg24_2)|exact .inr (oT hc98))]
            exact zbk rfl rfl (.drop1 _ _ _) ⟨rfl,by rw [hd];rfl⟩
           ·refine rn ?_;have hd:y5 s=(bI .or .i32 (bI .or .i32 (bI .or .i32 (zck (bt s 0) 7 18) (zck (bt s 1) 63 12)) (zck (bt s 2) 63 6)) (zck (bt s 3) 63 0),4):=by
             unfold y5
             rw [if_neg (by omega)]
             simp only [hx]
             rw [if_neg (by decide),if_neg (show ¬(s.size:Int) < (52:Int) % 8 from oF hc45),if_neg (show ¬(bt s 1 < zbt ((52:Int) / 16).toNat∨zbu ((52:Int) / 16).toNat < bt s 1) from fun q=>q.elim (oF hg14_4) (oF hc57)),if_neg (by decide),if_neg (show ¬(bt s 2 < 128∨191 < bt s 2) from fun q=>q.elim (oF hg19_2) (oF hc75)),if_neg (by decide),if_neg (show ¬(bt s 3 < 128∨191 < bt s 3) from fun q=>q.elim (oF hg24_2) (oF hc98))]
            exact zbk rfl rfl (.drop1 _ _ _) ⟨rfl,by rw [hd];rfl⟩
theorem zr1 (s:ByteArray) (hx:zb6 (bt s 0).toNat=4):y8 Tryz.prog 284 [.v (.string s)] [.glob 4 305 y3,.glob 5 308 z8] (fun r h'=>h'= [.glob 4 305 y3,.glob 5 308 z8]∧r= .tup [.v (.int .i32 (y5 s).1),iv (y5 s).2]):=by
 refine z6 Tryz.func284 rfl rfl rfl ?_
 refine rn ?_;refine y0 rfl (fun hc16=> ?_) (fun hc16=> ?_)
 ·refine rn ?_;have hd:y5 s=(65533,0):=by
   unfold y5
   rw [if_pos (by simp at hc16;omega)]
  exact zbk rfl rfl (.refl _ _) ⟨rfl,by rw [hd];rfl⟩
 ·have h1:0 < s.size:=by simp at hc16;omega
  refine rn ?_;refine qq rfl rfl (u0 0 rfl rfl (by omega)) ?_
  refine rn ?_;refine qq rfl rfl (u6 rfl rfl (zff _ _) (zfe _ _)) ?_
  refine qq rfl rfl (k9 rfl (show _=some (.v (.int .u8 4)) from by rw [zcb (zff s 0) (zfe s 0),hx])) ?_
  refine rn ?_;refine y0 rfl (fun hc23=> ?_) (fun hc23=> ?_)
  ·first|cases hc23|exact absurd hc23 (by decide)|(exfalso;simp_all;done)
  ·refine rn ?_;refine qq rfl rfl (u6 rfl rfl (by decide) (by decide)) ?_
   refine rn ?_;refine z7 rfl (y7 rfl fun b9=> ?_)
   refine rn ?_;refine y0 rfl (fun hc45=> ?_) (fun hc45=> ?_)
   ·refine rn ?_;have hd:y5 s=(65533,1):=by
     unfold y5
     rw [if_neg (by omega)]
     simp only [hx]
     rw [if_neg (by decide),if_pos (show (s.size:Int) < (4:Int) % 8 from oT hc45)]
    exact zbk rfl rfl (.drop1 _ _ _) ⟨rfl,by rw [hd];rfl⟩
   ·have h2:4≤s.size:=by
     have:¬((s.size:Int) < 4):=oF hc45
     omega
    refine rn ?_;refine qq rfl rfl (u0 1 rfl rfl (by omega)) ?_
    refine rn ?_;refine v8 (fun hg14_4=> ?_) (fun hg14_4=> ?_)
    ·refine rn ?_;refine y0 rfl (fun hc57=> ?_) (fun hc57=> ?_)
     ·refine rn ?_;have hd:y5 s=(65533,1):=by
       unfold y5
       rw [if_neg (by omega)]
       simp only [hx]
       rw [if_neg (by decide),if_neg (show ¬(s.size:Int) < (4:Int) % 8 from oF hc45),if_pos (show bt s 1 < zbt ((4:Int) / 16).toNat∨zbu ((4:Int) / 16).toNat < bt s 1 from by first|exact .inl (oT hg14_4)|exact .inr (oT hc57))]
      exact zbk rfl rfl (.drop1 _ _ _) ⟨rfl,by rw [hd];rfl⟩
     ·first|cases hc57|exact absurd hc57 (by decide)|(exfalso;simp_all;done)
    ·refine rn ?_;refine y0 rfl (fun hc57=> ?_) (fun hc57=> ?_)
     ·refine rn ?_;have hd:y5 s=(65533,1):=by
       unfold y5
       rw [if_neg (by omega)]
       simp only [hx]
       rw [if_neg (by decide),if_neg (show ¬(s.size:Int) < (4:Int) % 8 from oF hc45),if_pos (show bt s 1 < zbt ((4:Int) / 16).toNat∨zbu ((4:Int) / 16).toNat < bt s 1 from by first|exact .inl (oT hg14_4)|exact .inr (oT hc57))]
      exact zbk rfl rfl (.drop1 _ _ _) ⟨rfl,by rw [hd];rfl⟩
     ·refine rn ?_;refine y0 rfl (fun hc59=> ?_) (fun hc59=> ?_)
      ·first|cases hc59|exact absurd hc59 (by decide)|(exfalso;simp_all;done)
      ·refine rn ?_;refine qq rfl rfl (u0 2 rfl rfl (by omega)) ?_
       refine rn ?_;refine v8 (fun hg19_2=> ?_) (fun hg19_2=> ?_)
       ·refine rn ?_;refine y0 rfl (fun hc75=> ?_) (fun hc75=> ?_)
        ·refine rn ?_;have hd:y5 s=(65533,1):=by
          unfold y5
          rw [if_neg (by omega)]
          simp only [hx]
          rw [if_neg (by decide),if_neg (show ¬(s.size:Int) < (4:Int) % 8 from oF hc45),if_neg (show ¬(bt s 1 < zbt ((4:Int) / 16).toNat∨zbu ((4:Int) / 16).toNat < bt s 1) from fun q=>q.elim (oF hg14_4) (oF hc57)),if_neg (by decide),if_pos (show bt s 2 < 128∨191 < bt s 2 from by first|exact .inl (oT hg19_2)|exact .inr (oT hc75))]
         exact zbk rfl rfl (.drop1 _ _ _) ⟨rfl,by rw [hd];rfl⟩
        ·first|cases hc75|exact absurd hc75 (by decide)|(exfalso;simp_all;done)
       ·refine rn ?_;refine y0 rfl (fun hc75=> ?_) (fun hc75=> ?_)
        ·refine rn ?_;have hd:y5 s=(65533,1):=by
          unfold y5
          rw [if_neg (by omega)]
          simp only [hx]
          rw [if_neg (by decide),if_neg (show ¬(s.size:Int) < (4:Int) % 8 from oF hc45),if_neg (show ¬(bt s 1 < zbt ((4:Int) / 16).toNat∨zbu ((4:Int) / 16).toNat < bt s 1) from fun q=>q.elim (oF hg14_4) (oF hc57)),if_neg (by decide),if_pos (show bt s 2 < 128∨191 < bt s 2 from by first|exact .inl (oT hg19_2)|exact .inr (oT hc75))]
         exact zbk rfl rfl (.drop1 _ _ _) ⟨rfl,by rw [hd];rfl⟩
        ·refine rn ?_;refine y0 rfl (fun hc77=> ?_) (fun hc77=> ?_)
         ·first|cases hc77|exact absurd hc77 (by decide)|(exfalso;simp_all;done)
         ·refine rn ?_;refine qq rfl rfl (u0 3 rfl rfl (by omega)) ?_
          refine rn ?_;refine v8 (fun hg24_2=> ?_) (fun hg24_2=> ?_)
          ·refine rn ?_;refine y0 rfl (fun hc98=> ?_) (fun hc98=> ?_)
           ·refine rn ?_;have hd:y5 s=(65533,1):=by
             unfold y5
             rw [if_neg (by omega)]
             simp only [hx]
             rw [if_neg (by decide),if_neg (show ¬(s.size:Int) < (4:Int) % 8 from oF hc45),if_neg (show ¬(bt s 1 < zbt ((4:Int) / 16).toNat∨zbu ((4:Int) / 16).toNat < bt s 1) from fun q=>q.elim (oF hg14_4) (oF hc57)),if_neg (by decide),if_neg (show ¬(bt s 2 < 128∨191 < bt s 2) from fun q=>q.elim (oF hg19_2) (oF hc75)),if_neg (by decide),if_pos (show bt s 3 < 128∨191 < bt s 3 from by first|exact .inl (oT hg24_2)|exact .inr (oT hc98))]
            exact zbk rfl rfl (.drop1 _ _ _) ⟨rfl,by rw [hd];rfl⟩
           ·first|cases hc98|exact absurd hc98 (by decide)|(exfalso;simp_all;done)
          ·refine rn ?_;refine y0 rfl (fun hc98=> ?_) (fun hc98=> ?_)
           ·refine rn ?_;have hd:y5 s=(65533,1):=by
             unfold y5
             rw [if_neg (by omega)]
             simp only [hx]
             rw [if_neg (by decide),if_neg (show ¬(s.size:Int) < (4:Int) % 8 from oF hc45),if_neg (show ¬(bt s 1 < zbt ((4:Int) / 16).toNat∨zbu ((4:Int) / 16).toNat < bt s 1) from fun q=>q.elim (oF hg14_4) (oF hc57)),if_neg (by decide),if_neg (show ¬(bt s 2 < 128∨191 < bt s 2) from fun q=>q.elim (oF hg19_2) (oF hc75)),if_neg (by decide),if_pos (show bt s 3 < 128∨191 < bt s 3 from by first|exact .inl (oT hg24_2)|exact .inr (oT hc98))]
            exact zbk rfl rfl (.drop1 _ _ _) ⟨rfl,by rw [hd];rfl⟩
           ·refine rn ?_;have hd:y5 s=(bI .or .i32 (bI .or .i32 (bI .or .i32 (zck (bt s 0) 7 18) (zck (bt s 1) 63 12)) (zck (bt s 2) 63 6)) (zck (bt s 3) 63 0),4):=by
             unfold y5
             rw [if_neg (by omega)]
             simp only [hx]
             rw [if_neg (by decide),if_neg (show ¬(s.size:Int) < (4:Int) % 8 from oF hc45),if_neg (show ¬(bt s 1 < zbt ((4:Int) / 16).toNat∨zbu ((4:Int) / 16).toNat < bt s 1) from fun q=>q.elim (oF hg14_4) (oF hc57)),if_neg (by decide),if_neg (show ¬(bt s 2 < 128∨191 < bt s 2) from fun q=>q.elim (oF hg19_2) (oF hc75)),if_neg (by decide),if_neg (show ¬(bt s 3 < 128∨191 < bt s 3) from fun q=>q.elim (oF hg24_2) (oF hc98))]
            exact zbk rfl rfl (.drop1 _ _ _) ⟨rfl,by rw [hd];rfl⟩
theorem zps (s:ByteArray) (hx:zb6 (bt s 0).toNat=68):y8 Tryz.prog 284 [.v (.string s)] [.glob 4 305 y3,.glob 5 308 z8] (fun r h'=>h'= [.glob 4 305 y3,.glob 5 308 z8]∧r= .tup [.v (.int .i32 (y5 s).1),iv (y5 s).2]):=by
 refine z6 Tryz.func284 rfl rfl rfl ?_
 refine rn ?_;refine y0 rfl (fun hc16=> ?_) (fun hc16=> ?_)
 ·refine rn ?_;have hd:y5 s=(65533,0):=by
   unfold y5
   rw [if_pos (by simp at hc16;omega)]
  exact zbk rfl rfl (.refl _ _) ⟨rfl,by rw [hd];rfl⟩
 ·have h1:0 < s.size:=by simp at hc16;omega
  refine rn ?_;refine qq rfl rfl (u0 0 rfl rfl (by omega)) ?_
  refine rn ?_;refine qq rfl rfl (u6 rfl rfl (zff _ _) (zfe _ _)) ?_
  refine qq rfl rfl (k9 rfl (show _=some (.v (.int .u8 68)) from by rw [zcb (zff s 0) (zfe s 0),hx])) ?_
  refine rn ?_;refine y0 rfl (fun hc23=> ?_) (fun hc23=> ?_)
  ·first|cases hc23|exact absurd hc23 (by decide)|(exfalso;simp_all;done)
  ·refine rn ?_;refine qq rfl rfl (u6 rfl rfl (by decide) (by decide)) ?_
   refine rn ?_;refine z7 rfl (y7 rfl fun b9=> ?_)
   refine rn ?_;refine y0 rfl (fun hc45=> ?_) (fun hc45=> ?_)
   ·refine rn ?_;have hd:y5 s=(65533,1):=by
     unfold y5
     rw [if_neg (by omega)]
     simp only [hx]
     rw [if_neg (by decide),if_pos (show (s.size:Int) < (68:Int) % 8 from oT hc45)]
    exact zbk rfl rfl (.drop1 _ _ _) ⟨rfl,by rw [hd];rfl⟩
   ·have h2:4≤s.size:=by
     have:¬((s.size:Int) < 4):=oF hc45
     omega
    refine rn ?_;refine qq rfl rfl (u0 1 rfl rfl (by omega)) ?_
    refine rn ?_;refine v8 (fun hg14_4=> ?_) (fun hg14_4=> ?_)
    ·refine rn ?_;refine y0 rfl (fun hc57=> ?_) (fun hc57=> ?_)
     ·refine rn ?_;have hd:y5 s=(65533,1):=by
       unfold y5
       rw [if_neg (by omega)]
       simp only [hx]
       rw [if_neg (by decide),if_neg (show ¬(s.size:Int) < (68:Int) % 8 from oF hc45),if_pos (show bt s 1 < zbt ((68:Int) / 16).toNat∨zbu ((68:Int) / 16).toNat < bt s 1 from by first|exact .inl (oT hg14_4)|exact .inr (oT hc57))]
      exact zbk rfl rfl (.drop1 _ _ _) ⟨rfl,by rw [hd];rfl⟩
     ·first|cases hc57|exact absurd hc57 (by decide)|(exfalso;simp_all;done)
    ·refine rn ?_;refine y0 rfl (fun hc57=> ?_) (fun hc57=> ?_)
     ·refine rn ?_;have hd:y5 s=(65533,1):=by
       unfold y5
       rw [if_neg (by omega)]
       simp only [hx]
       rw [if_neg (by decide),if_neg (show ¬(s.size:Int) < (68:Int) % 8 from oF hc45),if_pos (show bt s 1 < zbt ((68:Int) / 16).toNat∨zbu ((68:Int) / 16).toNat < bt s 1 from by first|exact .inl (oT hg14_4)|exact .inr (oT hc57))]
      exact zbk rfl rfl (.drop1 _ _ _) ⟨rfl,by rw [hd];rfl⟩
     ·refine rn ?_;refine y0 rfl (fun hc59=> ?_) (fun hc59=> ?_)
      ·first|cases hc59|exact absurd hc59 (by decide)|(exfalso;simp_all;done)
      ·refine rn ?_;refine qq rfl rfl (u0 2 rfl rfl (by omega)) ?_
       refine rn ?_;refine v8 (fun hg19_2=> ?_) (fun hg19_2=> ?_)
       ·refine rn ?_;refine y0 rfl (fun hc75=> ?_) (fun hc75=> ?_)
        ·refine rn ?_;have hd:y5 s=(65533,1):=by
          unfold y5
          rw [if_neg (by omega)]
          simp only [hx]
          rw [if_neg (by decide),if_neg (show ¬(s.size:Int) < (68:Int) % 8 from oF hc45),if_neg (show ¬(bt s 1 < zbt ((68:Int) / 16).toNat∨zbu ((68:Int) / 16).toNat < bt s 1) from fun q=>q.elim (oF hg14_4) (oF hc57)),if_neg (by decide),if_pos (show bt s 2 < 128∨191 < bt s 2 from by first|exact .inl (oT hg19_2)|exact .inr (oT hc75))]
         exact zbk rfl rfl (.drop1 _ _ _) ⟨rfl,by rw [hd];rfl⟩
        ·first|cases hc75|exact absurd hc75 (by decide)|(exfalso;simp_all;done)
       ·refine rn ?_;refine y0 rfl (fun hc75=> ?_) (fun hc75=> ?_)
        ·refine rn ?_;have hd:y5 s=(65533,1):=by
          unfold y5
          rw [if_neg (by omega)]
          simp only [hx]
          rw [if_neg (by decide),if_neg (show ¬(s.size:Int) < (68:Int) % 8 from oF hc45),if_neg (show ¬(bt s 1 < zbt ((68:Int) / 16).toNat∨zbu ((68:Int) / 16).toNat < bt s 1) from fun q=>q.elim (oF hg14_4) (oF hc57)),if_neg (by decide),if_pos (show bt s 2 < 128∨191 < bt s 2 from by first|exact .inl (oT hg19_2)|exact .inr (oT hc75))]
         exact zbk rfl rfl (.drop1 _ _ _) ⟨rfl,by rw [hd];rfl⟩
        ·refine rn ?_;refine y0 rfl (fun hc77=> ?_) (fun hc77=> ?_)
         ·first|cases hc77|exact absurd hc77 (by decide)|(exfalso;simp_all;done)
         ·refine rn ?_;refine qq rfl rfl (u0 3 rfl rfl (by omega)) ?_
          refine rn ?_;refine v8 (fun hg24_2=> ?_) (fun hg24_2=> ?_)
          ·refine rn ?_;refine y0 rfl (fun hc98=> ?_) (fun hc98=> ?_)
           ·refine rn ?_;have hd:y5 s=(65533,1):=by
             unfold y5
             rw [if_neg (by omega)]
             simp only [hx]
             rw [if_neg (by decide),if_neg (show ¬(s.size:Int) < (68:Int) % 8 from oF hc45),if_neg (show ¬(bt s 1 < zbt ((68:Int) / 16).toNat∨zbu ((68:Int) / 16).toNat < bt s 1) from fun q=>q.elim (oF hg14_4) (oF hc57)),if_neg (by decide),if_neg (show ¬(bt s 2 < 128∨191 < bt s 2) from fun q=>q.elim (oF hg19_2) (oF hc75)),if_neg (by decide),if_pos (show bt s 3 < 128∨191 < bt s 3 from by first|exact .inl (oT hg24_2)|exact .inr (oT hc98))]
            exact zbk rfl rfl (.drop1 _ _ _) ⟨rfl,by rw [hd];rfl⟩
           ·first|cases hc98|exact absurd hc98 (by decide)|(exfalso;simp_all;done)
          ·refine rn ?_;refine y0 rfl (fun hc98=> ?_) (fun hc98=> ?_)
           ·refine rn ?_;have hd:y5 s=(65533,1):=by
             unfold y5
             rw [if_neg (by omega)]
             simp only [hx]
             rw [if_neg (by decide),if_neg (show ¬(s.size:Int) < (68:Int) % 8 from oF hc45),if_neg (show ¬(bt s 1 < zbt ((68:Int) / 16).toNat∨zbu ((68:Int) / 16).toNat < bt s 1) from fun q=>q.elim (oF hg14_4) (oF hc57)),if_neg (by decide),if_neg (show ¬(bt s 2 < 128∨191 < bt s 2) from fun q=>q.elim (oF hg19_2) (oF hc75)),if_neg (by decide),if_pos (show bt s 3 < 128∨191 < bt s 3 from by first|exact .inl (oT hg24_2)|exact .inr (oT hc98))]
            exact zbk rfl rfl (.drop1 _ _ _) ⟨rfl,by rw [hd];rfl⟩
           ·refine rn ?_;have hd:y5 s=(bI .or .i32 (bI .or .i32 (bI .or .i32 (zck (bt s 0) 7 18) (zck (bt s 1) 63 12)) (zck (bt s 2) 63 6)) (zck (bt s 3) 63 0),4):=by
             unfold y5
             rw [if_neg (by omega)]
             simp only [hx]
             rw [if_neg (by decide),if_neg (show ¬(s.size:Int) < (68:Int) % 8 from oF hc45),if_neg (show ¬(bt s 1 < zbt ((68:Int) / 16).toNat∨zbu ((68:Int) / 16).toNat < bt s 1) from fun q=>q.elim (oF hg14_4) (oF hc57)),if_neg (by decide),if_neg (show ¬(bt s 2 < 128∨191 < bt s 2) from fun q=>q.elim (oF hg19_2) (oF hc75)),if_neg (by decide),if_neg (show ¬(bt s 3 < 128∨191 < bt s 3) from fun q=>q.elim (oF hg24_2) (oF hc98))]
            exact zbk rfl rfl (.drop1 _ _ _) ⟨rfl,by rw [hd];rfl⟩
theorem zm5 (s:ByteArray):y8 Tryz.prog 284 [.v (.string s)] [.glob 4 305 y3,.glob 5 308 z8] (fun r h'=>h'= [.glob 4 305 y3,.glob 5 308 z8]∧r= .tup [.v (.int .i32 (y5 s).1),iv (y5 s).2]):=by
 rcases zpm (bt s 0).toNat with hx|hx|hx|hx|hx|hx|hx|hx|hx
 ·exact zn8 s hx
 ·exact zn7 s hx
 ·exact zr3 s hx
 ·exact zpv s hx
 ·exact zr2 s hx
 ·exact zpu s hx
 ·exact zpt s hx
 ·exact zr1 s hx
 ·exact zps s hx
theorem zu6 (s:ByteArray):y8 Tryz.prog 281 [.v (.string s)] [.glob 4 305 y3,.glob 5 308 z8] (fun r h'=>h'= [.glob 4 305 y3,.glob 5 308 z8]∧r= .tup [.v (.int .i32 (zh9 s).1),iv (zh9 s).2]):=by
 refine z6 Tryz.func281 rfl rfl rfl ?_
 refine rn ?_;refine v8 (fun hg1_2=> ?_) (fun hg1_2=> ?_)
 ·refine rn ?_;have h1:0 < s.size:=zv2 hg1_2
  refine qq rfl rfl (u0 0 rfl rfl (by omega)) ?_
  refine rn ?_;refine y0 rfl (fun hc10=> ?_) (fun hc10=> ?_)
  ·refine rn ?_;refine qq rfl rfl (u0 0 rfl rfl (by omega)) ?_
   refine rn ?_;have hd:zh9 s=(bt s 0,1):=by
    unfold zh9
    exact if_pos ⟨zv2 hg1_2,oT hc10⟩
   exact zbk rfl rfl (.refl _ _) ⟨rfl,by rw [hd];exact congrArg (fun c=>AV.tup [.v (.int .i32 c),iv 1]) (zy0 s 0)⟩
  ·refine rn ?_;refine qv rfl rfl (y4 rfl rfl (y1.of_fun (zm5 s))) ?_
   refine rn ?_;have hd:zh9 s=y5 s:=by
    unfold zh9
    exact if_neg fun q=>by first|exact yc7 hg1_2 q.1|exact absurd q.2 (oF hc10)
   exact zbk rfl rfl (.refl _ _) ⟨rfl,by rw [hd];rfl⟩
 ·refine rn ?_;refine zoe rfl ?_;refine rn ?_;refine qv rfl rfl (y4 rfl rfl (y1.of_fun (zm5 s))) ?_
  refine rn ?_;have hd:zh9 s=y5 s:=by
   unfold zh9
   exact if_neg fun q=>by first|exact yc7 hg1_2 q.1|exact absurd q.2 (oF hc10)
  exact zbk rfl rfl (.refl _ _) ⟨rfl,by rw [hd];rfl⟩
theorem zyh {f g:Bool} (l m:List Seen) (hl:l.length≤4611686018427387904) (hm:m.length≤4611686018427387904):y8 Tryz.prog 271 [.list f 3 (l.map zas),.list g 3 (m.map zas)] [] (fun r h'=>h'= []∧r=bv (eqF zi9 l m)):=by
 refine z6 Tryz.func271 rfl rfl rfl ?_
 refine rn ?_;refine y0 rfl (fun hc10=> ?_) (fun hc10=> ?_)
 ·refine rn ?_;have hne:(l.length==m.length)=false:=beq_eq_false_iff_ne.2 fun q=>by simp [q] at hc10
  exact zak rfl (.refl _ _) ⟨rfl,by rw [eqF,hne,Bool.false_and];rfl⟩
 ·have hlm:l.length=m.length:=by simp at hc10;omega
  refine rn ?_;refine zaa (fun k:Nat=>k≤l.length∧zt1 zi9 l m=zt1 zi9 (l.drop k) (m.drop k)) (fun k=>⟨[(13,iv k),(12,iv (l.map zas).length),(0,.list f 3 (l.map zas)),(1,.list g 3 (m.map zas))],[],[]⟩) (fun k=>l.length - k) 0 ⟨Nat.zero_le _,by simp⟩
   (v1 (.cons _ _ _ rfl (.cons _ _ _ rfl (.cons _ _ _ rfl (.cons _ _ _ rfl (.nil)))))) ?_
  rintro k ⟨hk,hz⟩
  refine rn ?_;refine y0 rfl (fun hc14=> ?_) (fun hc14=> ?_)
  ·have hk2:k < l.length:=by simpa using hc14
   have hk3:k < m.length:=by omega
   have hrow1:(l.map zas)[k]? =some (zas l[k]):=by simp [hk2]
   have hrow2:(m.map zas)[k]? =some (zas m[k]):=by simp [hk3]
   have hd1:=List.drop_eq_getElem_cons hk2
   have hd2:=List.drop_eq_getElem_cons hk3
   refine rn ?_;refine j3 8 rfl ?_
   refine rn ?_;refine y0 rfl (fun hc24=> ?_) (fun hc24=> ?_)
   ·refine rn ?_;exact zak rfl (.refl _ _) ⟨rfl,by rw [eqF,hz,hd1,hd2,zt1,show zi9 l[k] m[k]=false from ybb hc24,Bool.false_and,Bool.and_false];rfl⟩
   ·refine rn ?_;exact ⟨k+1,⟨by omega,by rw [hz,hd1,hd2,zt1,show zi9 l[k] m[k]=true from ybc hc24,Bool.true_and]⟩,(v1 (.cons _ _ _ rfl (.cons _ _ _ rfl (.cons _ _ _ rfl (.cons _ _ _ rfl (.nil)))))),by omega⟩
  ·have hk3:k=l.length:=by
    have:l.length≤k:=by simpa using hc14
    omega
   refine rn ?_;exact zak rfl (.refl _ _) ⟨rfl,by rw [eqF,hz,hk3,List.drop_length,zsb,hlm,beq_self_eq_true];rfl⟩
theorem zut (l:Int):y8 Tryz.prog 232 [iv l] [] (fun r h'=>h'= []∧r=iv (yjx l)):=by
 refine z6 Tryz.func232 rfl rfl rfl ?_
 refine rn ?_;refine v8 (fun hg1_2=> ?_) (fun hg1_2=> ?_)
 ·refine rn ?_;refine zr8 rfl ?_;refine rn ?_;exact zak rfl (.refl _ _) ⟨rfl,congrArg iv (by simp_all [yjx])⟩
 ·refine rn ?_;refine y0 rfl (fun hc8=> ?_) (fun hc8=> ?_)
  ·refine rn ?_;exact zak rfl (.refl _ _) ⟨rfl,congrArg iv (by simp_all [yjx])⟩
  ·refine rn ?_;exact zak rfl (.refl _ _) ⟨rfl,congrArg iv (by simp_all [yjx])⟩
theorem zpf (c:Int):y8 Tryz.prog 224 [.v (.int .i32 c)] [] (fun r h'=>h'= []∧r=bv (zxe c)):=by
 refine z6 Tryz.func224 rfl rfl rfl ?_
 refine rn ?_;refine v8 (fun hg1_2=> ?_) (fun hg1_2=> ?_)
 ·refine rn ?_;exact zak rfl (.refl _ _) ⟨rfl,congrArg bv (by first|(simp only [zxe, *,Bool.true_and,Bool.false_and,Bool.and_false,Bool.and_true,Bool.true_or,Bool.or_false,Bool.false_or,Bool.or_true,if_true,if_false,Bool.false_eq_true,Bool.not_true,Bool.not_false];done)|(simp_all [zxe];done)|(simp_all [zxe] <;> omega))⟩
 ·refine rn ?_;exact zak rfl (.refl _ _) ⟨rfl,congrArg bv (by first|(simp only [zxe, *,Bool.true_and,Bool.false_and,Bool.and_false,Bool.and_true,Bool.true_or,Bool.or_false,Bool.false_or,Bool.or_true,if_true,if_false,Bool.false_eq_true,Bool.not_true,Bool.not_false];done)|(simp_all [zxe];done)|(simp_all [zxe] <;> omega))⟩
theorem bvz0_9584 {a b:Bool} (h:a=b:=by first|(simp only [ygi, *,Bool.true_and,Bool.false_and,Bool.and_false,Bool.and_true,Bool.true_or,Bool.or_false,Bool.false_or,Bool.or_true,if_true,if_false,Bool.false_eq_true,Bool.not_true,Bool.not_false];done)|(simp_all [ygi];done)|(simp_all [ygi] <;> omega)):bv a=bv b:=congrArg bv h
theorem zxs (c:Int):y8 Tryz.prog 267 [.v (.int .i32 c)] [] (fun r h'=>h'= []∧r=bv (ygi c)):=by
 refine z6 Tryz.func267 rfl rfl rfl ?_
 refine rn ?_;refine v8 (fun hg1_2=> ?_) (fun hg1_2=> ?_)
 ·refine rn ?_;exact zak rfl (.refl _ _) ⟨rfl,bvz0_9584⟩
 ·refine rn ?_;refine v8 (fun hg1_5=> ?_) (fun hg1_5=> ?_)
  ·refine rn ?_;refine v8 (fun hg1_10=> ?_) (fun hg1_10=> ?_)
   ·refine rn ?_;exact zak rfl (.refl _ _) ⟨rfl,bvz0_9584⟩
   ·refine rn ?_;refine v8 (fun hg1_13=> ?_) (fun hg1_13=> ?_)
    ·refine rn ?_;refine v8 (fun hg1_18=> ?_) (fun hg1_18=> ?_)
     ·refine rn ?_;exact zak rfl (.refl _ _) ⟨rfl,bvz0_9584⟩
     ·refine rn ?_;exact zak rfl (.refl _ _) ⟨rfl,bvz0_9584⟩
    ·refine rn ?_;exact zak rfl (.refl _ _) ⟨rfl,bvz0_9584⟩
  ·refine rn ?_;refine v8 (fun hg1_13=> ?_) (fun hg1_13=> ?_)
   ·refine rn ?_;refine v8 (fun hg1_18=> ?_) (fun hg1_18=> ?_)
    ·refine rn ?_;exact zak rfl (.refl _ _) ⟨rfl,bvz0_9584⟩
    ·refine rn ?_;exact zak rfl (.refl _ _) ⟨rfl,bvz0_9584⟩
   ·refine rn ?_;exact zak rfl (.refl _ _) ⟨rfl,bvz0_9584⟩
theorem zxt (c:Int):y8 Tryz.prog 226 [.v (.int .i32 c)] [] (fun r h'=>h'= []∧r=bv (ygi c||zxe c)):=by
 refine z6 Tryz.func226 rfl rfl rfl ?_
 refine rn ?_;refine qv rfl rfl (y4 rfl rfl (zat (zxs _) (Sbs.refl _))) ?_
 refine rn ?_;refine v8 (fun hg1_2=> ?_) (fun hg1_2=> ?_)
 ·refine rn ?_;exact zak rfl (.refl _ _) ⟨rfl,congrArg bv (by first|(simp only [*,Bool.true_and,Bool.false_and,Bool.and_false,Bool.and_true,Bool.true_or,Bool.or_false,Bool.false_or,Bool.or_true,if_true,if_false,Bool.false_eq_true,Bool.not_true,Bool.not_false];done)|(simp_all;done)|(simp_all <;> omega))⟩
 ·refine rn ?_;refine qv rfl rfl (y4 rfl rfl (zat (zpf _) (Sbs.refl _))) ?_
  refine rn ?_;exact zak rfl (.refl _ _) ⟨rfl,congrArg bv (by first|(simp only [*,Bool.true_and,Bool.false_and,Bool.and_false,Bool.and_true,Bool.true_or,Bool.or_false,Bool.false_or,Bool.or_true,if_true,if_false,Bool.false_eq_true,Bool.not_true,Bool.not_false];done)|(simp_all;done)|(simp_all <;> omega))⟩
theorem yf3 (h:Hist):y8 Tryz.prog 142 [.agg (y9 h)] [] (fun r h'=>h'= []∧r= .agg (zjc h)):=by
 refine z6 Tryz.func142 rfl rfl rfl ?_
 refine rn ?_;refine z7 rfl (w7 rfl rfl rfl fun b1=> ?_)
 refine z7 rfl (y7 rfl fun b2=> ?_)
 refine rn ?_;exact zdw (.cons _ _ _ _ (.agg _ _ _ _ _ _ _ rfl inferInstance inferInstance inferInstance rfl) .nil) (.drop [_,_] _ _) ⟨rfl,rfl⟩
theorem zvd (h:Hist) (sort:Nat) (n:Int) (l:List ByteArray) (hs:(zjc h)[sort]? =some (zci l)) (hs4:sort < 4):y8 Tryz.prog 191 [.agg (y9 h),iv sort,iv n] [] (fun r h'=>h'= []∧r=bv (zd2 l n)):=by
 refine z6 Tryz.func191 rfl rfl rfl ?_
 refine rn ?_;refine z7 rfl (w7 rfl rfl rfl fun b3=> ?_)
 refine rn ?_;refine v8 (fun hg1_2=> ?_) (fun hg1_2=> ?_)
 ·refine rn ?_;refine qv rfl rfl (y4 rfl rfl (zat (yf3 _) (Sbs.refl _))) ?_
  refine q1 ?_;refine qq rfl rfl (zb0 rfl rfl (by omega) (by simpa using hs)) ?_
  refine rn ?_;exact zak rfl (.drop1 _ _ _) ⟨rfl,congrArg bv (by first|(simp only [zd2, *,Bool.true_and,Bool.false_and,Bool.and_false,Bool.and_true,Bool.true_or,Bool.or_false,Bool.false_or,Bool.or_true,if_true,if_false,Bool.false_eq_true,Bool.not_true,Bool.not_false];done)|(simp_all [zd2];done)|(simp_all [zd2] <;> omega))⟩
 ·refine rn ?_;exact zak rfl (.drop1 _ _ _) ⟨rfl,congrArg bv (by first|(simp only [zd2, *,Bool.true_and,Bool.false_and,Bool.and_false,Bool.and_true,Bool.true_or,Bool.or_false,Bool.false_or,Bool.or_true,if_true,if_false,Bool.false_eq_true,Bool.not_true,Bool.not_false];done)|(simp_all [zd2];done)|(simp_all [zd2] <;> omega))⟩
theorem bvz1_3569 {a b:Bool} (h:a=b:=by first|(simp only [zvv, *,Bool.true_and,Bool.false_and,Bool.and_false,Bool.and_true,Bool.true_or,Bool.or_false,Bool.false_or,Bool.or_true,if_true,if_false,Bool.false_eq_true,Bool.not_true,Bool.not_false];done)|(simp_all [zvv];done)|(simp_all [zvv] <;> omega)):bv a=bv b:=congrArg bv h
theorem zqp (h:Hist) (v:Ver):y8 Tryz.prog 234 [.agg (y9 h),.agg (yc5 v)] [] (fun r h'=>h'= []∧r=bv (zvv h.ts v)):=by
 refine z6 Tryz.func234 rfl rfl rfl ?_
 refine rn ?_;refine z7 rfl (w7 rfl rfl rfl fun b2=> ?_)
 refine z7 rfl (w7 rfl rfl rfl fun b3=> ?_)
 refine rn ?_;refine y0 rfl (fun hc7=> ?_) (fun hc7=> ?_)
 ·refine rn ?_;exact zak rfl (.drop [_,_] _ _) ⟨rfl,bvz1_3569⟩
 ·refine rn ?_;refine qv rfl rfl (y4 rfl rfl (zat (zvd _ 0 _ _ rfl (by decide)) (Sbs.refl _))) ?_
  refine rn ?_;refine v8 (fun hg3_4=> ?_) (fun hg3_4=> ?_)
  ·refine rn ?_;refine v8 (fun hg3_9=> ?_) (fun hg3_9=> ?_)
   ·refine rn ?_;exact zak rfl (.drop [_,_] _ _) ⟨rfl,bvz1_3569⟩
   ·refine rn ?_;exact zak rfl (.drop [_,_] _ _) ⟨rfl,bvz1_3569⟩
  ·refine rn ?_;exact zak rfl (.drop [_,_] _ _) ⟨rfl,bvz1_3569⟩
theorem bvz2_2943 {a b:Bool} (h:a=b:=by first|(simp only [yg5, *,Bool.true_and,Bool.false_and,Bool.and_false,Bool.and_true,Bool.true_or,Bool.or_false,Bool.false_or,Bool.or_true,if_true,if_false,Bool.false_eq_true,Bool.not_true,Bool.not_false];done)|(simp_all [yg5];done)|(simp_all [yg5] <;> omega)):bv a=bv b:=congrArg bv h
theorem zwk (a b:Ev) (ha:a.scan.length≤4611686018427387904) (hb:b.scan.length≤4611686018427387904):y8 Tryz.prog 241 [.agg (evR a),.agg (evR b)] [] (fun r h'=>h'= []∧r=bv (yg5 a b)):=by
 refine z6 Tryz.func241 rfl rfl rfl ?_
 refine rn ?_;refine z7 rfl (w7 rfl rfl rfl fun b2=> ?_)
 refine z7 rfl (w7 rfl rfl rfl fun b3=> ?_)
 refine rn ?_;refine v8 (fun hg1_5=> ?_) (fun hg1_5=> ?_)
 ·refine rn ?_;refine v8 (fun hg1_12=> ?_) (fun hg1_12=> ?_)
  ·refine rn ?_;refine v8 (fun hg1_19=> ?_) (fun hg1_19=> ?_)
   ·refine rn ?_;refine v8 (fun hg2_1=> ?_) (fun hg2_1=> ?_)
    ·refine rn ?_;refine v8 (fun hg2_8=> ?_) (fun hg2_8=> ?_)
     ·refine rn ?_;refine v8 (fun hg2_15=> ?_) (fun hg2_15=> ?_)
      ·refine rn ?_;refine v8 (fun hg2_22=> ?_) (fun hg2_22=> ?_)
       ·refine rn ?_;refine qv rfl rfl (y4 rfl rfl (zat (zyh _ _ ha hb) (Sbs.refl _))) ?_
        refine rn ?_;exact zak rfl (.drop [_,_] _ _) ⟨rfl,bvz2_2943⟩
       ·refine rn ?_;exact zak rfl (.drop [_,_] _ _) ⟨rfl,bvz2_2943⟩
      ·refine rn ?_;exact zak rfl (.drop [_,_] _ _) ⟨rfl,bvz2_2943⟩
     ·refine rn ?_;exact zak rfl (.drop [_,_] _ _) ⟨rfl,bvz2_2943⟩
    ·refine rn ?_;exact zak rfl (.drop [_,_] _ _) ⟨rfl,bvz2_2943⟩
   ·refine rn ?_;exact zak rfl (.drop [_,_] _ _) ⟨rfl,bvz2_2943⟩
  ·refine rn ?_;exact zak rfl (.drop [_,_] _ _) ⟨rfl,bvz2_2943⟩
 ·refine rn ?_;exact zak rfl (.drop [_,_] _ _) ⟨rfl,bvz2_2943⟩
theorem yal (s:ByteArray) (i:Nat) (c:Int) (bs bi bc:Nat) (hi:i≤s.size):y8 Tryz.prog 280 [pZ bs,pZ bi,pZ bc] [.box bs 9 [sv s],.box bi 3 [iv (i:Nat)],.box bc 21 [.v (.int .i32 c)],.glob 4 305 y3,.glob 5 308 z8] (fun r h'=>h'= [.box bs 9 [sv s],.box bi 3 [iv (i:Nat)],.box bc 21 [.v (.int .i32 c)],.glob 4 305 y3,.glob 5 308 z8]∧r= .tup [.v (.int .i32 c),bv (zqr s i c)]):=by
 refine z6 Tryz.func280 rfl rfl rfl ?_
 refine w9 (y6 ?_)
 refine q1 ?_;refine q1 ?_;refine u4 (zai ?_)
 refine w9 (y6 ?_)
 refine q1 ?_;refine q1 ?_;refine qq rfl rfl (zew rfl rfl hi) ?_
 refine qv rfl rfl (y4 rfl rfl (y1.quiet (R:=fun x=>x=_) (h2:= [_,_,_]) (List.perm_append_comm (l₁:= [_,_,_])) (y1.of_fun (zu6 (s.extract i s.size))))) ?_
 refine rn ?_;refine v8 (fun hg2_3=> ?_) (fun hg2_3=> ?_)
 ·refine rn ?_;exact zbk rfl rfl (.refl _ _) ⟨rfl,congrArg (fun b=>AV.tup [.v (.int .i32 c),bv b]) (by first|(simp only [zqr, *,Bool.true_and,Bool.false_and,Bool.and_false,Bool.and_true,Bool.true_or,Bool.or_false,Bool.false_or,Bool.or_true,if_true,if_false,Bool.false_eq_true,Bool.not_true,Bool.not_false];done)|(simp_all [zqr];done))⟩
 ·refine rn ?_;exact zbk rfl rfl (.refl _ _) ⟨rfl,congrArg (fun b=>AV.tup [.v (.int .i32 c),bv b]) (by first|(simp only [zqr, *,Bool.true_and,Bool.false_and,Bool.and_false,Bool.and_true,Bool.true_or,Bool.or_false,Bool.false_or,Bool.or_true,if_true,if_false,Bool.false_eq_true,Bool.not_true,Bool.not_false];done)|(simp_all [zqr];done))⟩
theorem zwm (s:ByteArray) (bs:Nat) (y:AV) (p:Nat→Int→Bool) (I:List Res→Prop) (J:Nat→List Res→Prop) (hy:∀(i bi bc it:Nat) (L:List Res),i < s.size→I L→y1 Tryz.prog y [iv i,.fn (.func 280) [] [pZ bs,pZ bi,pZ bc]] (.box bc 21 [.v (.int .i32 (Utf8.decode s i).1)]:: .box bi 3 [iv (i:Nat)]:: .obj it (.stringIter s (i+(Utf8.decode s i).2)):: .box bs 9 [sv s]::L) (fun r h'=>∃L',h'= .box bc 21 [.v (.int .i32 (Utf8.decode s i).1)]:: .box bi 3 [iv (i:Nat)]:: .obj it (.stringIter s (i+(Utf8.decode s i).2)):: .box bs 9 [sv s]::L'∧((p i (Utf8.decode s i).1=true∧r=bv true∧I L')∨(p i (Utf8.decode s i).1=false∧r=bv false∧J i L')))) (L0:List Res) (h0:I L0):y8 Tryz.prog 279 [y,pZ bs] (.box bs 9 [sv s]::L0) (fun r h'=>∃L',h'= .box bs 9 [sv s]::L'∧((zdo s p 0=s.size∧I L')∨(zdo s p 0 < s.size∧J (zdo s p 0) L'))):=by
 refine z6 Tryz.func279 rfl rfl rfl ?_
 refine rn ?_;refine z7 rfl (zo8 rfl rfl fun b7=> ?_)
 refine rn ?_;refine zaa (fun x:Nat×List Res=>zdo s p 0=zdo s p x.1∧I x.2) (fun x=>⟨[(7,pZ b7),(0,y),(1,pZ bs)],.obj b7 (.stringIter s x.1):: .box bs 9 [sv s]::x.2,[]⟩) (fun x=>s.size - x.1) (0,L0) ⟨rfl,h0⟩
  (v1 (.cons _ _ _ rfl (.cons _ _ _ rfl (.cons _ _ _ rfl (.nil))))) ?_
 rintro ⟨k,L⟩ ⟨hw,hI⟩
 simp only at hw hI
 refine w9 (y6 ?_)
 refine z7 rfl (zrc rfl rfl (fun hp=> ?_) (fun hp=> ?_))
 ·refine rn ?_;refine y0 rfl (fun hc9=> ?_) (fun hc9=> ?_)
  ·first|cases hc9|exact absurd hc9 (by decide)|(exfalso;simp_all;done)
  ·refine rn ?_;exact zc4 .nil (.drop1 _ _ _) ⟨_,rfl,.inl ⟨by rw [hw,zmb hp],hI⟩⟩
 ·refine rn ?_;refine y0 rfl (fun hc9=> ?_) (fun hc9=> ?_)
  ·refine rn ?_;refine z7 rfl (y7 rfl fun b3=> ?_)
   refine z7 rfl (y7 rfl fun b4=> ?_)
   first|refine z7 rfl (u7 rfl rfl rfl ?_)|refine z7 rfl (zad rfl rfl rfl rfl (Nat.le_of_ble_eq_true rfl) ?_)
   first|refine z7 rfl (u7 rfl rfl rfl ?_)|refine z7 rfl (zad rfl rfl rfl rfl (Nat.le_of_ble_eq_true rfl) ?_)
   refine u4 (zai ?_)
   refine w9 (y6 ?_)
   refine q1 ?_;refine q1 ?_;refine u4 (zai ?_)
   refine w9 (y6 ?_)
   refine q1 ?_;refine q1 ?_;refine q1 ?_;refine z7 rfl (q7 rfl rfl (hy k b3 b4 b7 L hp hI) rfl ?_)
   rintro av h' ⟨L',rfl,⟨hp1,rfl,hI2⟩|⟨hp1,rfl,hJ⟩⟩
   ·refine rn ?_;refine y0 rfl (fun hc17=> ?_) (fun hc17=> ?_)
    ·first|cases hc17|exact absurd hc17 (by decide)|(exfalso;simp_all;done)
    ·refine rn ?_;exact ⟨(k+(Utf8.decode s k).2,L'),⟨hw.trans (zoo hp hp1),hI2⟩,(v6 (zb2 (h1:= [_,_])) (v1 (.cons _ _ _ rfl (.cons _ _ _ rfl (.cons _ _ _ rfl (.nil)))))),by have:=zon s k;simp only at hp ⊢;omega⟩
   ·refine rn ?_;refine y0 rfl (fun hc17=> ?_) (fun hc17=> ?_)
    ·refine rn ?_;exact zdw .nil (.drop [_,_,_] _ _) ⟨_,rfl,.inr (by rw [hw,zqn hp hp1];exact ⟨hp,hJ⟩)⟩
    ·first|cases hc17|exact absurd hc17 (by decide)|(exfalso;simp_all;done)
  ·first|cases hc9|exact absurd hc9 (by decide)|(exfalso;simp_all;done)
theorem yl5 (s:ByteArray) (h:List Res):y8 Tryz.prog 266 [sv s] h (fun r h'=>∃bs,h'= .box bs 9 [sv s]::h∧r= .fn (.func 279) [] [pZ bs]):=by
 refine z6 Tryz.func266 rfl rfl rfl ?_
 refine rn ?_;refine z7 rfl (w7 rfl rfl rfl fun b1=> ?_)
 refine rn ?_;exact zak rfl (.refl _ _) ⟨_,rfl,rfl⟩
theorem ybq (s:ByteArray) (fv:AV) (g:Int→Bool) (hone:fv.cellsOf=some [fv]) (hgo:∀c h,y1 Tryz.prog fv [.v (.int .i32 c)] h (fun r h'=>h'=h∧r=bv (g c))):y8 Tryz.prog 225 [sv s,fv] [.glob 4 305 y3,.glob 5 308 z8] (fun r h'=>h'= [.glob 4 305 y3,.glob 5 308 z8]∧r=iv (zdo s (zfk s g) 0:Nat)):=by
 refine z6 Tryz.func225 rfl rfl rfl ?_
 refine rn ?_;refine z7 rfl (w7 rfl hone rfl fun b3=> ?_)
 refine rn ?_;refine zie ?_;refine rn ?_;refine z7 rfl (y7 rfl fun b5=> ?_)
 refine rn ?_;refine z7 rfl (q7 rfl rfl (y1.of_fun (yl5 s _)) rfl ?_)
 rintro _ _ ⟨bs,rfl,rfl⟩
 refine rn ?_;refine zjt (fun pend h''=>(pend=none∨pend=some (.exit 0))∧h''= .box bs 9 [sv s]:: .box b5 3 [iv (zdo s (zfk s g) 0:Nat)]:: .box b3 270 [fv]:: [.glob 4 305 y3,.glob 5 308 z8]) rfl (fun fn l q lp hlp=> ?_) (fun q h'' hK=> ?_) (fun q h'' c hK=> ?_)
 ·suffices hy:∀(i bi bc it:Nat) (L:List Res),i < s.size→L=lp .ready none:: .defs q:: .box b5 3 [iv s.size]:: .box b3 270 [fv]:: [.glob 4 305 y3,.glob 5 308 z8]→y1 Tryz.prog (yv l) [iv i,.fn (.func 280) [] [pZ bs,pZ bi,pZ bc]] (.box bc 21 [.v (.int .i32 (Utf8.decode s i).1)]:: .box bi 3 [iv (i:Nat)]:: .obj it (.stringIter s (i+(Utf8.decode s i).2)):: .box bs 9 [sv s]::L)
   (fun r h'=>∃L',h'= .box bc 21 [.v (.int .i32 (Utf8.decode s i).1)]:: .box bi 3 [iv (i:Nat)]:: .obj it (.stringIter s (i+(Utf8.decode s i).2)):: .box bs 9 [sv s]::L'∧((zfk s g i (Utf8.decode s i).1=true∧r=bv true∧L'=lp .ready none:: .defs q:: .box b5 3 [iv s.size]:: .box b3 270 [fv]:: [.glob 4 305 y3,.glob 5 308 z8])∨(zfk s g i (Utf8.decode s i).1=false∧r=bv false∧L'=lp .done (some (.exit 0)):: .defs q:: .box b5 3 [iv (i:Nat)]:: .box b3 270 [fv]:: [.glob 4 305 y3,.glob 5 308 z8]))) by
   refine y8.mono (y8.perm (pt2 _ _ _ _) (zwm s bs (yv l) (zfk s g) _ (fun i L=>L=lp .done (some (.exit 0)):: .defs q:: .box b5 3 [iv (i:Nat)]:: .box b3 270 [fv]:: [.glob 4 305 y3,.glob 5 308 z8]) hy _ rfl)) ?_
   rintro _ _ ⟨L',rfl,⟨hw,rfl⟩|⟨hw,rfl⟩⟩
   ·exact ⟨_,_,_,(pt2 _ _ _ _).symm,by simp,.inl rfl,by rw [hw]⟩
   ·exact ⟨_,_,_,(pt2 _ _ _ _).symm,by simp,.inr rfl,rfl⟩
  rintro i bi bc it _ hi rfl
  refine y1.perm (pt4 _ _ _ _ _ _) (y1.permR (ztm hlp rfl rfl ?_))
  refine rn ?_;refine ⟨[(6,iv (i:Nat)),(7,.fn (.func 280) [] [pZ bs,pZ bi,pZ bc]),(5,pZ b5),(3,pZ b3)],v1 (.cons _ _ _ rfl (.cons _ _ _ rfl (.cons _ _ _ rfl (.cons _ _ _ rfl .nil)))),?_⟩
  refine rn ?_;refine qv rfl rfl (y4 rfl rfl (y1.qt (y1.of_acall (fs:= []) (cs:= [pZ bs,pZ bi,pZ bc]) (yal s i (Utf8.decode s i).1 bs bi bc (by omega))) ((pt4 _ _ _ _ _ _).trans (.cons _ ((pt2 _ _ _ _).trans (.cons _ ((pt1 _ _ _).trans (.cons _ ((pt5 _ _ _ _ _ _ _).trans (.cons _ (pt5 _ _ _ _ _ _ _))))))))))) ?_
  refine rn ?_;refine v8 (fun hg6_2=> ?_) (fun hg6_2=> ?_)
  ·refine rn ?_;refine zr8 rfl ?_;refine rn ?_;exact zwq (.refl _) ⟨_,((pt1 _ _ _).trans (.cons _ ((pt1 _ _ _).trans (.cons _ ((pt1 _ _ _).trans (.cons _ (pt1 _ _ _))))))),_,rfl,.inr ⟨by simp_all [zfk],rfl,rfl⟩⟩
  ·refine rn ?_;refine qv rfl rfl (y4 rfl rfl (hgo _ _)) ?_
   refine rn ?_;refine y0 rfl (fun hc28=> ?_) (fun hc28=> ?_)
   ·refine rn ?_;exact zwq (.refl _) ⟨_,((pt1 _ _ _).trans (.cons _ ((pt1 _ _ _).trans (.cons _ ((pt1 _ _ _).trans (.cons _ (pt1 _ _ _))))))),_,rfl,.inr ⟨by simp_all [zfk],rfl,rfl⟩⟩
   ·refine rn ?_;exact zce (.refl _) ⟨_,((pt1 _ _ _).trans (.cons _ ((pt1 _ _ _).trans (.cons _ ((pt1 _ _ _).trans (.cons _ (pt1 _ _ _))))))),_,rfl,.inl ⟨by simp_all [zfk],rfl,rfl⟩⟩
 ·obtain ⟨_,rfl⟩:=hK
  refine rn ?_;refine ⟨fun l h=>(by cases h),?_⟩
  exact zfy (.refl _) (.cons _ _ _ _ (.tmp _ _ rfl) .nil) (.drop [_,_,_] _ _) ⟨rfl,rfl⟩
 ·obtain ⟨hc,rfl⟩:=hK
  obtain rfl:c= .exit 0:=by simpa using hc
  refine rn ?_;refine ⟨fun l h=>(by cases h),?_⟩
  exact zfy (.refl _) (.cons _ _ _ _ (.tmp _ _ rfl) .nil) (.drop [_,_,_] _ _) ⟨rfl,rfl⟩
theorem bvz3_2325 {a b:Bool} (h:a=b:=by first|(simp only [zik, *,Bool.true_and,Bool.false_and,Bool.and_false,Bool.and_true,Bool.true_or,Bool.or_false,Bool.false_or,Bool.or_true,if_true,if_false,Bool.false_eq_true,Bool.not_true,Bool.not_false];done)|(simp_all [zik,zy0];done)):bv a=bv b:=congrArg bv h
theorem yn1 (s:ByteArray):y8 Tryz.prog 187 [sv s] [.glob 4 305 y3,.glob 5 308 z8] (fun r h'=>h'= [.glob 4 305 y3,.glob 5 308 z8]∧r=bv (zik s)):=by
 refine z6 Tryz.func187 rfl rfl rfl ?_
 refine rn ?_;refine v8 (fun hg1_2=> ?_) (fun hg1_2=> ?_)
 ·refine rn ?_;refine v8 (fun hg1_7=> ?_) (fun hg1_7=> ?_)
  ·refine rn ?_;have h1:0 < s.size:=zv2 hg1_2
   refine qq rfl rfl (u0 0 rfl rfl (by omega)) ?_
   refine rn ?_;refine qv rfl rfl (y4 rfl rfl (zat (zpf _) (Sbs.refl _))) ?_
   refine rn ?_;refine v8 (fun hg1_14=> ?_) (fun hg1_14=> ?_)
   ·refine rn ?_;refine qv rfl rfl (y4 rfl rfl (y1.of_fun (ybq s (.fn (.func 226) [] []) zle rfl (fun c h=>(zat (zxt c) (Sbs.refl _)))))) ?_
    refine rn ?_;exact zak rfl (.refl _ _) ⟨rfl,bvz3_2325⟩
   ·refine rn ?_;exact zak rfl (.refl _ _) ⟨rfl,bvz3_2325⟩
  ·refine rn ?_;exact zak rfl (.refl _ _) ⟨rfl,bvz3_2325⟩
 ·refine rn ?_;exact zak rfl (.refl _ _) ⟨rfl,bvz3_2325⟩
theorem ykn (e:Ev) (h:Hist) (be bh:Nat):y8 Tryz.prog 231 [pZ be,pZ bh] [.box be 60 (evR e),.box bh 28 (y9 h)] (fun r h'=>h'= [.box be 60 (evR e),.box bh 28 (y9 h)]∧r= .tup [.agg (evR ⟨0,0,e.s,e.l,0,⟨0,0⟩,0,[]⟩),bv (zdm h e)]):=by
 refine z6 Tryz.func231 rfl rfl rfl ?_
 refine rn ?_;refine z7 rfl (y7 rfl fun b2=> ?_)
 refine rn ?_;refine zdn 16 [(b2,60,_)] rfl (List.perm_append_comm (l₁:= [_])) ?_
 refine rn ?_;refine dv rfl rfl (by exact y4 rfl rfl (zat (zvd _ 1 _ _ rfl (by decide)) (Sbs.refl _))) ?_
 refine rn ?_;refine zcu (fun hg1_9=> ?_) (fun hg1_9=> ?_)
 ·refine rn ?_;refine dv rfl rfl (by exact y4 rfl rfl (zat (zut _) (Sbs.refl _))) ?_
  refine rn ?_;refine dw 0 rfl rfl rfl rfl rfl (Nat.le_of_ble_eq_true rfl) ?_
  refine rn2 ?_;show zb8 _ _ _ _ _ _ ⟨_,.box b2 60 _::_,_⟩
  refine rn ?_;exact zdw (.cons _ _ _ _ (.agg _ _ _ _ _ _ _ rfl inferInstance inferInstance inferInstance rfl) (.cons _ _ _ _ (.tmp _ _ rfl) .nil)) (.trans (.drop1 _ _ _) (zbp (by exact Sb.aggs (by exact ⟨.refl _,.refl _,.refl _,.refl _,.refl _,.refl _,.refl _,.refl _,.nil _ _,trivial⟩)) (by exact .refl _))) ⟨rfl,congrArg (fun b=>AV.tup [.agg (evR ⟨0,0,e.s,e.l,0,⟨0,0⟩,0,[]⟩),bv b]) (by first|(simp only [zdm, *,Bool.true_and,Bool.false_and,Bool.and_false,Bool.and_true,Bool.true_or,Bool.or_false,Bool.false_or,Bool.or_true,if_true,if_false,Bool.false_eq_true,Bool.not_true,Bool.not_false];done)|(simp_all [zdm];done)|(simp_all [zdm] <;> omega))⟩
 ·refine rn ?_;refine dw 0 rfl rfl rfl rfl rfl (Nat.le_of_ble_eq_true rfl) ?_
  refine rn2 ?_;show zb8 _ _ _ _ _ _ ⟨_,.box b2 60 _::_,_⟩
  refine rn ?_;exact zdw (.cons _ _ _ _ (.agg _ _ _ _ _ _ _ rfl inferInstance inferInstance inferInstance rfl) (.cons _ _ _ _ (.tmp _ _ rfl) .nil)) (.trans (.drop1 _ _ _) (zbp (by exact Sb.aggs (by exact ⟨.refl _,.refl _,.refl _,.refl _,.refl _,.refl _,.refl _,.refl _,.nil _ _,trivial⟩)) (by exact .refl _))) ⟨rfl,congrArg (fun b=>AV.tup [.agg (evR ⟨0,0,e.s,e.l,0,⟨0,0⟩,0,[]⟩),bv b]) (by first|(simp only [zdm, *,Bool.true_and,Bool.false_and,Bool.and_false,Bool.and_true,Bool.true_or,Bool.or_false,Bool.false_or,Bool.or_true,if_true,if_false,Bool.false_eq_true,Bool.not_true,Bool.not_false];done)|(simp_all [zdm];done)|(simp_all [zdm] <;> omega))⟩
theorem ykm (e:Ev) (h:Hist) (be bh:Nat):y8 Tryz.prog 233 [pZ be,pZ bh] [.box be 60 (evR e),.box bh 28 (y9 h)] (fun r h'=>h'= [.box be 60 (evR e),.box bh 28 (y9 h)]∧r= .tup [.agg (evR ⟨0,0,0,0,e.o,e.v,0,[]⟩),bv (zbh h e)]):=by
 refine z6 Tryz.func233 rfl rfl rfl ?_
 refine rn ?_;refine z7 rfl (y7 rfl fun b2=> ?_)
 refine rn ?_;refine zdn 30 [(b2,60,_)] rfl (List.perm_append_comm (l₁:= [_])) ?_
 refine rn ?_;refine dv rfl rfl (by exact y4 rfl rfl (zat (zvd _ 2 _ _ rfl (by decide)) (Sbs.refl _))) ?_
 refine rn ?_;refine zcu (fun hg1_9=> ?_) (fun hg1_9=> ?_)
 ·refine rn ?_;refine dv rfl rfl (by exact y4 rfl rfl (zat (zqp h e.v) (Sbs.refl _))) ?_
  refine rn ?_;refine zcu (fun hg1_15=> ?_) (fun hg1_15=> ?_)
  ·refine rn ?_;refine zcu (fun hg1_23=> ?_) (fun hg1_23=> ?_)
   ·refine rn ?_;refine dw 0 rfl rfl rfl rfl rfl (Nat.le_of_ble_eq_true rfl) ?_
    refine rn2 ?_;show zb8 _ _ _ _ _ _ ⟨_,.box b2 60 _::_,_⟩
    refine rn ?_;exact zdw (.cons _ _ _ _ (.agg _ _ _ _ _ _ _ rfl inferInstance inferInstance inferInstance rfl) (.cons _ _ _ _ (.tmp _ _ rfl) .nil)) (.trans (.drop1 _ _ _) (zbp (by exact Sb.aggs (by exact ⟨.refl _,.refl _,.refl _,.refl _,.refl _,.refl _,.refl _,.refl _,.nil _ _,trivial⟩)) (by exact .refl _))) ⟨rfl,congrArg (fun b=>AV.tup [.agg (evR ⟨0,0,0,0,e.o,e.v,0,[]⟩),bv b]) (by first|(simp only [zbh, *,Bool.true_and,Bool.false_and,Bool.and_false,Bool.and_true,Bool.true_or,Bool.or_false,Bool.false_or,Bool.or_true,if_true,if_false,Bool.false_eq_true,Bool.not_true,Bool.not_false];done)|(simp_all [zbh];done)|(simp_all [zbh] <;> omega))⟩
   ·refine rn ?_;refine dw 0 rfl rfl rfl rfl rfl (Nat.le_of_ble_eq_true rfl) ?_
    refine rn2 ?_;show zb8 _ _ _ _ _ _ ⟨_,.box b2 60 _::_,_⟩
    refine rn ?_;exact zdw (.cons _ _ _ _ (.agg _ _ _ _ _ _ _ rfl inferInstance inferInstance inferInstance rfl) (.cons _ _ _ _ (.tmp _ _ rfl) .nil)) (.trans (.drop1 _ _ _) (zbp (by exact Sb.aggs (by exact ⟨.refl _,.refl _,.refl _,.refl _,.refl _,.refl _,.refl _,.refl _,.nil _ _,trivial⟩)) (by exact .refl _))) ⟨rfl,congrArg (fun b=>AV.tup [.agg (evR ⟨0,0,0,0,e.o,e.v,0,[]⟩),bv b]) (by first|(simp only [zbh, *,Bool.true_and,Bool.false_and,Bool.and_false,Bool.and_true,Bool.true_or,Bool.or_false,Bool.false_or,Bool.or_true,if_true,if_false,Bool.false_eq_true,Bool.not_true,Bool.not_false];done)|(simp_all [zbh];done)|(simp_all [zbh] <;> omega))⟩
  ·refine rn ?_;refine dw 0 rfl rfl rfl rfl rfl (Nat.le_of_ble_eq_true rfl) ?_
   refine rn2 ?_;show zb8 _ _ _ _ _ _ ⟨_,.box b2 60 _::_,_⟩
   refine rn ?_;exact zdw (.cons _ _ _ _ (.agg _ _ _ _ _ _ _ rfl inferInstance inferInstance inferInstance rfl) (.cons _ _ _ _ (.tmp _ _ rfl) .nil)) (.trans (.drop1 _ _ _) (zbp (by exact Sb.aggs (by exact ⟨.refl _,.refl _,.refl _,.refl _,.refl _,.refl _,.refl _,.refl _,.nil _ _,trivial⟩)) (by exact .refl _))) ⟨rfl,congrArg (fun b=>AV.tup [.agg (evR ⟨0,0,0,0,e.o,e.v,0,[]⟩),bv b]) (by first|(simp only [zbh, *,Bool.true_and,Bool.false_and,Bool.and_false,Bool.and_true,Bool.true_or,Bool.or_false,Bool.false_or,Bool.or_true,if_true,if_false,Bool.false_eq_true,Bool.not_true,Bool.not_false];done)|(simp_all [zbh];done)|(simp_all [zbh] <;> omega))⟩
 ·refine rn ?_;refine dw 0 rfl rfl rfl rfl rfl (Nat.le_of_ble_eq_true rfl) ?_
  refine rn2 ?_;show zb8 _ _ _ _ _ _ ⟨_,.box b2 60 _::_,_⟩
  refine rn ?_;exact zdw (.cons _ _ _ _ (.agg _ _ _ _ _ _ _ rfl inferInstance inferInstance inferInstance rfl) (.cons _ _ _ _ (.tmp _ _ rfl) .nil)) (.trans (.drop1 _ _ _) (zbp (by exact Sb.aggs (by exact ⟨.refl _,.refl _,.refl _,.refl _,.refl _,.refl _,.refl _,.refl _,.nil _ _,trivial⟩)) (by exact .refl _))) ⟨rfl,congrArg (fun b=>AV.tup [.agg (evR ⟨0,0,0,0,e.o,e.v,0,[]⟩),bv b]) (by first|(simp only [zbh, *,Bool.true_and,Bool.false_and,Bool.and_false,Bool.and_true,Bool.true_or,Bool.or_false,Bool.false_or,Bool.or_true,if_true,if_false,Bool.false_eq_true,Bool.not_true,Bool.not_false];done)|(simp_all [zbh];done)|(simp_all [zbh] <;> omega))⟩
theorem ykl (e:Ev) (h:Hist) (be bh:Nat):y8 Tryz.prog 235 [pZ be,pZ bh] [.box be 60 (evR e),.box bh 28 (y9 h)] (fun r h'=>h'= [.box be 60 (evR e),.box bh 28 (y9 h)]∧r= .tup [.agg (evR ⟨0,0,0,0,e.o,e.v,0,[]⟩),bv (zdy h e)]):=by
 refine z6 Tryz.func235 rfl rfl rfl ?_
 refine rn ?_;refine z7 rfl (y7 rfl fun b2=> ?_)
 refine rn ?_;refine zdn 16 [(b2,60,_)] rfl (List.perm_append_comm (l₁:= [_])) ?_
 refine rn ?_;refine dv rfl rfl (by exact y4 rfl rfl (zat (zvd _ 2 _ _ rfl (by decide)) (Sbs.refl _))) ?_
 refine rn ?_;refine zcu (fun hg1_9=> ?_) (fun hg1_9=> ?_)
 ·refine rn ?_;refine dv rfl rfl (by exact y4 rfl rfl (zat (zqp h e.v) (Sbs.refl _))) ?_
  refine rn ?_;refine dw 0 rfl rfl rfl rfl rfl (Nat.le_of_ble_eq_true rfl) ?_
  refine rn2 ?_;show zb8 _ _ _ _ _ _ ⟨_,.box b2 60 _::_,_⟩
  refine rn ?_;exact zdw (.cons _ _ _ _ (.agg _ _ _ _ _ _ _ rfl inferInstance inferInstance inferInstance rfl) (.cons _ _ _ _ (.tmp _ _ rfl) .nil)) (.trans (.drop1 _ _ _) (zbp (by exact Sb.aggs (by exact ⟨.refl _,.refl _,.refl _,.refl _,.refl _,.refl _,.refl _,.refl _,.nil _ _,trivial⟩)) (by exact .refl _))) ⟨rfl,congrArg (fun b=>AV.tup [.agg (evR ⟨0,0,0,0,e.o,e.v,0,[]⟩),bv b]) (by first|(simp only [zdy, *,Bool.true_and,Bool.false_and,Bool.and_false,Bool.and_true,Bool.true_or,Bool.or_false,Bool.false_or,Bool.or_true,if_true,if_false,Bool.false_eq_true,Bool.not_true,Bool.not_false];done)|(simp_all [zdy];done)|(simp_all [zdy] <;> omega))⟩
 ·refine rn ?_;refine dw 0 rfl rfl rfl rfl rfl (Nat.le_of_ble_eq_true rfl) ?_
  refine rn2 ?_;show zb8 _ _ _ _ _ _ ⟨_,.box b2 60 _::_,_⟩
  refine rn ?_;exact zdw (.cons _ _ _ _ (.agg _ _ _ _ _ _ _ rfl inferInstance inferInstance inferInstance rfl) (.cons _ _ _ _ (.tmp _ _ rfl) .nil)) (.trans (.drop1 _ _ _) (zbp (by exact Sb.aggs (by exact ⟨.refl _,.refl _,.refl _,.refl _,.refl _,.refl _,.refl _,.refl _,.nil _ _,trivial⟩)) (by exact .refl _))) ⟨rfl,congrArg (fun b=>AV.tup [.agg (evR ⟨0,0,0,0,e.o,e.v,0,[]⟩),bv b]) (by first|(simp only [zdy, *,Bool.true_and,Bool.false_and,Bool.and_false,Bool.and_true,Bool.true_or,Bool.or_false,Bool.false_or,Bool.or_true,if_true,if_false,Bool.false_eq_true,Bool.not_true,Bool.not_false];done)|(simp_all [zdy];done)|(simp_all [zdy] <;> omega))⟩
theorem yg3 (s:Seen) (h:Hist) (bh:Nat):y8 Tryz.prog 237 [.agg (zas s),pZ bh] [.box bh 28 (y9 h)] (fun r h'=>h'= [.box bh 28 (y9 h)]∧r=bv (zim h s)):=by
 refine z6 Tryz.func237 rfl rfl rfl ?_
 refine rn ?_;refine z7 rfl (w7 rfl rfl rfl fun b2=> ?_)
 refine rn ?_;refine qv rfl rfl (y4 rfl rfl (zat (zvd _ 2 _ _ rfl (by decide)) (Sbs.refl _))) ?_
 refine rn ?_;refine v8 (fun hg1_4=> ?_) (fun hg1_4=> ?_)
 ·refine rn ?_;refine qv rfl rfl (y4 rfl rfl (zat (zqp h s.v) (Sbs.refl _))) ?_
  refine rn ?_;exact zak rfl (.drop1 _ _ _) ⟨rfl,congrArg bv (by first|(simp only [zim, *,Bool.true_and,Bool.false_and,Bool.and_false,Bool.and_true,Bool.true_or,Bool.or_false,Bool.false_or,Bool.or_true,if_true,if_false,Bool.false_eq_true,Bool.not_true,Bool.not_false];done)|(simp_all [zim];done)|(simp_all [zim] <;> omega))⟩
 ·refine rn ?_;exact zak rfl (.drop1 _ _ _) ⟨rfl,congrArg bv (by first|(simp only [zim, *,Bool.true_and,Bool.false_and,Bool.and_false,Bool.and_true,Bool.true_or,Bool.or_false,Bool.false_or,Bool.or_true,if_true,if_false,Bool.false_eq_true,Bool.not_true,Bool.not_false];done)|(simp_all [zim];done)|(simp_all [zim] <;> omega))⟩
theorem ykk (e:Ev) (h:Hist) (be bh:Nat) (hl:e.scan.length≤4611686018427387904):y8 Tryz.prog 236 [pZ bh,pZ be] [.box be 60 (evR e),.box bh 28 (y9 h)] (fun r h'=>h'= [.box be 60 (evR e),.box bh 28 (y9 h)]∧r= .tup [.agg (evR ⟨0,0,0,0,0,⟨0,0⟩,e.p,e.scan⟩),bv (zcf h e)]):=by
 refine z6 Tryz.func236 rfl rfl rfl ?_
 refine rn ?_;refine z7 rfl (y7 rfl fun b2=> ?_)
 refine rn ?_;refine zdn 22 [(b2,60,_)] rfl (List.perm_append_comm (l₁:= [_])) ?_
 refine rn ?_;refine dv rfl rfl (by exact y4 rfl rfl (zat (zvd _ 3 _ _ rfl (by decide)) (Sbs.refl _))) ?_
 refine rn ?_;refine zcu (fun hg2_9=> ?_) (fun hg2_9=> ?_)
 ·refine rn ?_;refine zcu (fun hg2_15=> ?_) (fun hg2_15=> ?_)
  ·refine rn ?_;refine dv rfl rfl (by exact y4 rfl rfl (y1.of_fun (yhm e.scan (.fn (.func 237) [] [pZ bh]) (zim h) [.box be 60 (evR e),.box bh 28 (y9 h)] rfl (fun s hs=>y1.quiet (R:=fun x=>x=bv (zim h s)) (h2:= [_]) (List.perm_append_comm (l₁:= [_])) (y1.of_acall (fs:= []) (cs:= [pZ bh]) (yg3 s h bh))) hl))) ?_
   refine rn ?_;refine dw 0 rfl rfl rfl rfl rfl (Nat.le_of_ble_eq_true rfl) ?_
   refine rn2 ?_;show zb8 _ _ _ _ _ _ ⟨_,.box b2 60 _::_,_⟩
   refine rn ?_;exact zdw (.cons _ _ _ _ (.agg _ _ _ _ _ _ _ rfl inferInstance inferInstance inferInstance rfl) (.cons _ _ _ _ (.tmp _ _ rfl) .nil)) (.trans (.drop1 _ _ _) (zbp (by exact Sb.aggs (by exact ⟨.refl _,.refl _,.refl _,.refl _,.refl _,.refl _,.refl _,.refl _,.refl _,trivial⟩)) (by exact .refl _))) ⟨rfl,congrArg (fun b=>AV.tup [.agg (evR ⟨0,0,0,0,0,⟨0,0⟩,e.p,e.scan⟩),bv b]) (by first|(simp only [zcf, *,Bool.true_and,Bool.false_and,Bool.and_false,Bool.and_true,Bool.true_or,Bool.or_false,Bool.false_or,Bool.or_true,if_true,if_false,Bool.false_eq_true,Bool.not_true,Bool.not_false];done)|(simp_all [zcf];done)|(simp_all [zcf] <;> omega))⟩
  ·refine rn ?_;refine dw 0 rfl rfl rfl rfl rfl (Nat.le_of_ble_eq_true rfl) ?_
   refine rn2 ?_;show zb8 _ _ _ _ _ _ ⟨_,.box b2 60 _::_,_⟩
   refine rn ?_;exact zdw (.cons _ _ _ _ (.agg _ _ _ _ _ _ _ rfl inferInstance inferInstance inferInstance rfl) (.cons _ _ _ _ (.tmp _ _ rfl) .nil)) (.trans (.drop1 _ _ _) (zbp (by exact Sb.aggs (by exact ⟨.refl _,.refl _,.refl _,.refl _,.refl _,.refl _,.refl _,.refl _,.refl _,trivial⟩)) (by exact .refl _))) ⟨rfl,congrArg (fun b=>AV.tup [.agg (evR ⟨0,0,0,0,0,⟨0,0⟩,e.p,e.scan⟩),bv b]) (by first|(simp only [zcf, *,Bool.true_and,Bool.false_and,Bool.and_false,Bool.and_true,Bool.true_or,Bool.or_false,Bool.false_or,Bool.or_true,if_true,if_false,Bool.false_eq_true,Bool.not_true,Bool.not_false];done)|(simp_all [zcf];done)|(simp_all [zcf] <;> omega))⟩
 ·refine rn ?_;refine dw 0 rfl rfl rfl rfl rfl (Nat.le_of_ble_eq_true rfl) ?_
  refine rn2 ?_;show zb8 _ _ _ _ _ _ ⟨_,.box b2 60 _::_,_⟩
  refine rn ?_;exact zdw (.cons _ _ _ _ (.agg _ _ _ _ _ _ _ rfl inferInstance inferInstance inferInstance rfl) (.cons _ _ _ _ (.tmp _ _ rfl) .nil)) (.trans (.drop1 _ _ _) (zbp (by exact Sb.aggs (by exact ⟨.refl _,.refl _,.refl _,.refl _,.refl _,.refl _,.refl _,.refl _,.refl _,trivial⟩)) (by exact .refl _))) ⟨rfl,congrArg (fun b=>AV.tup [.agg (evR ⟨0,0,0,0,0,⟨0,0⟩,e.p,e.scan⟩),bv b]) (by first|(simp only [zcf, *,Bool.true_and,Bool.false_and,Bool.and_false,Bool.and_true,Bool.true_or,Bool.or_false,Bool.false_or,Bool.or_true,if_true,if_false,Bool.false_eq_true,Bool.not_true,Bool.not_false];done)|(simp_all [zcf];done)|(simp_all [zcf] <;> omega))⟩
theorem ykj  :y8 Tryz.prog 239 [] [] (fun r h'=>h'= []∧r= .tup [.agg (evR ⟨0,0,0,0,0,⟨0,0⟩,0,[]⟩),bv true]):=by
 refine z6 Tryz.func239 rfl rfl rfl ?_
 refine rn ?_;refine z7 rfl (y7 rfl fun b0=> ?_)
 refine rn ?_;exact zdw (.cons _ _ _ _ (.agg _ _ _ _ _ _ _ rfl inferInstance inferInstance inferInstance rfl) (.cons _ _ _ _ (.tmp _ _ rfl) .nil)) (.trans (.drop1 _ _ _) (zbp (by exact Sb.aggs (by exact ⟨.refl _,.refl _,.refl _,.refl _,.refl _,.refl _,.refl _,.refl _,.nil _ _,trivial⟩)) (by exact .refl _))) ⟨rfl,congrArg (fun b=>AV.tup [.agg (evR ⟨0,0,0,0,0,⟨0,0⟩,0,[]⟩),bv b]) (by rfl)⟩
theorem yki  :y8 Tryz.prog 240 [] [] (fun r h'=>h'= []∧r= .tup [.agg (evR ⟨0,0,0,0,0,⟨0,0⟩,0,[]⟩),bv true]):=by
 refine z6 Tryz.func240 rfl rfl rfl ?_
 refine rn ?_;refine z7 rfl (y7 rfl fun b0=> ?_)
 refine rn ?_;exact zdw (.cons _ _ _ _ (.agg _ _ _ _ _ _ _ rfl inferInstance inferInstance inferInstance rfl) (.cons _ _ _ _ (.tmp _ _ rfl) .nil)) (.trans (.drop1 _ _ _) (zbp (by exact Sb.aggs (by exact ⟨.refl _,.refl _,.refl _,.refl _,.refl _,.refl _,.refl _,.refl _,.nil _ _,trivial⟩)) (by exact .refl _))) ⟨rfl,congrArg (fun b=>AV.tup [.agg (evR ⟨0,0,0,0,0,⟨0,0⟩,0,[]⟩),bv b]) (by rfl)⟩
theorem yb7 (h:Hist) (e:Ev) (b2 b3 k:Nat) (hl:e.scan.length≤4611686018427387904) (hk:e.kind=k) (h1:1≤k) (h7:k < 7):
 ∃av,(([.v .nilFunc,.fn (.func 231) [] [pZ b3,pZ b2],.fn (.func 233) [] [pZ b3,pZ b2],.fn (.func 235) [] [pZ b3,pZ b2],.fn (.func 236) [] [pZ b2,pZ b3],.fn (.func 239) [] [],.fn (.func 240) [] []]):List AV)[k * 1]? =some av∧y1 Tryz.prog av [] [.box b3 60 (evR e),.box b2 28 (y9 h)] (fun r h'=>h'= [.box b3 60 (evR e),.box b2 28 (y9 h)]∧r= .tup [.agg (evR (zg3 h e).1),bv (zg3 h e).2]):=by
 rcases (by omega:k=1∨k=2∨k=3∨k=4∨k=5∨k=6) with rfl|rfl|rfl|rfl|rfl|rfl
 ·refine ⟨_,rfl,?_⟩
  have hc:zg3 h e=(⟨0,0,e.s,e.l,0,⟨0,0⟩,0,[]⟩,zdm h e):=by unfold zg3;rw [hk];rfl
  rw [hc]
  exact y1.of_acall (fs:= []) (cs:= [pZ b3,pZ b2]) (ykn e h b3 b2)
 ·refine ⟨_,rfl,?_⟩
  have hc:zg3 h e=(⟨0,0,0,0,e.o,e.v,0,[]⟩,zbh h e):=by unfold zg3;rw [hk];rfl
  rw [hc]
  exact y1.of_acall (fs:= []) (cs:= [pZ b3,pZ b2]) (ykm e h b3 b2)
 ·refine ⟨_,rfl,?_⟩
  have hc:zg3 h e=(⟨0,0,0,0,e.o,e.v,0,[]⟩,zdy h e):=by unfold zg3;rw [hk];rfl
  rw [hc]
  exact y1.of_acall (fs:= []) (cs:= [pZ b3,pZ b2]) (ykl e h b3 b2)
 ·refine ⟨_,rfl,?_⟩
  have hc:zg3 h e=(⟨0,0,0,0,0,⟨0,0⟩,e.p,e.scan⟩,zcf h e):=by unfold zg3;rw [hk];rfl
  rw [hc]
  exact y1.of_acall (fs:= []) (cs:= [pZ b2,pZ b3]) (ykk e h b3 b2 hl)
 ·refine ⟨_,rfl,?_⟩
  have hc:zg3 h e=(⟨0,0,0,0,0,⟨0,0⟩,0,[]⟩,true):=by unfold zg3;rw [hk];rfl
  rw [hc]
  exact y1.pure (R:=fun x=>x=_) (y1.of_acall (fs:= []) (cs:= []) ykj)
 ·refine ⟨_,rfl,?_⟩
  have hc:zg3 h e=(⟨0,0,0,0,0,⟨0,0⟩,0,[]⟩,true):=by unfold zg3;rw [hk];rfl
  rw [hc]
  exact y1.pure (R:=fun x=>x=_) (y1.of_acall (fs:= []) (cs:= []) yki)
theorem bvz4_444 {a b:Bool} (h:a=b:=by first|(simp only [zdu, *,Bool.true_and,Bool.false_and,Bool.and_false,Bool.and_true,Bool.true_or,Bool.or_false,Bool.false_or,Bool.or_true,if_true,if_false,Bool.false_eq_true,Bool.not_true,Bool.not_false];done)|(simp_all [zdu];done)|(simp_all [zdu] <;> omega)):bv a=bv b:=congrArg bv h
theorem ym8 (h:Hist) (e:Ev) (hl:e.scan.length≤4611686018427387904):y8 Tryz.prog 194 [.agg (y9 h),.agg (evR e)] [] (fun r h'=>h'= []∧r=bv (zdu h e)):=by
 refine z6 Tryz.func194 rfl rfl rfl ?_
 refine rn ?_;refine z7 rfl (w7 rfl rfl rfl fun b2=> ?_)
 refine z7 rfl (w7 rfl rfl rfl fun b3=> ?_)
 refine rn ?_;refine z7 rfl (y7 rfl fun b5=> ?_)
 refine rn ?_;refine v8 (fun hg2_3=> ?_) (fun hg2_3=> ?_)
 ·refine rn ?_;refine zr8 rfl ?_;refine rn ?_;exact zak rfl (.drop [_,_,_] _ _) ⟨rfl,bvz4_444⟩
 ·refine rn ?_;refine v8 (fun hg2_8=> ?_) (fun hg2_8=> ?_)
  ·refine rn ?_;refine zr8 rfl ?_;refine rn ?_;exact zak rfl (.drop [_,_,_] _ _) ⟨rfl,bvz4_444⟩
  ·refine rn ?_;refine qv rfl rfl (y4 rfl rfl (zat (zvd h 0 e.t _ rfl (by decide)) (Sbs.refl _))) ?_
   refine rn ?_;refine y0 rfl (fun hc27=> ?_) (fun hc27=> ?_)
   ·refine rn ?_;exact zak rfl (.drop [_,_,_] _ _) ⟨rfl,bvz4_444⟩
   ·have hlo:1≤e.kind:=by simpa using hg2_3
    have hhi:e.kind < 7:=by simpa using hg2_8
    obtain ⟨k,hk⟩:=Int.eq_ofNat_of_zero_le (show 0≤e.kind by omega)
    obtain ⟨av,hav,hfc⟩:=yb7 h e b2 b3 k hl hk (by omega) (by omega)
    refine zbz ?_;refine zai ?_;refine w9 (y6 ?_)
    refine q1 ?_;refine q1 ?_;refine qq rfl rfl (zaf rfl (by rw [←hk];rfl) (by omega)) ?_
    refine qq rfl rfl (k9 rfl (by simpa using hav)) ?_
    refine qv rfl rfl (y4 rfl rfl (y1.quiet (R:=fun x=>x=_) (h2:= [_]) (List.perm_append_comm (l₁:= [_])) hfc)) ?_
    refine rn ?_;refine z7 rfl (y7 rfl fun b6=> ?_)
    refine rn ?_;refine zdn 6 [(b6,60,_)] rfl (List.perm_append_comm (l₁:= [_])) ?_
    refine rn ?_;refine dw 0 rfl rfl rfl rfl rfl (Nat.le_of_ble_eq_true rfl) ?_
    refine rn2 ?_;show zb8 _ _ _ _ _ _ ⟨_,[.box b6 60 _,.box b5 _ _,.box b3 60 (evR e),.box b2 28 (y9 h)],_⟩
    refine rn ?_;refine v8 (fun hg6_1=> ?_) (fun hg6_1=> ?_)
    ·refine rn ?_;refine qv rfl rfl (y4 rfl rfl (zat (zwk {(zg3 h e).1 with kind:=e.kind,t:=e.t} e (zyz h e hl) hl) (by exact Sbs.refl _))) ?_
     refine rn ?_;exact zak rfl (.drop [_,_,_,_] _ _) ⟨rfl,bvz4_444⟩
    ·refine rn ?_;exact zak rfl (.drop [_,_,_,_] _ _) ⟨rfl,bvz4_444⟩
theorem yai (h:Hist) (b:Nat) (t:Int):y8 Tryz.prog 190 [iv t,pZ b] [.box b 28 (y9 h)] (fun r h'=>h'= [.box b 28 (y9 h)]∧r=bv (zd2 h.ts t)):=by
 refine z6 Tryz.func190 rfl rfl rfl ?_
 refine rn ?_;refine qv rfl rfl (y4 rfl rfl (zat (zvd h 0 _ _ rfl (by decide)) (Sbs.refl _))) ?_
 refine rn ?_;exact zak rfl (.refl _ _) ⟨rfl,congrArg bv (by rfl)⟩
theorem zwc {full:Bool} (h:Hist) (b:Nat) (ts:List Int) (hl:ts.length≤4611686018427387904):y8 Tryz.prog 188 [.list full 1 (ts.map za9),pZ b] [.box b 28 (y9 h)] (fun r h'=>h'= [.box b 28 (y9 h)]∧r=bv (tsB h ts)):=by
 refine z6 Tryz.func188 rfl rfl rfl ?_
 refine rn ?_;refine v8 (fun hg1_3=> ?_) (fun hg1_3=> ?_)
 ·refine rn ?_;refine qv rfl rfl (y4 rfl rfl (y1.of_fun (yk5 ts (.fn (.func 190) [] [pZ b]) (zd2 h.ts) [.box b 28 (y9 h)] rfl (fun t _=>y1.of_acall (fs:= []) (cs:= [pZ b]) (yai h b t)) hl))) ?_
  refine rn ?_;exact zak rfl (.refl _ _) ⟨rfl,congrArg bv (by first|(simp only [tsB, *,Bool.true_and,Bool.false_and,Bool.and_false,Bool.and_true,Bool.true_or,Bool.or_false,Bool.false_or,Bool.or_true,if_true,if_false,Bool.false_eq_true,Bool.not_true,Bool.not_false];done)|(simp_all [tsB];done)|(simp_all [tsB] <;> omega))⟩
 ·refine rn ?_;exact zak rfl (.refl _ _) ⟨rfl,congrArg bv (by first|(simp only [tsB, *,Bool.true_and,Bool.false_and,Bool.and_false,Bool.and_true,Bool.true_or,Bool.or_false,Bool.false_or,Bool.or_true,if_true,if_false,Bool.false_eq_true,Bool.not_true,Bool.not_false];done)|(simp_all [tsB];done)|(simp_all [tsB] <;> omega))⟩
theorem ye3 (h:Hist) (b:Nat) (e:Ev) (hl:e.scan.length≤4611686018427387904):y8 Tryz.prog 193 [.agg (evR e),pZ b] [.box b 28 (y9 h)] (fun r h'=>h'= [.box b 28 (y9 h)]∧r=bv (zdu h e)):=by
 refine z6 Tryz.func193 rfl rfl rfl ?_
 refine rn ?_;refine z7 rfl (w7 rfl rfl rfl fun b2=> ?_)
 refine rn ?_;refine qv rfl rfl (y4 rfl rfl (zat (ym8 h e hl) (Sbs.refl _))) ?_
 refine rn ?_;exact zak rfl (.drop1 _ _ _) ⟨rfl,congrArg bv (by rfl)⟩
theorem ye2 (h:Hist) (b c:Nat) (m:H.Ord) (hl:m.ts.length≤4611686018427387904):y8 Tryz.prog 196 [.agg (zet m),pZ b,pZ c] [.box b 28 (y9 h),.box c 231 [.fn (.func 188) [] [pZ b]]] (fun r h'=>h'= [.box b 28 (y9 h),.box c 231 [.fn (.func 188) [] [pZ b]]]∧r=bv (zvf h m)):=by
 refine z6 Tryz.func196 rfl rfl rfl ?_
 refine rn ?_;refine z7 rfl (w7 rfl rfl rfl fun b3=> ?_)
 refine rn ?_;refine qv rfl rfl (y4 rfl rfl (zat (zvd h 2 _ _ rfl (by decide)) (Sbs.refl _))) ?_
 refine rn ?_;refine v8 (fun hg1_4=> ?_) (fun hg1_4=> ?_)
 ·refine rn ?_;refine qv rfl rfl (y4 rfl rfl (y1.quiet (R:=fun x=>x=bv (tsB h m.ts)) (h2:= [_,_]) (List.Perm.swap _ _ _) (y1.of_acall (fs:= []) (cs:= [pZ b]) (zwc h b m.ts hl)))) ?_
  refine rn ?_;exact zak rfl (.drop1 _ _ _) ⟨rfl,congrArg bv (by first|(simp only [zvf, *,Bool.true_and,Bool.false_and,Bool.and_false,Bool.and_true,Bool.true_or,Bool.or_false,Bool.false_or,Bool.or_true,if_true,if_false,Bool.false_eq_true,Bool.not_true,Bool.not_false];done)|(simp_all [zvf];done)|(simp_all [zvf] <;> omega))⟩
 ·refine rn ?_;exact zak rfl (.drop1 _ _ _) ⟨rfl,congrArg bv (by first|(simp only [zvf, *,Bool.true_and,Bool.false_and,Bool.and_false,Bool.and_true,Bool.true_or,Bool.or_false,Bool.false_or,Bool.or_true,if_true,if_false,Bool.false_eq_true,Bool.not_true,Bool.not_false];done)|(simp_all [zvf];done)|(simp_all [zvf] <;> omega))⟩
theorem bvz5_983 {a b:Bool} (h:a=b:=by first|(simp only [ybm, *,Bool.true_and,Bool.false_and,Bool.and_false,Bool.and_true,Bool.true_or,Bool.or_false,Bool.false_or,Bool.or_true,if_true,if_false,Bool.false_eq_true,Bool.not_true,Bool.not_false];done)|(simp_all [ybm];done)|(simp_all [ybm] <;> omega)):bv a=bv b:=congrArg bv h
theorem ye1 (h:Hist) (b c:Nat) (m:Mat) (hl:m.ts.length≤4611686018427387904):y8 Tryz.prog 198 [.agg (zee m),pZ b,pZ c] [.box b 28 (y9 h),.box c 231 [.fn (.func 188) [] [pZ b]]] (fun r h'=>h'= [.box b 28 (y9 h),.box c 231 [.fn (.func 188) [] [pZ b]]]∧r=bv (ybm h m)):=by
 refine z6 Tryz.func198 rfl rfl rfl ?_
 refine rn ?_;refine z7 rfl (w7 rfl rfl rfl fun b3=> ?_)
 refine rn ?_;refine qv rfl rfl (y4 rfl rfl (zat (zvd h 3 _ _ rfl (by decide)) (Sbs.refl _))) ?_
 refine rn ?_;refine v8 (fun hg1_4=> ?_) (fun hg1_4=> ?_)
 ·refine rn ?_;refine qv rfl rfl (y4 rfl rfl (zat (zvd h 2 _ _ rfl (by decide)) (Sbs.refl _))) ?_
  refine rn ?_;refine v8 (fun hg1_10=> ?_) (fun hg1_10=> ?_)
  ·refine rn ?_;refine qv rfl rfl (y4 rfl rfl (y1.quiet (R:=fun x=>x=bv (tsB h m.ts)) (h2:= [_,_]) (List.Perm.swap _ _ _) (y1.of_acall (fs:= []) (cs:= [pZ b]) (zwc h b m.ts hl)))) ?_
   refine rn ?_;exact zak rfl (.drop1 _ _ _) ⟨rfl,bvz5_983⟩
  ·refine rn ?_;exact zak rfl (.drop1 _ _ _) ⟨rfl,bvz5_983⟩
 ·refine rn ?_;exact zak rfl (.drop1 _ _ _) ⟨rfl,bvz5_983⟩
theorem bvz6_709 {a b:Bool} (h:a=b:=by first|(simp only [yc3, *,Bool.true_and,Bool.false_and,Bool.and_false,Bool.and_true,Bool.true_or,Bool.or_false,Bool.false_or,Bool.or_true,if_true,if_false,Bool.false_eq_true,Bool.not_true,Bool.not_false];done)|(simp_all [yc3];done)|(simp_all [yc3] <;> omega)):bv a=bv b:=congrArg bv h
theorem ye0 (h:Hist) (b:Nat) (w:Wan):y8 Tryz.prog 200 [.agg (zfq w),pZ b] [.box b 28 (y9 h)] (fun r h'=>h'= [.box b 28 (y9 h)]∧r=bv (yc3 h w)):=by
 refine z6 Tryz.func200 rfl rfl rfl ?_
 refine rn ?_;refine z7 rfl (w7 rfl rfl rfl fun b2=> ?_)
 refine rn ?_;refine qv rfl rfl (y4 rfl rfl (zat (zvd h 1 _ _ rfl (by decide)) (Sbs.refl _))) ?_
 refine rn ?_;refine v8 (fun hg1_4=> ?_) (fun hg1_4=> ?_)
 ·refine rn ?_;refine v8 (fun hg1_9=> ?_) (fun hg1_9=> ?_)
  ·refine rn ?_;exact zak rfl (.drop1 _ _ _) ⟨rfl,bvz6_709⟩
  ·refine rn ?_;exact zak rfl (.drop1 _ _ _) ⟨rfl,bvz6_709⟩
 ·refine rn ?_;exact zak rfl (.drop1 _ _ _) ⟨rfl,bvz6_709⟩
theorem bvz7_4890 {a b:Bool} (h:a=b:=by first|(simp only [za2, *,Bool.true_and,Bool.false_and,Bool.and_false,Bool.and_true,Bool.true_or,Bool.or_false,Bool.false_or,Bool.or_true,if_true,if_false,Bool.false_eq_true,Bool.not_true,Bool.not_false];done)|(simp_all [za2];done)):bv a=bv b:=congrArg bv h
theorem yie (h:Hist) (la:Lim 4611686018427387904 h):y8 Tryz.prog 140 [.agg (y9 h)] [.glob 2 156 y2,.glob 4 305 y3,.glob 5 308 z8] (fun r h'=>h'= [.glob 2 156 y2,.glob 4 305 y3,.glob 5 308 z8]∧r=bv (za2 h)):=by
 refine z6 Tryz.func140 rfl rfl rfl ?_
 refine rn ?_;refine z7 rfl (w7 rfl rfl rfl fun b1=> ?_)
 refine rn ?_;refine zie ?_;refine ztz (⟨[(1,pZ b1),(3,bv (okK h 0))],.box b1 28 (y9 h):: [.glob 2 156 y2,.glob 4 305 y3,.glob 5 308 z8],[]⟩) ?_ ?_
 ·refine rn ?_;refine v8 (fun hg1_4=> ?_) (fun hg1_4=> ?_)
  ·refine rn ?_;rw [show okK h 0=_ from zsw h,hg1_4]
   exact (v1 (.cons _ _ _ rfl (.cons _ _ _ rfl (.nil))))
  ·refine rn ?_;rw [show okK h 0=_ from zsw h,hg1_4]
   exact (v1 (.cons _ _ _ rfl (.cons _ _ _ rfl (.nil))))
 ·refine w9 ?_;refine ztx ?_;refine rn0 ?_;refine ztz (⟨[(3,bv (okK h 4)),(1,pZ b1)],.box b1 28 (y9 h):: [.glob 2 156 y2,.glob 4 305 y3,.glob 5 308 z8],[]⟩) ?_ ?_
  ·refine rn ?_;refine qv rfl rfl (y4 rfl rfl (zat (yf3 _) (Sbs.refl _))) ?_
   refine rn ?_;refine zaa (fun k:Nat=>k≤4) (fun k=>⟨[(29,iv k),(28,.agg (zjc h)),(1,pZ b1),(3,bv (okK h k))],.box b1 28 (y9 h):: [.glob 2 156 y2,.glob 4 305 y3,.glob 5 308 z8],[]⟩) (fun k=>4 - k) 0 (by omega)
    (v1 (.cons _ _ _ rfl (.cons _ _ _ rfl (.cons _ _ _ rfl (.cons _ _ _ rfl (.nil)))))) ?_
   rintro k hk
   refine rn ?_;refine y0 rfl (fun hc30=> ?_) (fun hc30=> ?_)
   ·have hk4:k < 4:=by simp at hc30;omega
    refine zbz ?_;refine zai ?_;refine w9 ?_;refine zc9 ?_;refine w9 (y6 ?_)
    refine q1 ?_;refine qq rfl rfl (zb0 rfl rfl (by omega) (by have:=zxf h hk4;simpa using this)) ?_
    refine rn ?_;refine z7 rfl (zab (enc:=zv3) rfl fun b33=> ?_)
    refine rn0 ?_;refine ztz (⟨[(5,zci (nmK h k)),(3,bv (okj h k 0)),(6,.v (.map (some b33))),(29,iv k),(28,.agg (zjc h)),(1,pZ b1)],.map b33 (j8 zv3 []):: .box b1 28 (y9 h):: [.glob 2 156 y2,.glob 4 305 y3,.glob 5 308 z8],[]⟩) ?_ ?_
    ·refine rn ?_;refine v8 (fun hg6_1=> ?_) (fun hg6_1=> ?_)
     ·refine q1 ?_;refine q1 ?_;refine q1 ?_;refine qq rfl rfl (zaf rfl rfl (by omega)) ?_
      refine qq rfl rfl (k9 rfl (zrk hk4)) ?_
      refine rn ?_;rw [ydg h k,hg6_1]
      first|exact (v1 (.cons _ _ _ rfl (.cons _ _ _ rfl (.cons _ _ _ rfl (.cons _ _ _ rfl (.cons _ _ _ rfl (.cons _ _ _ rfl (.nil))))))))|(rw [Bool.true_and];exact (v1 (.cons _ _ _ rfl (.cons _ _ _ rfl (.cons _ _ _ rfl (.cons _ _ _ rfl (.cons _ _ _ rfl (.cons _ _ _ rfl (.nil)))))))))
     ·refine rn ?_;rw [ydg h k,hg6_1]
      first|exact (v1 (.cons _ _ _ rfl (.cons _ _ _ rfl (.cons _ _ _ rfl (.cons _ _ _ rfl (.cons _ _ _ rfl (.cons _ _ _ rfl (.nil))))))))|(rw [Bool.true_and];exact (v1 (.cons _ _ _ rfl (.cons _ _ _ rfl (.cons _ _ _ rfl (.cons _ _ _ rfl (.cons _ _ _ rfl (.cons _ _ _ rfl (.nil)))))))))
    ·refine rn ?_;refine zaa (fun j:Nat=>j≤(nmK h k).length∧(0 < j→okj h k 0=true)∧zei [] (nmK h k)=zei ((nmK h k).take j) ((nmK h k).drop j)) (fun j=>⟨[(45,iv j),(43,zci (nmK h k)),(44,iv ((nmK h k).map zfn).length),(3,bv (okj h k 0)),(6,.v (.map (some b33))),(29,iv k),(28,.agg (zjc h)),(1,pZ b1)],.map b33 (j8 zv3 (ydi ((nmK h k).take j))):: .box b1 28 (y9 h):: [.glob 2 156 y2,.glob 4 305 y3,.glob 5 308 z8],[]⟩) (fun j=>(nmK h k).length - j) 0 ⟨by omega,by omega,by simp⟩
      (v1 (.cons _ _ _ rfl (.cons _ _ _ rfl (.cons _ _ _ rfl (.cons _ _ _ rfl (.cons _ _ _ rfl (.cons _ _ _ rfl (.cons _ _ _ rfl (.cons _ _ _ rfl (.nil)))))))))) ?_
     rintro j ⟨hj,hok,hf⟩
     have hlk:=la.nm k
     refine rn ?_;refine y0 rfl (fun hc46=> ?_) (fun hc46=> ?_)
     ·have hj2:j < (nmK h k).length:=by simpa using hc46
      have hrow:(zci (nmK h k))= .list false 1 ((nmK h k).map zfn):=rfl
      have hrow2:((nmK h k).map zfn)[j]? =some (zfn (nmK h k)[j]):=by simp [hj2]
      have hd:=List.drop_eq_getElem_cons hj2
      refine zbz ?_;refine rn0 ?_;refine w9 ?_;refine zc9 ?_;refine w9 (y6 ?_)
      refine rn0 ?_;refine w9 ?_;refine ztz (⟨[(3,bv (okj h k 0 && zik (nmK h k)[j] && !ybf (nmK h k)[j] ((nmK h k).take j))),(8,sv (nmK h k)[j]),(45,iv j),(43,zci (nmK h k)),(44,iv ((nmK h k).map zfn).length),(6,.v (.map (some b33))),(29,iv k),(28,.agg (zjc h)),(1,pZ b1)],.map b33 (j8 zv3 (ydi ((nmK h k).take j))):: .box b1 28 (y9 h):: [.glob 2 156 y2,.glob 4 305 y3,.glob 5 308 z8],[]⟩) ?_ ?_
      ·refine rn ?_;refine v8 (fun hg10_1=> ?_) (fun hg10_1=> ?_)
       ·refine rn ?_;refine qv rfl rfl (y4 rfl rfl (y1.qt (y1.of_fun (yn1 ((nmK h k)[j]))) ((pt3 _ _ _ _ _).trans (.cons _ (pt3 _ _ _ _ _))))) ?_
        refine rn ?_;refine v8 (fun hg10_5=> ?_) (fun hg10_5=> ?_)
        ·refine rn ?_;refine qq rfl rfl (zo2 (enc:=zv3) (k:=(nmK h k)[j]) rfl rfl (zus _ _)) ?_
         refine rn ?_;first|(rw [hg10_1,hg10_5];exact (v1 (.cons _ _ _ rfl (.cons _ _ _ rfl (.cons _ _ _ rfl (.cons _ _ _ rfl (.cons _ _ _ rfl (.cons _ _ _ rfl (.cons _ _ _ rfl (.cons _ _ _ rfl (.cons _ _ _ rfl (.nil))))))))))))|(rw [hg10_1];exact (v1 (.cons _ _ _ rfl (.cons _ _ _ rfl (.cons _ _ _ rfl (.cons _ _ _ rfl (.cons _ _ _ rfl (.cons _ _ _ rfl (.cons _ _ _ rfl (.cons _ _ _ rfl (.cons _ _ _ rfl (.nil))))))))))))
        ·refine rn ?_;first|(rw [hg10_1,hg10_5];exact (v1 (.cons _ _ _ rfl (.cons _ _ _ rfl (.cons _ _ _ rfl (.cons _ _ _ rfl (.cons _ _ _ rfl (.cons _ _ _ rfl (.cons _ _ _ rfl (.cons _ _ _ rfl (.cons _ _ _ rfl (.nil))))))))))))|(rw [hg10_1];exact (v1 (.cons _ _ _ rfl (.cons _ _ _ rfl (.cons _ _ _ rfl (.cons _ _ _ rfl (.cons _ _ _ rfl (.cons _ _ _ rfl (.cons _ _ _ rfl (.cons _ _ _ rfl (.cons _ _ _ rfl (.nil))))))))))))
       ·refine rn ?_;first|(rw [hg10_1,hg10_5];exact (v1 (.cons _ _ _ rfl (.cons _ _ _ rfl (.cons _ _ _ rfl (.cons _ _ _ rfl (.cons _ _ _ rfl (.cons _ _ _ rfl (.cons _ _ _ rfl (.cons _ _ _ rfl (.cons _ _ _ rfl (.nil))))))))))))|(rw [hg10_1];exact (v1 (.cons _ _ _ rfl (.cons _ _ _ rfl (.cons _ _ _ rfl (.cons _ _ _ rfl (.cons _ _ _ rfl (.cons _ _ _ rfl (.cons _ _ _ rfl (.cons _ _ _ rfl (.cons _ _ _ rfl (.nil))))))))))))
      ·refine rn ?_;refine y0 rfl (fun hc61=> ?_) (fun hc61=> ?_)
       ·have hfl:(okj h k 0 && zik (nmK h k)[j] && !ybf (nmK h k)[j] ((nmK h k).take j))=false:=ybb hc61
        have hbad:okK h 4=false:=yjl hk4 (ymm (hf.trans (by rw [hd])) hfl)
        refine rn ?_;first
         |exact (v1 (.cons _ _ _ rfl (.cons _ _ _ rfl (.nil))))
         |(rw [hbad,←hfl];exact (v6 (zb2 (h1:= [_])) (v1 (.cons _ _ _ rfl (.cons _ _ _ rfl (.nil))))))
       ·obtain ⟨hok2,hw,hfresh⟩:=yjm (ybc hc61)
        refine rn ?_;refine z7 rfl (zjb (enc:=zv3) (k:=(nmK h k)[j]) rfl rfl rfl ?_)
        refine rn ?_;have hu:=zsn ((nmK h k)[j]) ((nmK h k).take j) (yjq.1 hfresh)
        rw [←List.take_succ_eq_append_getElem hj2] at hu
        exact ⟨j+1,⟨by omega,fun _=>hok2,by rw [hf,hd,zei,hw,List.take_succ_eq_append_getElem hj2];simp [hfresh]⟩,by simp only [hu,hok2,hw,hfresh,Bool.true_and,Bool.not_false];exact (v1 (.cons _ _ _ rfl (.cons _ _ _ rfl (.cons _ _ _ rfl (.cons _ _ _ rfl (.cons _ _ _ rfl (.cons _ _ _ rfl (.cons _ _ _ rfl (.cons _ _ _ rfl (.nil)))))))))),by omega⟩
     ·have hj3:j=(nmK h k).length:=by
       have:(nmK h k).length≤j:=by simpa using hc46
       omega
      refine rn ?_;have hend:=yjk (h:=h) (k:=k) (by rw [hf,hj3,List.drop_length];rfl)
      exact ⟨k+1,by omega,by rw [←hend];exact (v6 (zb2 (h1:= [_])) (v1 (.cons _ _ _ rfl (.cons _ _ _ rfl (.cons _ _ _ rfl (.cons _ _ _ rfl (.nil))))))),by omega⟩
   ·have hk4:k=4:=by simp at hc30;omega
    subst hk4
    refine rn ?_;first
     |exact (v1 (.cons _ _ _ rfl (.cons _ _ _ rfl (.nil))))
     |(rw [hbad,←hfl];exact (v6 (zb2 (h1:= [_])) (v1 (.cons _ _ _ rfl (.cons _ _ _ rfl (.nil))))))
  ·refine rn ?_;refine z7 rfl (y7 rfl fun b9=> ?_)
   refine rn ?_;refine v8 (fun hg16_1=> ?_) (fun hg16_1=> ?_)
   ·refine rn ?_;refine qv rfl rfl (y4 rfl rfl (y1.of_fun (yni h.evs (.fn (.func 193) [] [pZ b1]) (zdu h) (.box b9 231 [.fn (.func 188) [] [pZ b1]]:: .box b1 28 (y9 h):: [.glob 2 156 y2,.glob 4 305 y3,.glob 5 308 z8]) rfl (fun e he=>y1.qt (y1.of_acall (fs:= []) (cs:= [pZ b1]) (ye3 h b1 e (la.scans e he))) (pt1 _ _ _)) la.evs))) ?_
    refine rn ?_;refine v8 (fun hg16_7=> ?_) (fun hg16_7=> ?_)
    ·refine rn ?_;refine qv rfl rfl (y4 rfl rfl (y1.of_fun (yk3 h.ords (.fn (.func 196) [] [pZ b1,pZ b9]) (zvf h) (.box b9 231 [.fn (.func 188) [] [pZ b1]]:: .box b1 28 (y9 h):: [.glob 2 156 y2,.glob 4 305 y3,.glob 5 308 z8]) rfl (fun e he=>y1.qt (y1.of_acall (fs:= []) (cs:= [pZ b1,pZ b9]) (ye2 h b1 b9 e (la.ordts e he))) (pt1 _ _ _)) la.ords))) ?_
     refine rn ?_;refine v8 (fun hg16_13=> ?_) (fun hg16_13=> ?_)
     ·refine rn ?_;refine qv rfl rfl (y4 rfl rfl (y1.of_fun (yk4 h.mats (.fn (.func 198) [] [pZ b1,pZ b9]) (ybm h) (.box b9 231 [.fn (.func 188) [] [pZ b1]]:: .box b1 28 (y9 h):: [.glob 2 156 y2,.glob 4 305 y3,.glob 5 308 z8]) rfl (fun e he=>y1.qt (y1.of_acall (fs:= []) (cs:= [pZ b1,pZ b9]) (ye1 h b1 b9 e (la.matts e he))) (pt1 _ _ _)) la.mats))) ?_
      refine rn ?_;refine v8 (fun hg16_19=> ?_) (fun hg16_19=> ?_)
      ·refine rn ?_;refine qv rfl rfl (y4 rfl rfl (y1.of_fun (yk2 h.wants (.fn (.func 200) [] [pZ b1]) (yc3 h) (.box b9 231 [.fn (.func 188) [] [pZ b1]]:: .box b1 28 (y9 h):: [.glob 2 156 y2,.glob 4 305 y3,.glob 5 308 z8]) rfl (fun e he=>y1.qt (y1.of_acall (fs:= []) (cs:= [pZ b1]) (ye0 h b1 e)) (pt1 _ _ _)) la.wants))) ?_
       refine rn ?_;refine ⟨fun l h=>(by cases h),?_⟩
       exact zak rfl (.drop [_,_] _ _) ⟨rfl,bvz7_4890⟩
      ·refine rn ?_;refine ⟨fun l h=>(by cases h),?_⟩
       exact zak rfl (.drop [_,_] _ _) ⟨rfl,bvz7_4890⟩
     ·refine rn ?_;refine ⟨fun l h=>(by cases h),?_⟩
      exact zak rfl (.drop [_,_] _ _) ⟨rfl,bvz7_4890⟩
    ·refine rn ?_;refine ⟨fun l h=>(by cases h),?_⟩
     exact zak rfl (.drop [_,_] _ _) ⟨rfl,bvz7_4890⟩
   ·refine rn ?_;refine ⟨fun l h=>(by cases h),?_⟩
    exact zak rfl (.drop [_,_] _ _) ⟨rfl,bvz7_4890⟩
end Go.Proofs
