/- The walks of stableCmpFunc, SortStableFunc. Conditions: none. -/
import Derived.Test.YtcaijocpofcbdaaGreatDoorGBaG
set_option maxHeartbeats 4000000
set_option linter.unusedSectionVars false
set_option linter.unusedSimpArgs false
set_option linter.unusedVariables false
set_option maxRecDepth 10000
namespace Go.Proofs
open Go Go.Ab
attribute [local irreducible] QR QV OE zca aw zcu zbh za3 zam thn ze6 zdj jch zeh
open Go.H
theorem ydk (s:SV) (l:List zi2) (cv:AV) (hc:yc4 cv) (hl:l.length≤1000000000):y9 Tryz.prog 197 [.v s.v,iv (l.length:Int),cv] [.row s.v 3 178 ((l).map zbu)] (fun r h'=>∃c,zoa zyt l c∧h'= [.row s.v 3 178 ((c).map zbu)]∧r= .tup []):=by
 refine z6 Tryz.func197 rfl rfl rfl ?_
 refine rn ?_;refine zdc (fun z:Nat×List zi2=>St1 zyt 20 l z.2 z.1∧z.2.length=l.length) (fun z=>⟨[(6,iv 20),(7,iv (z.1:Int)),(8,iv ((z.1+20:Nat):Int)),(0,.v s.v),(1,iv (l.length:Int)),(2,cv)],.row s.v 3 178 ((z.2).map zbu):: [],[]⟩) (fun z=>l.length - z.1) (0,l) ⟨ylt 20 l,rfl⟩ es ?_
 rintro ⟨q,c⟩ ⟨hs,hcl⟩
 simp only at hs hcl
 show aw _ _ _ _ _ ⟨[(6,iv 20),(7,iv (q:Int)),(8,iv ((q+20:Nat):Int)),(0,.v s.v),(1,iv (l.length:Int)),(2,cv)],.row s.v 3 178 ((c).map zbu):: [],[]⟩
 refine rn ?_;refine z8 rfl (fun hc13=> ?_) (fun hc13=> ?_)
 ·have hb:q+20≤c.length:=by have q0:((q+20:Nat):Int)≤(l.length:Int):=oT hc13;omega
  obtain ⟨P,M,Z,rfl,hP,hM,hs'⟩:=zzh hs hb
  have hcl2:=hcl
  simp only [List.length_append] at hcl2
  refine rn ?_;refine z7 rfl (w8 rfl rfl (y3.of_fun (zxa s P M Z q (q+20) cv hc hP (by omega) (by omega))) rfl ?_)
  rintro _ _ ⟨rfl,rfl⟩
  refine u3 (k6 ?_)
  refine w6 (y6 ?_)
  refine q1 ?_;refine q1 ?_;refine u3 (k6 ?_)
  refine y6 ?_;refine q1 ?_;refine q1 ?_;refine qq rfl rfl (za7 (k7 rfl rfl rfl (by omega)) (show iv _=iv ((q+20+20:Nat):Int) from congrArg iv (by omega))) ?_
  refine rn ?_;exact ⟨(q+20,P++(isL zce M++Z)),⟨hs',by simp only [List.length_append,zg0];omega⟩,eA,by simp only;omega⟩
 ·have hb:c.length < q+20:=by have q0:¬((q+20:Nat):Int)≤(l.length:Int):=oF hc13;omega
  obtain ⟨P,M,rfl,hP,hs2⟩:=ydo hs hb
  have hcl2:=hcl
  simp only [List.length_append] at hcl2
  rw [show P++M=P++(M++ []) by rw [List.append_nil]]
  refine rn ?_;refine z7 rfl (w8 rfl rfl (y3.of_fun (zxa s P M [] q l.length cv hc hP (by omega) (by simp only [List.length_append,List.length_nil];omega))) rfl ?_)
  rintro _ _ ⟨rfl,rfl⟩
  refine rn ?_;refine zdc (fun z:Nat×List zi2=>1≤z.1∧St2 zyt z.1 l z.2∧z.2.length=l.length) (fun z=>⟨[(6,iv (z.1:Int)),(0,.v s.v),(1,iv (l.length:Int)),(2,cv)],.row s.v 3 178 ((z.2).map zbu):: [],[]⟩) (fun z=>l.length - z.1) (20,P++isL zce M) ⟨by show 1≤20;decide,hs2,by simp only [List.length_append,zg0];omega⟩ (by rw [List.append_nil];exact es) ?_
  rintro ⟨bs,c⟩ ⟨h0,hs0,hcl⟩
  simp only at h0 hs0 hcl
  clear hs hb hs2 hcl2
  show aw _ _ _ _ _ ⟨[(6,iv (bs:Int)),(0,.v s.v),(1,iv (l.length:Int)),(2,cv)],.row s.v 3 178 ((c).map zbu):: [],[]⟩
  refine rn ?_;refine z8 rfl (fun hc30=> ?_) (fun hc30=> ?_)
  ·have hbs:bs < l.length:=by have q0:(bs:Int) < (l.length:Int):=oT hc30;omega
   refine zad ?_;refine k6 ?_;refine zae ?_;refine w6 (y6 ?_)
   refine q1 ?_;refine qq rfl rfl (za7 (k7 rfl rfl rfl (by omega)) (show iv _=iv ((2 * bs:Nat):Int) from congrArg iv (by omega))) ?_
   refine rn ?_;refine zdc (fun z:Nat×List zi2=>St3 zyt bs l z.2 z.1∧z.2.length=l.length) (fun z=>⟨[(7,iv (z.1:Int)),(8,iv ((z.1+2 * bs:Nat):Int)),(6,iv (bs:Int)),(0,.v s.v),(1,iv (l.length:Int)),(2,cv)],.row s.v 3 178 ((z.2).map zbu):: [],[]⟩) (fun z=>l.length - z.1) (0,c) ⟨yls hs0,hcl⟩ (by simp only [Nat.zero_add];exact es) ?_
   rintro ⟨q,d⟩ ⟨hs,hdl⟩
   simp only at hs hdl
   have hqd:=ydl hs
   show aw _ _ _ _ _ ⟨[(7,iv (q:Int)),(8,iv ((q+2 * bs:Nat):Int)),(6,iv (bs:Int)),(0,.v s.v),(1,iv (l.length:Int)),(2,cv)],.row s.v 3 178 ((d).map zbu):: [],[]⟩
   refine rn ?_;refine z8 rfl (fun hc35=> ?_) (fun hc35=> ?_)
   ·have hb:q+2 * bs≤d.length:=by have q0:((q+2 * bs:Nat):Int)≤(l.length:Int):=oT hc35;omega
    obtain ⟨P,L,R,Z,rfl,hP,hL,hR,sL,sR,hs'⟩:=zzg h0 hs hb
    have hdl2:=hdl
    simp only [List.length_append] at hdl2
    refine zad ?_;refine k6 ?_;refine zae ?_;refine w6 (y6 ?_)
    refine q1 ?_;refine q1 ?_;refine q1 ?_;refine q1 ?_;refine qq rfl rfl (za7 (k7 rfl rfl rfl (by omega)) (show iv _=iv ((q+bs:Nat):Int) from congrArg iv (by omega))) ?_
    refine rn ?_;refine z7 rfl (w8 rfl rfl (y3.of_fun (ylq s cv hc (L.length+R.length+1) P L R Z q (q+bs) (q+2 * bs) (by omega) hP (by omega) (by omega) (by omega) (by omega) sL sR (by omega))) rfl ?_)
    rintro _ _ ⟨rfl,rfl⟩
    refine u3 (k6 ?_)
    refine w6 (y6 ?_)
    refine q1 ?_;refine q1 ?_;refine u3 (k6 ?_)
    refine y6 ?_;refine q1 ?_;refine q1 ?_;refine q1 ?_;refine qq rfl rfl (za7 (k7 rfl rfl rfl (by omega)) (show iv _=iv ((q+2 * bs+2 * bs:Nat):Int) from congrArg iv (by omega))) ?_
    refine rn ?_;exact ⟨(q+2 * bs,P++(mrg zce L R++Z)),⟨hs',by simp only [List.length_append,zef];omega⟩,eA,by simp only;omega⟩
   ·have hb:d.length < q+2 * bs:=by have q0:¬((q+2 * bs:Nat):Int)≤(l.length:Int):=oF hc35;omega
    have hen:=ydm hs hb
    refine zg4 ?_;refine zgv ?_;refine zgv ?_;refine zdk ?_;refine k6 ?_;refine w6 ?_;refine w6 (y6 ?_)
    refine q1 ?_;refine q1 ?_;refine qq rfl rfl (za7 (k7 rfl rfl rfl (by omega)) (show iv _=iv ((q+bs:Nat):Int) from congrArg iv (by omega))) ?_
    refine rn ?_;refine z8 rfl (fun hc54=> ?_) (fun hc54=> ?_)
    ·have hmn:q+bs < d.length:=by have q0:((q+bs:Nat):Int) < (l.length:Int):=oT hc54;omega
     obtain ⟨_,P,L,R,rfl,hP,hL,sL,sR,hs2⟩:=hen.resolve_left (fun h=>by omega)
     have hdl2:=hdl
     simp only [List.length_append] at hdl2 hmn
     rw [show P++(L++R)=P++(L++(R++ [])) by rw [List.append_nil]]
     refine rn ?_;refine z7 rfl (w8 rfl rfl (y3.of_fun (ylq s cv hc (L.length+R.length+1) P L R [] q (q+bs) l.length (by omega) hP (by omega) (by omega) (by omega) (by omega) sL sR (by simp only [List.length_append,List.length_nil];omega))) rfl ?_)
     rintro _ _ ⟨rfl,rfl⟩
     refine u3 (k6 ?_)
     refine y6 ?_;refine q1 ?_;refine qq rfl rfl (za7 (k7 rfl rfl rfl (by omega)) (show iv _=iv ((2 * bs:Nat):Int) from congrArg iv (by omega))) ?_
     refine rn ?_;exact ⟨(2 * bs,P++mrg zce L R),⟨by simp only;omega,hs2,by simp only [List.length_append,zef];omega⟩,by rw [List.append_nil];exact eA,by simp only;omega⟩
    ·have hmn:d.length≤q+bs:=by have q0:¬((q+bs:Nat):Int) < (l.length:Int):=oF hc54;omega
     obtain ⟨_,hs2⟩:=hen.resolve_right (fun h=>by have:=h.1;omega)
     refine zad ?_;refine k6 ?_;refine y6 ?_;refine q1 ?_;refine qq rfl rfl (za7 (k7 rfl rfl rfl (by omega)) (show iv _=iv ((2 * bs:Nat):Int) from congrArg iv (by omega))) ?_
     refine rn ?_;exact ⟨(2 * bs,d),⟨by simp only;omega,hs2,hdl⟩,eA,by simp only;omega⟩
  ·have hbs:c.length≤bs:=by have q0:¬(bs:Int) < (l.length:Int):=oF hc30;omega
   refine rn ?_;refine yd6 ?_;exact ⟨c,ydn h0 hs0 hbs,rfl,rfl⟩
theorem zqk (s:SV) (l:List zi2) (cv:AV) (hc:yc4 cv) (hl:l.length≤1000000000):y9 Tryz.prog 157 [.v s.v,cv] [.row s.v 3 178 ((l).map zbu)] (fun r h'=>∃c,zoa zyt l c∧h'= [.row s.v 3 178 ((c).map zbu)]∧r= .tup []):=by
 refine z6 Tryz.func157 rfl rfl rfl ?_
 refine y6 ?_;refine q1 ?_;refine q1 ?_;refine qq rfl rfl (za7 (zl8 rfl) (show iv _=iv (l.length:Int) from by rw [oM])) ?_
 refine rn ?_;refine z7 rfl (w8 rfl rfl (y3.of_fun (ydk s l cv hc hl)) rfl ?_)
 rintro _ _ ⟨c,hst,rfl,rfl⟩
 refine rn ?_;refine yd6 ?_;exact ⟨c,hst,rfl,rfl⟩
theorem ymd (x y:zi2):y9 Tryz.prog 156 [.agg (zbu x),.agg (zbu y)] [] (fun r h'=>h'= []∧r=iv (zce x y)):=by
 refine z6 Tryz.func156 rfl rfl rfl ?_
 have hx:=x.2
 have hy:=y.2
 refine rn ?_;refine z7 rfl (x9 rfl rfl rfl fun b2=> ?_)
 refine z7 rfl (x9 rfl rfl rfl fun b3=> ?_)
 refine q1 ?_;refine u3 (k6 ?_)
 refine w6 (y6 ?_)
 refine q1 ?_;refine q1 ?_;refine q1 ?_;refine q1 ?_;refine qq rfl rfl (k7 rfl rfl rfl (by omega)) ?_
 refine rn ?_;refine rq 2 ?_
 exact ⟨rfl,rfl⟩
theorem yiu:yc4 (.fn (.func 156) [] []):=fun x y=>y3.of_fun (ymd x y)
theorem yhm (s:SV) (n:Nat) (l:List Acc) (hk:∀a∈l,0≤a.o∧a.o < n) (hn:n≤1000000) (hl:l.length≤1000000000):y9 Tryz.prog 157 [.v s.v,.fn (.func 156) [] []] [.row s.v 3 178 (l.map accR)] (fun r h'=>h'= [.row s.v 3 178 ((zp9 n l).map accR)]∧r= .tup []):=by
 obtain ⟨lB,e⟩:=zyn hn hk
 have hlen:lB.length=l.length:=by rw [←e,oM]
 have h1:=zqk s lB _ yiu (by omega)
 have e1:lB.map zbu=l.map accR:=by rw [←e,List.map_map];rfl
 rw [e1] at h1
 refine h1.mono ?_;rintro _ _ ⟨c,hst,rfl,rfl⟩
 exact ⟨by rw [←zzf e hst hk,List.map_map];rfl,rfl⟩
instance:Chk2 Tryz.prog 297:=⟨fun e w a b=>by kernel_rfl⟩
instance:Chk3 Tryz.prog 299:=⟨fun e w a b c=>by kernel_rfl⟩
abbrev mpv (r:Nat):AV:= .v (.map (some r))
abbrev nmp:AV:= .v (.map none)
abbrev zty (v:Ver):AV:= .agg (yg8 v)
instance:ZV (.agg #[.int .i64 0,.int .i64 0]) (zty ⟨0,0⟩):=ZV.agg2
abbrev zbf (h:Hist):List AV:=x4 h++ [nmp,nmp,nmp,nmp,nmp]
abbrev yan (h:Hist) (r1 r2 r3 r4 r5:Nat):List AV:=x4 h++ [mpv r1,mpv r2,mpv r3,mpv r4,mpv r5]
abbrev zcd (bl:Nat) (h:Hist) (p:List Ev) (r1 r2 r3 r4 r5:Nat) (W:List Res):List Res:= .box bl 203 (yan h r1 r2 r3 r4 r5):: .map r1 (j9 zbm (zbe bv (zyw p))):: .map r2 (j9 zbm (zbe bv (zys p)))::
 .map r3 (j9 zda (zbe iv (ztt p))):: .map r4 (j9 zda (zbe zty (zn7 p))):: .map r5 (j9 zej (zbe bv (zyr p)))::W
def zaw:Option Nat→AV
 |some i=> .tup [iv i,bv true]
 |none=> .tup [iv 0,bv false]
theorem zo9 {full:Bool} (l:List Int) (fv:AV) (p:Int→Bool) (G:List Res) (hp:∀a∈l,y3 Tryz.prog fv [iv a] G (fun r h'=>h'=G∧r=bv (p a))) (hlen:l.length≤4611686018427387904):y9 Tryz.prog 76 [.list full 1 (l.map za8),fv] G (fun r h'=>h'=G∧r=iv (za5 p 0 l)):=by
 refine z6 Tryz.func76 rfl rfl rfl ?_
 refine rn ?_;refine u5 (fun k:Nat=>k≤l.length∧za5 p 0 l=za5 p k (l.drop k)) (fun k=>⟨[(8,iv k),(7,iv (l.map za8).length),(0,.list full 1 (l.map za8)),(1,fv)],G,[]⟩) (fun k=>l.length - k) 0 ⟨Nat.zero_le _,by simp⟩
  (x7 (.cons _ _ _ rfl (.cons _ _ _ rfl (.cons _ _ _ rfl (.cons _ _ _ rfl (.nil)))))) ?_
 rintro k ⟨hk,hnot⟩
 refine rn ?_;refine z8 rfl (fun hc9=> ?_) (fun hc9=> ?_)
 ·have hk2:k < l.length:=by simpa using hc9
  have hrow:(l.map za8)[k]? =some (za8 l[k]):=by simp [hk2]
  have hd:=List.drop_eq_getElem_cons hk2
  refine rn ?_;refine qv rfl rfl (y4 rfl rfl (hp l[k] (by simp))) ?_
  refine rn ?_;refine z8 rfl (fun hc16=> ?_) (fun hc16=> ?_)
  ·refine rn ?_;exact j6 rfl (.refl _ _) ⟨rfl,by rw [hnot,hd,za5,if_pos hc16];rfl⟩
  ·refine rn ?_;exact ⟨k+1,⟨by omega,by rw [hnot,hd,za5,if_neg (by simp [hc16])]⟩,(x7 (.cons _ _ _ rfl (.cons _ _ _ rfl (.cons _ _ _ rfl (.cons _ _ _ rfl (.nil)))))),by omega⟩
 ·have hk3:k=l.length:=by
   have:l.length≤k:=by simpa using hc9
   omega
  refine rn ?_;exact j6 rfl (.refl _ _) ⟨rfl,by rw [hnot,hk3,List.drop_length,za5];rfl⟩
theorem zf0 {full:Bool} (l:List Int) (fv:AV) (p:Int→Bool) (G:List Res) (hp:∀a∈l,y3 Tryz.prog fv [iv a] G (fun r h'=>h'=G∧r=bv (p a))) (hlen:l.length≤4611686018427387904):y9 Tryz.prog 171 [.list full 1 (l.map za8),fv] G (fun r h'=>h'=G∧r=bv (l.any p)):=by
 refine z6 Tryz.func171 rfl rfl rfl ?_
 refine rn ?_;refine qv rfl rfl (y4 rfl rfl (y3.of_fun (zo9 l _ p G hp hlen))) ?_
 refine rn ?_;exact j6 rfl (.refl _ _) ⟨rfl,by simp only [←zd2 p l 0];rfl⟩
theorem zyk (a:Int) (fv:AV) (v:Bool) (b:Nat) (G:List Res) (hp:y3 Tryz.prog fv [iv a] G (fun r h'=>h'=G∧r=bv v)):y9 Tryz.prog 172 [iv a,pZ b] (.box b 42 [fv]::G) (fun r h'=>h'= .box b 42 [fv]::G∧r=bv (!v)):=by
 refine z6 Tryz.func172 rfl rfl rfl ?_
 refine rn ?_;refine qv rfl rfl (y4 rfl rfl (y3.quiet (R:=fun x=>x=bv v) (h2:= [_]) (List.perm_append_comm (l₁:= [_])) hp)) ?_
 refine rn ?_;exact j6 rfl (.refl _ _) ⟨rfl,rfl⟩
theorem yky {full:Bool} (l:List Int) (fv:AV) (p:Int→Bool) (G:List Res) (hone:fv.cellsOf=some [fv]) (hp:∀a∈l,y3 Tryz.prog fv [iv a] G (fun r h'=>h'=G∧r=bv (p a))) (hlen:l.length≤4611686018427387904):y9 Tryz.prog 132 [.list full 1 (l.map za8),fv] G (fun r h'=>h'=G∧r=bv (l.all p)):=by
 refine z6 Tryz.func132 rfl rfl rfl ?_
 refine rn ?_;refine z7 rfl (x9 rfl hone rfl fun b3=> ?_)
 refine rn ?_;refine qv rfl rfl (y4 rfl rfl (y3.of_fun (zf0 l _ (fun a=> !p a) (.box b3 42 [fv]::G) (fun a ha=>y3.of_acall (fs:= []) (cs:= [pZ b3]) (zyk a fv (p a) b3 G (hp a ha))) hlen))) ?_
 refine rn ?_;exact j6 rfl (.drop1 _ _ _) ⟨rfl,by simp only [←zg5 p l];rfl⟩
theorem zrh {full:Bool} (l:List Ev) (fv:AV) (p:Ev→Bool) (G:List Res) (hp:∀a∈l,y3 Tryz.prog fv [.agg (evR a)] G (fun r h'=>h'=G∧r=bv (p a))) (hlen:l.length≤4611686018427387904):y9 Tryz.prog 202 [.list full 9 (l.map evR),fv] G (fun r h'=>h'=G∧r=iv (za5 p 0 l)):=by
 refine z6 Tryz.func202 rfl rfl rfl ?_
 refine rn ?_;refine u5 (fun k:Nat=>k≤l.length∧za5 p 0 l=za5 p k (l.drop k)) (fun k=>⟨[(8,iv k),(7,iv (l.map evR).length),(0,.list full 9 (l.map evR)),(1,fv)],G,[]⟩) (fun k=>l.length - k) 0 ⟨Nat.zero_le _,by simp⟩
  (x7 (.cons _ _ _ rfl (.cons _ _ _ rfl (.cons _ _ _ rfl (.cons _ _ _ rfl (.nil)))))) ?_
 rintro k ⟨hk,hnot⟩
 refine rn ?_;refine z8 rfl (fun hc9=> ?_) (fun hc9=> ?_)
 ·have hk2:k < l.length:=by simpa using hc9
  have hrow:(l.map evR)[k]? =some (evR l[k]):=by simp [hk2]
  have hd:=List.drop_eq_getElem_cons hk2
  refine rn ?_;refine qv rfl rfl (y4 rfl rfl (hp l[k] (by simp))) ?_
  refine rn ?_;refine z8 rfl (fun hc16=> ?_) (fun hc16=> ?_)
  ·refine rn ?_;exact j6 rfl (.refl _ _) ⟨rfl,by rw [hnot,hd,za5,if_pos hc16];rfl⟩
  ·refine rn ?_;exact ⟨k+1,⟨by omega,by rw [hnot,hd,za5,if_neg (by simp [hc16])]⟩,(x7 (.cons _ _ _ rfl (.cons _ _ _ rfl (.cons _ _ _ rfl (.cons _ _ _ rfl (.nil)))))),by omega⟩
 ·have hk3:k=l.length:=by
   have:l.length≤k:=by simpa using hc9
   omega
  refine rn ?_;exact j6 rfl (.refl _ _) ⟨rfl,by rw [hnot,hk3,List.drop_length,za5];rfl⟩
theorem zgr {full:Bool} (l:List Ev) (fv:AV) (p:Ev→Bool) (G:List Res) (hp:∀a∈l,y3 Tryz.prog fv [.agg (evR a)] G (fun r h'=>h'=G∧r=bv (p a))) (hlen:l.length≤4611686018427387904):y9 Tryz.prog 173 [.list full 9 (l.map evR),fv] G (fun r h'=>h'=G∧r=bv (l.any p)):=by
 refine z6 Tryz.func173 rfl rfl rfl ?_
 refine rn ?_;refine qv rfl rfl (y4 rfl rfl (y3.of_fun (zrh l _ p G hp hlen))) ?_
 refine rn ?_;exact j6 rfl (.refl _ _) ⟨rfl,by simp only [←zd2 p l 0];rfl⟩
theorem ybw (a:Ev) (fv:AV) (v:Bool) (b:Nat) (G:List Res) (hp:y3 Tryz.prog fv [.agg (evR a)] G (fun r h'=>h'=G∧r=bv v)):y9 Tryz.prog 174 [.agg (evR a),pZ b] (.box b 210 [fv]::G) (fun r h'=>h'= .box b 210 [fv]::G∧r=bv (!v)):=by
 refine z6 Tryz.func174 rfl rfl rfl ?_
 refine rn ?_;refine z7 rfl (x9 rfl rfl rfl fun b2=> ?_)
 refine rn ?_;refine qv rfl rfl (y4 rfl rfl (y3.quiet (R:=fun x=>x=bv v) (h2:= [_,_]) (List.perm_append_comm (l₁:= [_,_])) hp)) ?_
 refine rn ?_;exact j6 rfl (.drop1 _ _ _) ⟨rfl,rfl⟩
theorem yne {full:Bool} (l:List Ev) (fv:AV) (p:Ev→Bool) (G:List Res) (hone:fv.cellsOf=some [fv]) (hp:∀a∈l,y3 Tryz.prog fv [.agg (evR a)] G (fun r h'=>h'=G∧r=bv (p a))) (hlen:l.length≤4611686018427387904):y9 Tryz.prog 135 [.list full 9 (l.map evR),fv] G (fun r h'=>h'=G∧r=bv (l.all p)):=by
 refine z6 Tryz.func135 rfl rfl rfl ?_
 refine rn ?_;refine z7 rfl (x9 rfl hone rfl fun b3=> ?_)
 refine rn ?_;refine qv rfl rfl (y4 rfl rfl (y3.of_fun (zgr l _ (fun a=> !p a) (.box b3 210 [fv]::G) (fun a ha=>y3.of_acall (fs:= []) (cs:= [pZ b3]) (ybw a fv (p a) b3 G (hp a ha))) hlen))) ?_
 refine rn ?_;exact j6 rfl (.drop1 _ _ _) ⟨rfl,by simp only [←zg5 p l];rfl⟩
theorem zit {full:Bool} (l:List Ord) (fv:AV) (p:Ord→Bool) (G:List Res) (hp:∀a∈l,y3 Tryz.prog fv [.agg (zb7 a)] G (fun r h'=>h'=G∧r=bv (p a))) (hlen:l.length≤4611686018427387904):y9 Tryz.prog 159 [.list full 2 (l.map zb7),fv] G (fun r h'=>h'=G∧r=iv (za5 p 0 l)):=by
 refine z6 Tryz.func159 rfl rfl rfl ?_
 refine rn ?_;refine u5 (fun k:Nat=>k≤l.length∧za5 p 0 l=za5 p k (l.drop k)) (fun k=>⟨[(8,iv k),(7,iv (l.map zb7).length),(0,.list full 2 (l.map zb7)),(1,fv)],G,[]⟩) (fun k=>l.length - k) 0 ⟨Nat.zero_le _,by simp⟩
  (x7 (.cons _ _ _ rfl (.cons _ _ _ rfl (.cons _ _ _ rfl (.cons _ _ _ rfl (.nil)))))) ?_
 rintro k ⟨hk,hnot⟩
 refine rn ?_;refine z8 rfl (fun hc9=> ?_) (fun hc9=> ?_)
 ·have hk2:k < l.length:=by simpa using hc9
  have hrow:(l.map zb7)[k]? =some (zb7 l[k]):=by simp [hk2]
  have hd:=List.drop_eq_getElem_cons hk2
  refine rn ?_;refine qv rfl rfl (y4 rfl rfl (hp l[k] (by simp))) ?_
  refine rn ?_;refine z8 rfl (fun hc16=> ?_) (fun hc16=> ?_)
  ·refine rn ?_;exact j6 rfl (.refl _ _) ⟨rfl,by rw [hnot,hd,za5,if_pos hc16];rfl⟩
  ·refine rn ?_;exact ⟨k+1,⟨by omega,by rw [hnot,hd,za5,if_neg (by simp [hc16])]⟩,(x7 (.cons _ _ _ rfl (.cons _ _ _ rfl (.cons _ _ _ rfl (.cons _ _ _ rfl (.nil)))))),by omega⟩
 ·have hk3:k=l.length:=by
   have:l.length≤k:=by simpa using hc9
   omega
  refine rn ?_;exact j6 rfl (.refl _ _) ⟨rfl,by rw [hnot,hk3,List.drop_length,za5];rfl⟩
theorem zd4 {full:Bool} (l:List Ord) (fv:AV) (p:Ord→Bool) (G:List Res) (hp:∀a∈l,y3 Tryz.prog fv [.agg (zb7 a)] G (fun r h'=>h'=G∧r=bv (p a))) (hlen:l.length≤4611686018427387904):y9 Tryz.prog 185 [.list full 2 (l.map zb7),fv] G (fun r h'=>h'=G∧r=bv (l.any p)):=by
 refine z6 Tryz.func185 rfl rfl rfl ?_
 refine rn ?_;refine qv rfl rfl (y4 rfl rfl (y3.of_fun (zit l _ p G hp hlen))) ?_
 refine rn ?_;exact j6 rfl (.refl _ _) ⟨rfl,by simp only [←zd2 p l 0];rfl⟩
theorem zyi (a:Ord) (fv:AV) (v:Bool) (b:Nat) (G:List Res) (hp:y3 Tryz.prog fv [.agg (zb7 a)] G (fun r h'=>h'=G∧r=bv v)):y9 Tryz.prog 186 [.agg (zb7 a),pZ b] (.box b 212 [fv]::G) (fun r h'=>h'= .box b 212 [fv]::G∧r=bv (!v)):=by
 refine z6 Tryz.func186 rfl rfl rfl ?_
 refine rn ?_;refine z7 rfl (x9 rfl rfl rfl fun b2=> ?_)
 refine rn ?_;refine qv rfl rfl (y4 rfl rfl (y3.quiet (R:=fun x=>x=bv v) (h2:= [_,_]) (List.perm_append_comm (l₁:= [_,_])) hp)) ?_
 refine rn ?_;exact j6 rfl (.drop1 _ _ _) ⟨rfl,rfl⟩
theorem ykw {full:Bool} (l:List Ord) (fv:AV) (p:Ord→Bool) (G:List Res) (hone:fv.cellsOf=some [fv]) (hp:∀a∈l,y3 Tryz.prog fv [.agg (zb7 a)] G (fun r h'=>h'=G∧r=bv (p a))) (hlen:l.length≤4611686018427387904):y9 Tryz.prog 138 [.list full 2 (l.map zb7),fv] G (fun r h'=>h'=G∧r=bv (l.all p)):=by
 refine z6 Tryz.func138 rfl rfl rfl ?_
 refine rn ?_;refine z7 rfl (x9 rfl hone rfl fun b3=> ?_)
 refine rn ?_;refine qv rfl rfl (y4 rfl rfl (y3.of_fun (zd4 l _ (fun a=> !p a) (.box b3 212 [fv]::G) (fun a ha=>y3.of_acall (fs:= []) (cs:= [pZ b3]) (zyi a fv (p a) b3 G (hp a ha))) hlen))) ?_
 refine rn ?_;exact j6 rfl (.drop1 _ _ _) ⟨rfl,by simp only [←zg5 p l];rfl⟩
theorem zo8 {full:Bool} (l:List Mat) (fv:AV) (p:Mat→Bool) (G:List Res) (hp:∀a∈l,y3 Tryz.prog fv [.agg (zcc a)] G (fun r h'=>h'=G∧r=bv (p a))) (hlen:l.length≤4611686018427387904):y9 Tryz.prog 205 [.list full 4 (l.map zcc),fv] G (fun r h'=>h'=G∧r=iv (za5 p 0 l)):=by
 refine z6 Tryz.func205 rfl rfl rfl ?_
 refine rn ?_;refine u5 (fun k:Nat=>k≤l.length∧za5 p 0 l=za5 p k (l.drop k)) (fun k=>⟨[(8,iv k),(7,iv (l.map zcc).length),(0,.list full 4 (l.map zcc)),(1,fv)],G,[]⟩) (fun k=>l.length - k) 0 ⟨Nat.zero_le _,by simp⟩
  (x7 (.cons _ _ _ rfl (.cons _ _ _ rfl (.cons _ _ _ rfl (.cons _ _ _ rfl (.nil)))))) ?_
 rintro k ⟨hk,hnot⟩
 refine rn ?_;refine z8 rfl (fun hc9=> ?_) (fun hc9=> ?_)
 ·have hk2:k < l.length:=by simpa using hc9
  have hrow:(l.map zcc)[k]? =some (zcc l[k]):=by simp [hk2]
  have hd:=List.drop_eq_getElem_cons hk2
  refine rn ?_;refine qv rfl rfl (y4 rfl rfl (hp l[k] (by simp))) ?_
  refine rn ?_;refine z8 rfl (fun hc16=> ?_) (fun hc16=> ?_)
  ·refine rn ?_;exact j6 rfl (.refl _ _) ⟨rfl,by rw [hnot,hd,za5,if_pos hc16];rfl⟩
  ·refine rn ?_;exact ⟨k+1,⟨by omega,by rw [hnot,hd,za5,if_neg (by simp [hc16])]⟩,(x7 (.cons _ _ _ rfl (.cons _ _ _ rfl (.cons _ _ _ rfl (.cons _ _ _ rfl (.nil)))))),by omega⟩
 ·have hk3:k=l.length:=by
   have:l.length≤k:=by simpa using hc9
   omega
  refine rn ?_;exact j6 rfl (.refl _ _) ⟨rfl,by rw [hnot,hk3,List.drop_length,za5];rfl⟩
theorem zfz {full:Bool} (l:List Mat) (fv:AV) (p:Mat→Bool) (G:List Res) (hp:∀a∈l,y3 Tryz.prog fv [.agg (zcc a)] G (fun r h'=>h'=G∧r=bv (p a))) (hlen:l.length≤4611686018427387904):y9 Tryz.prog 187 [.list full 4 (l.map zcc),fv] G (fun r h'=>h'=G∧r=bv (l.any p)):=by
 refine z6 Tryz.func187 rfl rfl rfl ?_
 refine rn ?_;refine qv rfl rfl (y4 rfl rfl (y3.of_fun (zo8 l _ p G hp hlen))) ?_
 refine rn ?_;exact j6 rfl (.refl _ _) ⟨rfl,by simp only [←zd2 p l 0];rfl⟩
theorem zyj (a:Mat) (fv:AV) (v:Bool) (b:Nat) (G:List Res) (hp:y3 Tryz.prog fv [.agg (zcc a)] G (fun r h'=>h'=G∧r=bv v)):y9 Tryz.prog 188 [.agg (zcc a),pZ b] (.box b 214 [fv]::G) (fun r h'=>h'= .box b 214 [fv]::G∧r=bv (!v)):=by
 refine z6 Tryz.func188 rfl rfl rfl ?_
 refine rn ?_;refine z7 rfl (x9 rfl rfl rfl fun b2=> ?_)
 refine rn ?_;refine qv rfl rfl (y4 rfl rfl (y3.quiet (R:=fun x=>x=bv v) (h2:= [_,_]) (List.perm_append_comm (l₁:= [_,_])) hp)) ?_
 refine rn ?_;exact j6 rfl (.drop1 _ _ _) ⟨rfl,rfl⟩
theorem ykx {full:Bool} (l:List Mat) (fv:AV) (p:Mat→Bool) (G:List Res) (hone:fv.cellsOf=some [fv]) (hp:∀a∈l,y3 Tryz.prog fv [.agg (zcc a)] G (fun r h'=>h'=G∧r=bv (p a))) (hlen:l.length≤4611686018427387904):y9 Tryz.prog 140 [.list full 4 (l.map zcc),fv] G (fun r h'=>h'=G∧r=bv (l.all p)):=by
 refine z6 Tryz.func140 rfl rfl rfl ?_
 refine rn ?_;refine z7 rfl (x9 rfl hone rfl fun b3=> ?_)
 refine rn ?_;refine qv rfl rfl (y4 rfl rfl (y3.of_fun (zfz l _ (fun a=> !p a) (.box b3 214 [fv]::G) (fun a ha=>y3.of_acall (fs:= []) (cs:= [pZ b3]) (zyj a fv (p a) b3 G (hp a ha))) hlen))) ?_
 refine rn ?_;exact j6 rfl (.drop1 _ _ _) ⟨rfl,by simp only [←zg5 p l];rfl⟩
theorem zo7 {full:Bool} (l:List Wan) (fv:AV) (p:Wan→Bool) (G:List Res) (hp:∀a∈l,y3 Tryz.prog fv [.agg (zbi a)] G (fun r h'=>h'=G∧r=bv (p a))) (hlen:l.length≤4611686018427387904):y9 Tryz.prog 102 [.list full 2 (l.map zbi),fv] G (fun r h'=>h'=G∧r=iv (za5 p 0 l)):=by
 refine z6 Tryz.func102 rfl rfl rfl ?_
 refine rn ?_;refine u5 (fun k:Nat=>k≤l.length∧za5 p 0 l=za5 p k (l.drop k)) (fun k=>⟨[(8,iv k),(7,iv (l.map zbi).length),(0,.list full 2 (l.map zbi)),(1,fv)],G,[]⟩) (fun k=>l.length - k) 0 ⟨Nat.zero_le _,by simp⟩
  (x7 (.cons _ _ _ rfl (.cons _ _ _ rfl (.cons _ _ _ rfl (.cons _ _ _ rfl (.nil)))))) ?_
 rintro k ⟨hk,hnot⟩
 refine rn ?_;refine z8 rfl (fun hc9=> ?_) (fun hc9=> ?_)
 ·have hk2:k < l.length:=by simpa using hc9
  have hrow:(l.map zbi)[k]? =some (zbi l[k]):=by simp [hk2]
  have hd:=List.drop_eq_getElem_cons hk2
  refine rn ?_;refine qv rfl rfl (y4 rfl rfl (hp l[k] (by simp))) ?_
  refine rn ?_;refine z8 rfl (fun hc16=> ?_) (fun hc16=> ?_)
  ·refine rn ?_;exact j6 rfl (.refl _ _) ⟨rfl,by rw [hnot,hd,za5,if_pos hc16];rfl⟩
  ·refine rn ?_;exact ⟨k+1,⟨by omega,by rw [hnot,hd,za5,if_neg (by simp [hc16])]⟩,(x7 (.cons _ _ _ rfl (.cons _ _ _ rfl (.cons _ _ _ rfl (.cons _ _ _ rfl (.nil)))))),by omega⟩
 ·have hk3:k=l.length:=by
   have:l.length≤k:=by simpa using hc9
   omega
  refine rn ?_;exact j6 rfl (.refl _ _) ⟨rfl,by rw [hnot,hk3,List.drop_length,za5];rfl⟩
theorem zfy {full:Bool} (l:List Wan) (fv:AV) (p:Wan→Bool) (G:List Res) (hp:∀a∈l,y3 Tryz.prog fv [.agg (zbi a)] G (fun r h'=>h'=G∧r=bv (p a))) (hlen:l.length≤4611686018427387904):y9 Tryz.prog 49 [.list full 2 (l.map zbi),fv] G (fun r h'=>h'=G∧r=bv (l.any p)):=by
 refine z6 Tryz.func49 rfl rfl rfl ?_
 refine rn ?_;refine qv rfl rfl (y4 rfl rfl (y3.of_fun (zo7 l _ p G hp hlen))) ?_
 refine rn ?_;exact j6 rfl (.refl _ _) ⟨rfl,by simp only [←zd2 p l 0];rfl⟩
theorem zyh (a:Wan) (fv:AV) (v:Bool) (b:Nat) (G:List Res) (hp:y3 Tryz.prog fv [.agg (zbi a)] G (fun r h'=>h'=G∧r=bv v)):y9 Tryz.prog 189 [.agg (zbi a),pZ b] (.box b 94 [fv]::G) (fun r h'=>h'= .box b 94 [fv]::G∧r=bv (!v)):=by
 refine z6 Tryz.func189 rfl rfl rfl ?_
 refine rn ?_;refine z7 rfl (x9 rfl rfl rfl fun b2=> ?_)
 refine rn ?_;refine qv rfl rfl (y4 rfl rfl (y3.quiet (R:=fun x=>x=bv v) (h2:= [_,_]) (List.perm_append_comm (l₁:= [_,_])) hp)) ?_
 refine rn ?_;exact j6 rfl (.drop1 _ _ _) ⟨rfl,rfl⟩
theorem ykv {full:Bool} (l:List Wan) (fv:AV) (p:Wan→Bool) (G:List Res) (hone:fv.cellsOf=some [fv]) (hp:∀a∈l,y3 Tryz.prog fv [.agg (zbi a)] G (fun r h'=>h'=G∧r=bv (p a))) (hlen:l.length≤4611686018427387904):y9 Tryz.prog 142 [.list full 2 (l.map zbi),fv] G (fun r h'=>h'=G∧r=bv (l.all p)):=by
 refine z6 Tryz.func142 rfl rfl rfl ?_
 refine rn ?_;refine z7 rfl (x9 rfl hone rfl fun b3=> ?_)
 refine rn ?_;refine qv rfl rfl (y4 rfl rfl (y3.of_fun (zfy l _ (fun a=> !p a) (.box b3 94 [fv]::G) (fun a ha=>y3.of_acall (fs:= []) (cs:= [pZ b3]) (zyh a fv (p a) b3 G (hp a ha))) hlen))) ?_
 refine rn ?_;exact j6 rfl (.drop1 _ _ _) ⟨rfl,by simp only [←zg5 p l];rfl⟩
theorem znh {full:Bool} (l:List Seen) (fv:AV) (p:Seen→Bool) (G:List Res) (hp:∀a∈l,y3 Tryz.prog fv [.agg (zaz a)] G (fun r h'=>h'=G∧r=bv (p a))) (hlen:l.length≤4611686018427387904):y9 Tryz.prog 222 [.list full 3 (l.map zaz),fv] G (fun r h'=>h'=G∧r=iv (za5 p 0 l)):=by
 refine z6 Tryz.func222 rfl rfl rfl ?_
 refine rn ?_;refine u5 (fun k:Nat=>k≤l.length∧za5 p 0 l=za5 p k (l.drop k)) (fun k=>⟨[(8,iv k),(7,iv (l.map zaz).length),(0,.list full 3 (l.map zaz)),(1,fv)],G,[]⟩) (fun k=>l.length - k) 0 ⟨Nat.zero_le _,by simp⟩
  (x7 (.cons _ _ _ rfl (.cons _ _ _ rfl (.cons _ _ _ rfl (.cons _ _ _ rfl (.nil)))))) ?_
 rintro k ⟨hk,hnot⟩
 refine rn ?_;refine z8 rfl (fun hc9=> ?_) (fun hc9=> ?_)
 ·have hk2:k < l.length:=by simpa using hc9
  have hrow:(l.map zaz)[k]? =some (zaz l[k]):=by simp [hk2]
  have hd:=List.drop_eq_getElem_cons hk2
  refine rn ?_;refine qv rfl rfl (y4 rfl rfl (hp l[k] (by simp))) ?_
  refine rn ?_;refine z8 rfl (fun hc16=> ?_) (fun hc16=> ?_)
  ·refine rn ?_;exact j6 rfl (.refl _ _) ⟨rfl,by rw [hnot,hd,za5,if_pos hc16];rfl⟩
  ·refine rn ?_;exact ⟨k+1,⟨by omega,by rw [hnot,hd,za5,if_neg (by simp [hc16])]⟩,(x7 (.cons _ _ _ rfl (.cons _ _ _ rfl (.cons _ _ _ rfl (.cons _ _ _ rfl (.nil)))))),by omega⟩
 ·have hk3:k=l.length:=by
   have:l.length≤k:=by simpa using hc9
   omega
  refine rn ?_;exact j6 rfl (.refl _ _) ⟨rfl,by rw [hnot,hk3,List.drop_length,za5];rfl⟩
theorem zdo {full:Bool} (l:List Seen) (fv:AV) (p:Seen→Bool) (G:List Res) (hp:∀a∈l,y3 Tryz.prog fv [.agg (zaz a)] G (fun r h'=>h'=G∧r=bv (p a))) (hlen:l.length≤4611686018427387904):y9 Tryz.prog 203 [.list full 3 (l.map zaz),fv] G (fun r h'=>h'=G∧r=bv (l.any p)):=by
 refine z6 Tryz.func203 rfl rfl rfl ?_
 refine rn ?_;refine qv rfl rfl (y4 rfl rfl (y3.of_fun (znh l _ p G hp hlen))) ?_
 refine rn ?_;exact j6 rfl (.refl _ _) ⟨rfl,by simp only [←zd2 p l 0];rfl⟩
theorem zu0 (a:Seen) (fv:AV) (v:Bool) (b:Nat) (G:List Res) (hp:y3 Tryz.prog fv [.agg (zaz a)] G (fun r h'=>h'=G∧r=bv v)):y9 Tryz.prog 204 [.agg (zaz a),pZ b] (.box b 248 [fv]::G) (fun r h'=>h'= .box b 248 [fv]::G∧r=bv (!v)):=by
 refine z6 Tryz.func204 rfl rfl rfl ?_
 refine rn ?_;refine z7 rfl (x9 rfl rfl rfl fun b2=> ?_)
 refine rn ?_;refine qv rfl rfl (y4 rfl rfl (y3.quiet (R:=fun x=>x=bv v) (h2:= [_,_]) (List.perm_append_comm (l₁:= [_,_])) hp)) ?_
 refine rn ?_;exact j6 rfl (.drop1 _ _ _) ⟨rfl,rfl⟩
theorem ygp {full:Bool} (l:List Seen) (fv:AV) (p:Seen→Bool) (G:List Res) (hone:fv.cellsOf=some [fv]) (hp:∀a∈l,y3 Tryz.prog fv [.agg (zaz a)] G (fun r h'=>h'=G∧r=bv (p a))) (hlen:l.length≤4611686018427387904):y9 Tryz.prog 182 [.list full 3 (l.map zaz),fv] G (fun r h'=>h'=G∧r=bv (l.all p)):=by
 refine z6 Tryz.func182 rfl rfl rfl ?_
 refine rn ?_;refine z7 rfl (x9 rfl hone rfl fun b3=> ?_)
 refine rn ?_;refine qv rfl rfl (y4 rfl rfl (y3.of_fun (zdo l _ (fun a=> !p a) (.box b3 248 [fv]::G) (fun a ha=>y3.of_acall (fs:= []) (cs:= [pZ b3]) (zu0 a fv (p a) b3 G (hp a ha))) hlen))) ?_
 refine rn ?_;exact j6 rfl (.drop1 _ _ _) ⟨rfl,by simp only [←zg5 p l];rfl⟩
theorem yh8 (e:Ev):y9 Tryz.prog 263 [.agg (evR e)] [] (fun r h'=>h'= []∧r=zso (zhc e)):=by
 refine z6 Tryz.func263 rfl rfl rfl ?_
 refine rn ?_;refine z7 rfl (x9 rfl rfl rfl fun b1=> ?_)
 refine rn ?_;refine z8 rfl (fun hc5=> ?_) (fun hc5=> ?_)
 ·refine rn ?_;refine qv rfl rfl (v8 rfl rfl) ?_
  refine rn ?_;exact j6 rfl (.trans (.drop [_] _ _) (.le Sb.unfull.le)) ⟨rfl,by rw [zhc,if_pos (by simpa using hc5)];rfl⟩
 ·refine rn ?_;refine rq 1 ?_
  exact ⟨rfl,by rw [zhc,if_neg (by simpa using hc5)];rfl⟩
theorem yen (e:Ev) (bl bp:Nat) (h:Hist) (p:List Ev) (r1 r2 r3 r4 r5:Nat):y9 Tryz.prog 259 [.agg (evR e),pZ bp] (zcd bl h p r1 r2 r3 r4 r5 [.box bp 198 [pZ bl]]) (fun r h'=>h'=(zcd bl h p r1 r2 r3 r4 r5 [.box bp 198 [pZ bl]])∧r=bv (zb2 1 e p)):=by
 refine z6 Tryz.func259 rfl rfl rfl ?_
 refine rn ?_;refine z7 rfl (x9 rfl rfl rfl fun b2=> ?_)
 refine rn ?_;refine j4 10 rfl ?_
 refine dq rfl rfl qrA ?_;refine dq rfl rfl qrA ?_;refine dq rfl rfl qrA ?_;refine dq rfl rfl qrA ?_;refine dq rfl rfl qrA ?_;refine dq rfl rfl qrA ?_;refine dq rfl rfl (zbx (enc:=zbm) (k:=e.t) false rfl rfl) ?_
 refine rn ?_;refine rq 1 ?_
 exact ⟨rfl,congrArg bv (by rw [ybn];simp only [zb2];cases ztl p e.t <;> rfl)⟩
theorem yl8 (e:Ev) (bl bp:Nat) (h:Hist) (p:List Ev) (r1 r2 r3 r4 r5:Nat):y9 Tryz.prog 260 [.agg (evR e),pZ bp] (zcd bl h p r1 r2 r3 r4 r5 [.box bp 198 [pZ bl]]) (fun r h'=>h'=(zcd bl h p r1 r2 r3 r4 r5 [.box bp 198 [pZ bl]])∧r=bv (zb2 2 e p)):=by
 refine z6 Tryz.func260 rfl rfl rfl ?_
 refine rn ?_;refine z7 rfl (x9 rfl rfl rfl fun b2=> ?_)
 refine rn ?_;refine j4 6 rfl ?_
 refine rn2 ?_;refine qq rfl rfl (zbx (enc:=zbm) (k:=e.t) false rfl rfl) ?_
 refine rn ?_;refine rq 1 ?_
 exact ⟨rfl,congrArg bv (by rw [zz6];simp only [zb2];cases zz7 p e.t <;> rfl)⟩
theorem yem (e:Ev) (bl bp:Nat) (h:Hist) (p:List Ev) (r1 r2 r3 r4 r5:Nat) (hl:p.length≤1000000):y9 Tryz.prog 261 [.agg (evR e),pZ bp] (zcd bl h p r1 r2 r3 r4 r5 [.box bp 198 [pZ bl]]) (fun r h'=>h'=(zcd bl h p r1 r2 r3 r4 r5 [.box bp 198 [pZ bl]])∧r=bv (zb2 3 e p)):=by
 refine z6 Tryz.func261 rfl rfl rfl ?_
 have hw:=zjx p e.t e.o
 refine rn ?_;refine z7 rfl (x9 rfl rfl rfl fun b2=> ?_)
 refine rn ?_;refine j4 18 rfl ?_
 refine rn ?_;refine zet (fun hg1_3=> ?_) (fun hg1_3=> ?_)
 ·refine dq rfl rfl qrA ?_;refine dq rfl rfl qrA ?_;refine dq rfl rfl qrA ?_;refine dq rfl rfl qrA ?_;refine dq rfl rfl qrA ?_;refine dq rfl rfl qrA ?_;refine dq rfl rfl qrA ?_;refine dq rfl rfl qrA ?_;refine dq rfl rfl qrA ?_;refine dq rfl rfl qrA ?_;refine dq rfl rfl qrA ?_;refine dq rfl rfl (zab (out:= [iv e.t,iv e.o]) rfl (by rfl)) ?_
  refine dq rfl rfl (zbx (enc:=zda) (k:=(e.t,e.o)) 0 rfl rfl) ?_
  refine dq rfl rfl (k7 rfl rfl rfl (by rw [zi3];omega)) ?_
  refine rn ?_;refine rq 1 ?_
  exact ⟨rfl,congrArg bv (by simp only [zb2];rw [←zi3];simp_all [bne])⟩
 ·refine rn ?_;refine rq 1 ?_
  exact ⟨rfl,congrArg bv (by simp only [zb2];rw [←zi3];simp_all [bne])⟩
theorem zt5 (s:Seen) (bl bp:Nat) (h:Hist) (p:List Ev) (r1 r2 r3 r4 r5:Nat):y9 Tryz.prog 264 [.agg (zaz s),pZ bp] (zcd bl h p r1 r2 r3 r4 r5 [.box bp 198 [pZ bl]]) (fun r h'=>h'=(zcd bl h p r1 r2 r3 r4 r5 [.box bp 198 [pZ bl]])∧r=bv (decide (s.v.k > 0) && !zlw p s.o s.v)):=by
 refine z6 Tryz.func264 rfl rfl rfl ?_
 refine rn ?_;refine z7 rfl (x9 rfl rfl rfl fun b2=> ?_)
 refine rn ?_;refine j4 14 rfl ?_
 refine rn ?_;refine zet (fun hg1_4=> ?_) (fun hg1_4=> ?_)
 ·refine dq rfl rfl qrA ?_;refine dq rfl rfl qrA ?_;refine dq rfl rfl qrA ?_;refine dq rfl rfl qrA ?_;refine dq rfl rfl qrA ?_;refine dq rfl rfl qrA ?_;refine dq rfl rfl qrA ?_;refine dq rfl rfl qrA ?_;refine dq rfl rfl (zab (out:= [iv s.o,iv s.v.t,iv s.v.k]) rfl (by rfl)) ?_
  refine rn2 ?_;refine qq rfl rfl (zbx (enc:=zej) (k:=(s.o,s.v.t,s.v.k)) false rfl rfl) ?_
  refine rn ?_;refine rq 1 ?_
  exact ⟨rfl,congrArg bv (by first|(rw [zr8];cases zlw p s.o s.v <;> simp_all;done)|(simp_all;done)|(simp_all <;> (intros;omega)))⟩
 ·refine rn ?_;refine rq 1 ?_
  exact ⟨rfl,congrArg bv (by first|(rw [zr8];cases zlw p s.o s.v <;> simp_all;done)|(simp_all;done)|(simp_all <;> (intros;omega)))⟩
theorem zv4 (e:Ev) (bl bp:Nat) (h:Hist) (p:List Ev) (r1 r2 r3 r4 r5:Nat) (hl:e.scan.length≤4611686018427387904):y9 Tryz.prog 262 [.agg (evR e),pZ bp] (zcd bl h p r1 r2 r3 r4 r5 [.box bp 198 [pZ bl]]) (fun r h'=>h'=(zcd bl h p r1 r2 r3 r4 r5 [.box bp 198 [pZ bl]])∧r=bv (zb2 4 e p)):=by
 refine z6 Tryz.func262 rfl rfl rfl ?_
 refine rn ?_;refine z7 rfl (x9 rfl rfl rfl fun b2=> ?_)
 refine rn ?_;refine qv rfl rfl (y4 rfl rfl (zaf (yh8 _) (Sbs.refl _))) ?_
 refine rn ?_;refine qv rfl rfl (y4 rfl rfl (y3.quiet (R:=fun r=>r=bv _) (h2:= [_]) (List.perm_append_comm (l₁:= [_])) (y3.of_fun (zdo (zhc e) _ _ (zcd bl h p r1 r2 r3 r4 r5 [.box bp 198 [pZ bl]]) (fun s _=>y3.of_acall (fs:= []) (cs:= [pZ bp]) (zt5 s bl bp h p r1 r2 r3 r4 r5)) (zl1 hl))))) ?_
 refine rn ?_;refine rq 1 ?_
 exact ⟨rfl,rfl⟩
theorem yia (s:Seen) (e:Ev) (be:Nat) (bl bp:Nat) (h:Hist) (p:List Ev) (r1 r2 r3 r4 r5:Nat):y9 Tryz.prog 266 [.agg (zaz s),pZ bp,pZ be] (.box be 66 (evR e)::(zcd bl h p r1 r2 r3 r4 r5 [.box bp 198 [pZ bl]])) (fun r h'=>h'=(.box be 66 (evR e)::(zcd bl h p r1 r2 r3 r4 r5 [.box bp 198 [pZ bl]]))∧r=bv (match zum p e.t s.o with|some v=>v !=s.v|none=>false)):=by
 refine z6 Tryz.func266 rfl rfl rfl ?_
 refine rn ?_;refine z7 rfl (x9 rfl rfl rfl fun b3=> ?_)
 refine rn0 ?_;refine w6 ?_;refine zjv 15 [13,14] [] (fun he=>he= .box b3 139 (zaz s)::(.box be 66 (evR e)::(zcd bl h p r1 r2 r3 r4 r5 [.box bp 198 [pZ bl]]))∨∃b c,he= .box b 63 c:: .box b3 139 (zaz s)::(.box be 66 (evR e)::(zcd bl h p r1 r2 r3 r4 r5 [.box bp 198 [pZ bl]]))) rfl rfl (.inl rfl) ?_
 refine jq rfl (fun he hC=>by rcases hC with rfl|⟨b,c,rfl⟩ <;> exact qrA) ?_
 refine jq rfl (fun he hC=>by rcases hC with rfl|⟨b,c,rfl⟩ <;> exact qrA) ?_
 refine jq rfl (fun he hC=>by rcases hC with rfl|⟨b,c,rfl⟩ <;> exact qrA) ?_
 refine jq rfl (fun he hC=>by rcases hC with rfl|⟨b,c,rfl⟩ <;> exact qrA) ?_
 refine jq rfl (fun he hC=>by rcases hC with rfl|⟨b,c,rfl⟩ <;> exact qrA) ?_
 refine jq rfl (fun he hC=>by rcases hC with rfl|⟨b,c,rfl⟩ <;> exact qrA) ?_
 refine jq rfl (fun he hC=>by rcases hC with rfl|⟨b,c,rfl⟩ <;> exact qrA) ?_
 refine jq rfl (fun he hC=>by rcases hC with rfl|⟨b,c,rfl⟩ <;> exact qrA) ?_
 refine jq rfl (fun he hC=>by rcases hC with rfl|⟨b,c,rfl⟩ <;> exact (by exact zab (out:= [iv e.t,iv s.o]) rfl (by rfl))) ?_
 refine jq rfl (fun he hC=>by rcases hC with rfl|⟨b,c,rfl⟩ <;> exact (by exact zop (enc:=zda) (k:=(e.t,s.o)) (⟨0,0⟩:Ver) rfl rfl rfl)) ?_
 refine jq rfl (fun he hC=>by rcases hC with rfl|⟨b,c,rfl⟩ <;> exact qrA) ?_
 refine jq rfl (fun he hC=>by rcases hC with rfl|⟨b,c,rfl⟩ <;> exact qrA) ?_
 refine jq rfl (fun he hC=>by rcases hC with rfl|⟨b,c,rfl⟩ <;> exact qrA) ?_
 refine je rfl ?_;refine je rfl ?_;refine zyu ?_;refine jce rfl fun u=> ?_
 refine x5 rfl fun b5=>⟨_,_,rfl,.inr ⟨_,_,rfl⟩,?_⟩
 refine jce rfl fun u=> ?_
 refine za2 rfl rfl rfl ⟨.any,_,rfl,.inr ⟨_,_,rfl⟩,?_⟩
 refine jcn ?_;refine ln ?_;refine rn ?_;refine q8 (fun hg2_1=> ?_) (fun hg2_1=> ?_)
 ·refine rn ?_;refine rq 2 ?_
  exact ⟨rfl,congrArg bv (by rw [zjj] at hg2_1;(try rw [zjj]);cases hv:zum p e.t s.o <;> simp_all [yg8,bne,zvi])⟩
 ·refine rn ?_;refine rq 2 ?_
  exact ⟨rfl,congrArg bv (by rw [zjj] at hg2_1;(try rw [zjj]);cases hv:zum p e.t s.o <;> simp_all [yg8,bne,zvi])⟩
theorem yl4 (e:Ev) (bl bp:Nat) (h:Hist) (p:List Ev) (r1 r2 r3 r4 r5:Nat) (hl:e.scan.length≤4611686018427387904):y9 Tryz.prog 265 [.agg (evR e),pZ bp] (zcd bl h p r1 r2 r3 r4 r5 [.box bp 198 [pZ bl]]) (fun r h'=>h'=(zcd bl h p r1 r2 r3 r4 r5 [.box bp 198 [pZ bl]])∧r=bv (zb2 5 e p)):=by
 refine z6 Tryz.func265 rfl rfl rfl ?_
 refine rn ?_;refine z7 rfl (x9 rfl rfl rfl fun b2=> ?_)
 refine rn ?_;refine qv rfl rfl (y4 rfl rfl (zaf (yh8 _) (Sbs.refl _))) ?_
 refine rn ?_;refine qv rfl rfl (y4 rfl rfl (y3.of_fun (zdo (zhc e) _ _ (.box b2 66 (evR e)::(zcd bl h p r1 r2 r3 r4 r5 [.box bp 198 [pZ bl]])) (fun s _=>y3.of_acall (fs:= []) (cs:= [pZ bp,pZ b2]) (yia s e b2 bl bp h p r1 r2 r3 r4 r5)) (zl1 hl)))) ?_
 refine rn ?_;refine rq 1 ?_
 exact ⟨rfl,rfl⟩
theorem yh9 (e:Ev) (hl:e.scan.length≤4611686018427387904):y9 Tryz.prog 267 [.agg (evR e)] [] (fun r h'=>h'= []∧r=bv (zb2 6 e [])):=by
 refine z6 Tryz.func267 rfl rfl rfl ?_
 refine rn ?_;refine z7 rfl (x9 rfl rfl rfl fun b1=> ?_)
 refine rn ?_;refine zht ?_;refine rn ?_;refine z7 rfl (zau (enc:=zbm) rfl fun b6=> ?_)
 refine rn ?_;refine zbc e.scan.length (fun k=>((e.scan.take k).map Seen.o).Nodup) (fun k=>⟨[(10,iv k),(1,pZ b1),(3,.v (.map (some b6))),(8,zso e.scan),(9,iv (e.scan.map zaz).length)],[.map b6 (j9 zbm (zbe bv (zsx (e.scan.take k)))),.box b1 66 (evR e)],[]⟩) (by simp) es ?_
 intro k lk nk
 refine rn ?_;refine z8 rfl (fun hc11=> ?_) (fun hc11=> ?_)
 ·have hk:=zd0 hc11
  have rk:=zdp (f:=zaz) hk
  refine rn ?_;refine z7 rfl (x5 rfl fun b5=> ?_)
  first|refine z7 rfl (za2 rfl rfl rfl ?_)|refine z7 rfl (zby rfl rfl rfl rfl (Nat.le_of_ble_eq_true rfl) ?_)
  refine u3 (k6 ?_)
  refine w6 ?_;refine w6 (y6 ?_)
  refine q1 ?_;refine q1 ?_;refine q1 ?_;refine qq rfl rfl (zbx (enc:=zbm) (k:=e.scan[k].o) false rfl rfl) ?_
  refine rn ?_;refine z8 rfl (fun hc17=> ?_) (fun hc17=> ?_)
  ·refine zg4 ?_;refine zgv ?_;refine zia rfl ?_;refine zgv ?_;refine zgv ?_;refine zdk ?_;refine k6 ?_;refine w6 (y6 ?_)
   refine q1 ?_;refine qq rfl rfl (zl9 (enc:=zbm) rfl) ?_
   refine rn ?_;refine ⟨fun l h=>(by cases h),?_⟩
   first|(refine rq 3 ?_;exact ⟨rfl,congrArg bv (yb6 hk nk (by simpa using hc17))⟩)|(refine rq 2 ?_;exact ⟨rfl,congrArg bv (yb7 nk)⟩)
  ·have hx:=yix (by simpa using hc17)
   refine rn ?_;refine z7 rfl (za0 (g:=bv) (enc:=zbm) (k:=e.scan[k].o) (v:=true) rfl rfl rfl ?_)
   refine rn ?_;exact ⟨hk,yai hk nk hx,by rw [zwn hk];exact eA⟩
 ·have qk:=zd1 hc11 lk
  subst qk
  refine zg4 ?_;refine zgv ?_;refine zgv ?_;refine zdk ?_;refine k6 ?_;refine w6 (y6 ?_)
  refine q1 ?_;refine qq rfl rfl (zl9 (enc:=zbm) rfl) ?_
  refine rn ?_;refine ⟨fun l h=>(by cases h),?_⟩
  first|(refine rq 3 ?_;exact ⟨rfl,congrArg bv (yb6 hk nk (by simpa using hc17))⟩)|(refine rq 2 ?_;exact ⟨rfl,congrArg bv (yb7 nk)⟩)
end Go.Proofs
namespace Go.Ab
open Go
def isM (i:Nat):Bool:=Nat.blt i 10
def mkE (L:List Nat) (ρ:Nat→Nat):Fr:=(L.filter isM).map fun i=>(i+6,.v (.map (some (ρ i))))
def mkH (L:List Nat) (ρ:Nat→Nat):List Res:=(L.filter isM).map fun i=> .map (ρ i) []
def cel (L:List Nat) (ρ:Nat→Nat) (s m:Nat):AV:=if s∈L then .v (.map (some (ρ m))) else .v (.map none)
def zpz (L:List Nat) (ρ:Nat→Nat):List AV:= [cel L ρ 12 5,cel L ρ 15 6,cel L ρ 18 7,cel L ρ 21 8,.v (.map none)]
def eff5:List Nat:= [5,6,7,8,9,12,15,18,21]
def J5 (bl:Nat) (T:TypeId) (c0:List AV) (R:List Res) (L:List Nat) (ee:Fr) (he:List Res):Prop:=
 L.Nodup∧(∀i∈L,i∈eff5)∧((12∈L→5∈L)∧(15∈L→6∈L)∧(18∈L→7∈L)∧(21∈L→8∈L))∧∃ρ,ee=mkE L ρ∧he=mkH L ρ++ .box bl T (c0++zpz L ρ)::R
theorem J5.start {bl:Nat} {T:TypeId} {c0:List AV} {R:List Res}:J5 bl T c0 R [] [] (.box bl T (c0++ [.v (.map none),.v (.map none),.v (.map none),.v (.map none),.v (.map none)])::R):=
 ⟨.nil,fun i h=>by simp at h,⟨fun h=>by simp at h,fun h=>by simp at h,fun h=>by simp at h,fun h=>by simp at h⟩,fun _=>0,rfl,by simp [mkH,zpz,cel]⟩
theorem yah {L:List Nat} {ρ ρ':Nat→Nat} (h:∀i∈L,ρ i=ρ' i):mkE L ρ=mkE L ρ'∧mkH L ρ=mkH L ρ':=
 ⟨List.map_congr_left fun i hi=>by rw [h i (List.mem_filter.1 hi).1],List.map_congr_left fun i hi=>by rw [h i (List.mem_filter.1 hi).1]⟩
theorem J5.make {bl:Nat} {T:TypeId} {c0:List AV} {R:List Res} {L:List Nat} {ee:Fr} {he:List Res} {i:Nat} (h:J5 bl T c0 R L ee he) (hi:i ∉ L) (hm:isM i=true) (hie:i∈eff5) (r:Nat):J5 bl T c0 R (i::L) ((i+6,.v (.map (some r)))::ee) (.map r []::he):=by
 obtain ⟨h1,h2,⟨p1,p2,p3,p4⟩,ρ,rfl,rfl⟩:=h
 have hlt:i < 10:=Nat.le_of_ble_eq_true hm
 have hne:∀j∈L,ρ j=(fun j=>if j=i then r else ρ j) j:=fun j hj=>by
  have:j≠i:=fun e=>hi (e ▸ hj)
  simp [this]
 obtain ⟨e1,e2⟩:=yah hne
 refine ⟨List.nodup_cons.2 ⟨hi,h1⟩,fun j hj=>(List.mem_cons.1 hj).elim (fun e=>e ▸ hie) (h2 j),⟨?_,?_,?_,?_⟩,fun j=>if j=i then r else ρ j,?_,?_⟩
 iterate 4 (· intro hx;rcases List.mem_cons.1 hx with e|hx;omega;first|exact List.mem_cons_of_mem _ (p1 hx)|exact List.mem_cons_of_mem _ (p2 hx)|exact List.mem_cons_of_mem _ (p3 hx)|exact List.mem_cons_of_mem _ (p4 hx))
 ·rw [e1];simp [mkE,List.filter_cons,hm]
 ·have hc:∀s m,10≤s→(s∈L→m∈L)→cel L ρ s m=cel (i::L) (fun j=>if j=i then r else ρ j) s m:=fun s m hs hsm=>by
   unfold cel
   by_cases hx:s∈L
   ·rw [if_pos hx,if_pos (List.mem_cons_of_mem _ hx),←hne m (hsm hx)]
   ·rw [if_neg hx,if_neg (fun q=>(List.mem_cons.1 q).elim (by omega) hx)]
  rw [e2]
  have:zpz L ρ=zpz (i::L) (fun j=>if j=i then r else ρ j):=by
   unfold zpz
   rw [hc 12 5 (by omega) p1,hc 15 6 (by omega) p2,hc 18 7 (by omega) p3,hc 21 8 (by omega) p4]
  rw [this];simp [mkH,List.filter_cons,hm]
theorem zgz {ρ:Nat→Nat} {m:Nat} (hm:isM m=true):∀{L:List Nat},m∈L→lk (mkE L ρ) (m+6)=some (.v (.map (some (ρ m))))
 | [],h=>by simp at h
 |j::L,h=>by
  unfold mkE
  rw [List.filter_cons]
  by_cases hj:isM j=true
  ·rw [if_pos hj,List.map_cons,lk]
   by_cases e:j=m
   ·subst e;simp
   ·have:Nat.beq (j+6) (m+6)=false:=by
     cases hb:Nat.beq (j+6) (m+6) with
     |false=>rfl
     |true=>have:=Nat.eq_of_beq_eq_true hb;omega
    rw [this]
    exact zgz hm ((List.mem_cons.1 h).resolve_left (fun q=>e q.symm))
  ·rw [if_neg hj]
   refine zgz hm ((List.mem_cons.1 h).resolve_left (fun q=>hj (q ▸ hm)))
theorem zjf {ρ:Nat→Nat} {d:Nat} (hd:d < 6):∀{L:List Nat},lk (mkE L ρ) d=none
 | []=>rfl
 |j::L=>by
  unfold mkE
  rw [List.filter_cons]
  split
  ·rw [List.map_cons,lk]
   have:Nat.beq (j+6) d=false:=by
    cases hb:Nat.beq (j+6) d with
    |false=>rfl
    |true=>have:=Nat.eq_of_beq_eq_true hb;omega
   rw [this];exact zjf hd
  ·exact zjf hd
theorem yi1 {E ee t:Fr} {d:Nat} {a:AV} (h1:lk E d=none) (h2:lk ee d=none) (h3:lk t d=some a):lk ((E++ee)++t) d=some a:=by
 rw [v6,v6,h1];simp only;rw [h2];exact h3
theorem ymj {E ee t:Fr} {d:Nat} {a:AV} (h1:lk E d=none) (h2:lk ee d=some a):lk ((E++ee)++t) d=some a:=by
 rw [v6,v6,h1];simp only;rw [h2]
theorem yaq {A ee B:Fr} {ds:List Tmp} {d:Nat} {a:AV} (h1:lk A d=none) (h2:ds.any (Nat.beq d)=true) (h3:lk ee d=some a):lk (A++(zb0 ds ee++B)) d=some a:=by
 rw [v6,h1]
 simp only
 rw [v6,zb0,zcs (q:=fun d=>ds.any (Nat.beq d)) h2,h3]
section
variable {bl:Nat} {T:TypeId} {c0:List AV} {R:List Res} {L:List Nat} {ρ:Nat→Nat}
theorem ylj:HasBox (mkH L ρ++ .box bl T (c0++zpz L ρ)::R) bl (mkH L ρ).length T (c0++zpz L ρ):=⟨by simp⟩
theorem yk9 (x:Res):SetAt (mkH L ρ++ .box bl T (c0++zpz L ρ)::R) (mkH L ρ).length x (mkH L ρ++x::R):=⟨by simp⟩
theorem J5.put {s m:Nat} {cs':List AV} (h:J5 bl T c0 R L (mkE L ρ) (mkH L ρ++ .box bl T (c0++zpz L ρ)::R)) (hs:s ∉ L) (hse:s∈eff5) (hsm:isM s=false) (hmL:(s,m)∈ [(12,5),(15,6),(18,7),(21,8)]) (hm:m∈L)
 (hc:cs'=c0++(zpz L ρ).set ((m - 5)) (.v (.map (some (ρ m))))):J5 bl T c0 R (s::L) (mkE L ρ) (mkH L ρ++ .box bl T cs'::R):=by
 obtain ⟨h1,h2,⟨p1,p2,p3,p4⟩,_⟩:=h
 refine ⟨List.nodup_cons.2 ⟨hs,h1⟩,fun j hj=>(List.mem_cons.1 hj).elim (fun e=>e ▸ hse) (h2 j),⟨fun q=> ?_,fun q=> ?_,fun q=> ?_,fun q=> ?_⟩,ρ,?_,?_⟩
 iterate 4 (· rcases List.mem_cons.1 q with e|q;(subst e;simp at hmL;subst hmL;exact List.mem_cons_of_mem _ hm);first|exact List.mem_cons_of_mem _ (p1 q)|exact List.mem_cons_of_mem _ (p2 q)|exact List.mem_cons_of_mem _ (p3 q)|exact List.mem_cons_of_mem _ (p4 q))
 ·simp [mkE,List.filter_cons,hsm]
 ·have e1:mkH (s::L) ρ=mkH L ρ:=by simp [mkH,List.filter_cons,hsm]
  rw [e1,hc]
  have:(zpz L ρ).set (m - 5) (.v (.map (some (ρ m))))=zpz (s::L) ρ:=by
   simp only [List.mem_cons,Prod.mk.injEq,List.not_mem_nil,or_false] at hmL
   rcases hmL with ⟨rfl,rfl⟩|⟨rfl,rfl⟩|⟨rfl,rfl⟩|⟨rfl,rfl⟩ <;> simp [zpz,cel]
  rw [this]
theorem J5.last (h:J5 bl T c0 R L (mkE L ρ) (mkH L ρ++ .box bl T (c0++zpz L ρ)::R)) (ha:∀i,i∈eff5→i∈L):
 (mkH L ρ++ .box bl T (c0++zpz L ρ)::R).Perm (.box bl T (c0++ [.v (.map (some (ρ 5))),.v (.map (some (ρ 6))),.v (.map (some (ρ 7))),.v (.map (some (ρ 8))),.v (.map none)]):: .map (ρ 5) []:: .map (ρ 6) []:: .map (ρ 7) []:: .map (ρ 8) []:: .map (ρ 9) []::R):=by
 have hp:(L.filter isM).Perm [5,6,7,8,9]:=by
  rw [List.perm_ext_iff_of_nodup (h.1.filter _) (by decide)]
  intro a
  rw [List.mem_filter]
  constructor
  ·rintro ⟨q1,q2⟩
   have:=h.2.1 a q1
   have q3:a < 10:=Nat.le_of_ble_eq_true q2
   simp [eff5] at this ⊢;omega
  ·intro q
   have:a∈eff5:=by simp [eff5] at q ⊢;omega
   refine ⟨ha a this,?_⟩
   simp at q;rcases q with rfl|rfl|rfl|rfl|rfl <;> rfl
 have hcs:zpz L ρ= [.v (.map (some (ρ 5))),.v (.map (some (ρ 6))),.v (.map (some (ρ 7))),.v (.map (some (ρ 8))),.v (.map none)]:=by
  simp [zpz,cel,ha 12 (by simp [eff5]),ha 15 (by simp [eff5]),ha 18 (by simp [eff5]),ha 21 (by simp [eff5])]
 rw [hcs]
 have:=hp.map (fun i=>Res.map (ρ i) [])
 exact (this.append_right _).trans (List.perm_middle (l₁:= [Res.map (ρ 5) [],Res.map (ρ 6) [],Res.map (ρ 7) [],Res.map (ρ 8) [],Res.map (ρ 9) []]))
end
end Go.Ab
set_option maxRecDepth 10000
namespace Go.Proofs
open Go Go.Ab
attribute [local irreducible] QR QV OE zca aw zcu zbh za3 zam thn ze6 zdj jch zeh
open Go.H
theorem zzz (h:Hist) (la:h.evs.length≤1000000) (y:AV) (bl b1:Nat) (w:Nat→Ev→Bool) (I F:Nat→List Res) (hy:∀k (hk:k < h.evs.length) r1 r2 r3 r4 r5,y3 Tryz.prog y [iv k,.agg (evR h.evs[k])] (zcd bl h (h.evs.take k) r1 r2 r3 r4 r5 (.box b1 198 [pZ bl]::I k)) (fun r h'=>r=bv (!w k h.evs[k])∧h'=zcd bl h (h.evs.take k) r1 r2 r3 r4 r5 (.box b1 198 [pZ bl]::bif w k h.evs[k] then F k else I (k+1)))):y9 Tryz.prog 287 [y,pZ b1] (.box bl 203 (zbf h):: .box b1 198 [pZ bl]::I 0) (fun r h'=>h'=match zdh w 0 h.evs with|some k=>F k|none=>I h.evs.length):=by
 refine z6 Tryz.func287 rfl rfl rfl ?_
 refine w6 ?_;refine zto 22 eff5 [] (fun he=>HasB he b1 198 [pZ bl]) rfl ?_
 refine jq rfl (fun he hC=>by haveI:=hC;exact qrA) ?_
 refine jq rfl (fun he hC=>by haveI:=hC;exact qrA) ?_
 refine jq rfl (fun he hC=>by haveI:=hC;exact qrA) ?_
 refine jq rfl (fun he hC=>by haveI:=hC;exact qrA) ?_
 refine jq rfl (fun he hC=>by haveI:=hC;exact qrA) ?_
 refine je rfl ?_;refine je rfl ?_;refine je rfl ?_;refine je rfl ?_;refine je rfl ?_;refine jq rfl (fun he hC=>by haveI:=hC;exact qrA) ?_
 refine jq rfl (fun he hC=>by haveI:=hC;exact qrA) ?_
 refine je rfl ?_;refine jq rfl (fun he hC=>by haveI:=hC;exact qrA) ?_
 refine jq rfl (fun he hC=>by haveI:=hC;exact qrA) ?_
 refine je rfl ?_;refine jq rfl (fun he hC=>by haveI:=hC;exact qrA) ?_
 refine jq rfl (fun he hC=>by haveI:=hC;exact qrA) ?_
 refine je rfl ?_;refine jq rfl (fun he hC=>by haveI:=hC;exact qrA) ?_
 refine jq rfl (fun he hC=>by haveI:=hC;exact qrA) ?_
 refine je rfl ?_;refine zyu ?_;refine ⟨J5 bl 203 (x4 h) (.box b1 198 [pZ bl]::I 0),.start,fun L ee he hJ=> ?_,fun L ee he hJ i o hie hiL ho hpre u=> ?_,fun L ee he hJ hall=> ?_⟩
 ·obtain ⟨_,_,_,ρ,_,rfl⟩:=hJ
  exact ⟨.inl (by simp)⟩
 ·simp only [eff5,List.mem_cons,List.not_mem_nil,or_false] at hie
  rcases hie with rfl|rfl|rfl|rfl|rfl|rfl|rfl|rfl|rfl
  ·obtain rfl:=Option.some.inj ho
   exact zau (enc:=zbm) rfl fun r=>⟨_,_,rfl,hJ.make hiL rfl (by decide) r⟩
  ·obtain rfl:=Option.some.inj ho
   exact zau (enc:=zbm) rfl fun r=>⟨_,_,rfl,hJ.make hiL rfl (by decide) r⟩
  ·obtain rfl:=Option.some.inj ho
   exact zau (enc:=zbm) rfl fun r=>⟨_,_,rfl,hJ.make hiL rfl (by decide) r⟩
  ·obtain rfl:=Option.some.inj ho
   exact zau (enc:=zbm) rfl fun r=>⟨_,_,rfl,hJ.make hiL rfl (by decide) r⟩
  ·obtain rfl:=Option.some.inj ho
   exact zau (enc:=zbm) rfl fun r=>⟨_,_,rfl,hJ.make hiL rfl (by decide) r⟩
  ·obtain rfl:=Option.some.inj ho
   have hJ2:=hJ
   obtain ⟨_,_,_,ρ,rfl,rfl⟩:=hJ2
   have hm:5∈L:=hpre 5 (mem?_iff.1 rfl) (by decide)
   haveI:=ylj (bl:=bl) (T:=203) (c0:=x4 h) (R:=(.box b1 198 [pZ bl]::I 0)) (L:=L) (ρ:=ρ)
   haveI:=fun x=>yk9 (bl:=bl) (T:=203) (c0:=x4 h) (R:=(.box b1 198 [pZ bl]::I 0)) (L:=L) (ρ:=ρ) x
   exact zby (b:=bl) (off:=8) (n:=1) rfl (yaq rfl rfl (zgz rfl hm)) rfl rfl (Nat.le_of_ble_eq_true rfl) ⟨.any,_,rfl,hJ.put hiL (by decide) rfl (by decide) hm rfl⟩
  ·obtain rfl:=Option.some.inj ho
   have hJ2:=hJ
   obtain ⟨_,_,_,ρ,rfl,rfl⟩:=hJ2
   have hm:6∈L:=hpre 6 (mem?_iff.1 rfl) (by decide)
   haveI:=ylj (bl:=bl) (T:=203) (c0:=x4 h) (R:=(.box b1 198 [pZ bl]::I 0)) (L:=L) (ρ:=ρ)
   haveI:=fun x=>yk9 (bl:=bl) (T:=203) (c0:=x4 h) (R:=(.box b1 198 [pZ bl]::I 0)) (L:=L) (ρ:=ρ) x
   exact zby (b:=bl) (off:=9) (n:=1) rfl (yaq rfl rfl (zgz rfl hm)) rfl rfl (Nat.le_of_ble_eq_true rfl) ⟨.any,_,rfl,hJ.put hiL (by decide) rfl (by decide) hm rfl⟩
  ·obtain rfl:=Option.some.inj ho
   have hJ2:=hJ
   obtain ⟨_,_,_,ρ,rfl,rfl⟩:=hJ2
   have hm:7∈L:=hpre 7 (mem?_iff.1 rfl) (by decide)
   haveI:=ylj (bl:=bl) (T:=203) (c0:=x4 h) (R:=(.box b1 198 [pZ bl]::I 0)) (L:=L) (ρ:=ρ)
   haveI:=fun x=>yk9 (bl:=bl) (T:=203) (c0:=x4 h) (R:=(.box b1 198 [pZ bl]::I 0)) (L:=L) (ρ:=ρ) x
   exact zby (b:=bl) (off:=10) (n:=1) rfl (yaq rfl rfl (zgz rfl hm)) rfl rfl (Nat.le_of_ble_eq_true rfl) ⟨.any,_,rfl,hJ.put hiL (by decide) rfl (by decide) hm rfl⟩
  ·obtain rfl:=Option.some.inj ho
   have hJ2:=hJ
   obtain ⟨_,_,_,ρ,rfl,rfl⟩:=hJ2
   have hm:8∈L:=hpre 8 (mem?_iff.1 rfl) (by decide)
   haveI:=ylj (bl:=bl) (T:=203) (c0:=x4 h) (R:=(.box b1 198 [pZ bl]::I 0)) (L:=L) (ρ:=ρ)
   haveI:=fun x=>yk9 (bl:=bl) (T:=203) (c0:=x4 h) (R:=(.box b1 198 [pZ bl]::I 0)) (L:=L) (ρ:=ρ) x
   exact zby (b:=bl) (off:=11) (n:=1) rfl (yaq rfl rfl (zgz rfl hm)) rfl rfl (Nat.le_of_ble_eq_true rfl) ⟨.any,_,rfl,hJ.put hiL (by decide) rfl (by decide) hm rfl⟩
 have hJ2:=hJ
 obtain ⟨_,_,_,ρ,rfl,rfl⟩:=hJ2
 have hal:∀i,i∈eff5→i∈L:=fun i hi=>hall i hi (by simp [eff5] at hi;omega)
 refine ln ?_;refine zjw (s':=⟨[(0,y),(1,pZ b1),(10,pZ bl),(15,mpv (ρ 9))],.box bl 203 (x4 h++ [mpv (ρ 5),mpv (ρ 6),mpv (ρ 7),mpv (ρ 8),nmp]):: .map (ρ 5) []:: .map (ρ 6) []:: .map (ρ 7) []:: .map (ρ 8) []:: .map (ρ 9) []::(.box b1 198 [pZ bl]::I 0),[]⟩) (w7 (k8 (hJ.last hal)) (x7 (.cons _ _ _ (yi1 rfl (zjf (by decide)) rfl) (.cons _ _ _ (yi1 rfl (zjf (by decide)) rfl) (.cons _ _ _ rfl (.cons _ _ _ (ymj rfl (zgz (m:=9) rfl (hal 9 (by decide)))) .nil)))))) ?_
 generalize ρ 5=r1
 generalize ρ 6=r2
 generalize ρ 7=r3
 generalize ρ 8=r4
 generalize ρ 9=r5
 refine rn ?_;refine zbc h.evs.length (fun k=>zdh w 0 h.evs=zdh w k (h.evs.drop k)) (fun k=>⟨[(32,iv k),(0,y),(1,pZ b1),(30,zte h.evs),(31,iv (h.evs.map evR).length)],(zcd bl h (h.evs.take k) r1 r2 r3 r4 r5 (.box b1 198 [pZ bl]::I k)),[]⟩) (by simp) es ?_
 intro k lk zk
 have hwl:=fun e:Ev=>zjx (h.evs.take k) e.t e.o
 have hle:(h.evs.take k).length≤h.evs.length:=by simp;omega
 refine rn ?_;refine z8 rfl (fun hc33=> ?_) (fun hc33=> ?_)
 ·have hk:=zd0 hc33
  have rk:=zdp (f:=evR) hk
  refine rn ?_;refine z7 rfl (x5 rfl fun b4=> ?_)
  refine rn ?_;refine z7 rfl (w8 rfl rfl (y3.fr1 (hy k hk r1 r2 r3 r4 r5)) rfl ?_)
  rintro _ _ ⟨_,rfl,rfl,rfl⟩
  refine rn ?_;refine z8 rfl (fun hc41=> ?_) (fun hc41=> ?_)
  ·have hw:w k h.evs[k]=true:=by simpa using hc41
   rw [hw]
   refine rn ?_;exact zd7 .nil (.drop [_,_,_,_,_,_,_,_] _ _) (by rw [zfp hk zk hw])
  ·have hw:w k h.evs[k]=false:=by simpa using hc41
   rw [hw]
   refine rn ?_;refine z8 rfl (fun hc44=> ?_) (fun hc44=> ?_)
   ·refine j4 6 rfl ?_
    refine rn ?_;refine z7 rfl (za0 (g:=bv) (enc:=zbm) (k:=h.evs[k].t) (v:=true) rfl rfl rfl ?_)
    refine rn ?_;have et:=List.take_succ_eq_append_getElem hk
    exact ⟨hk,zcx hk zk hw,by rw [et];simp only [zcd,zf2,zfq,zfj,zdi,zfm,kTO,kOV];first|(rw [if_pos (by simp_all),if_neg (by simp_all),if_neg (by simp_all),if_neg (by simp_all),if_neg (by simp_all)];exact eA)|(rw [if_neg (by simp_all),if_pos (by simp_all),if_neg (by simp_all),if_neg (by simp_all),if_neg (by simp_all)];exact eA)|(rw [if_neg (by simp_all),if_neg (by simp_all),if_pos (by simp_all),if_pos (by simp_all),if_pos (by simp_all)];exact eA)|(rw [if_neg (by simp_all),if_neg (by simp_all),if_neg (by simp_all),if_neg (by simp_all),if_neg (by simp_all)];exact eA)⟩
   ·refine rn ?_;refine z8 rfl (fun hc52=> ?_) (fun hc52=> ?_)
    ·refine rn ?_;refine z8 rfl (fun hc52=> ?_) (fun hc52=> ?_)
     ·refine j4 6 rfl ?_
      refine rn ?_;refine z7 rfl (za0 (g:=bv) (enc:=zbm) (k:=h.evs[k].t) (v:=true) rfl rfl rfl ?_)
      refine rn ?_;have et:=List.take_succ_eq_append_getElem hk
      exact ⟨hk,zcx hk zk hw,by rw [et];simp only [zcd,zf2,zfq,zfj,zdi,zfm,kTO,kOV];first|(rw [if_pos (by simp_all),if_neg (by simp_all),if_neg (by simp_all),if_neg (by simp_all),if_neg (by simp_all)];exact eA)|(rw [if_neg (by simp_all),if_pos (by simp_all),if_neg (by simp_all),if_neg (by simp_all),if_neg (by simp_all)];exact eA)|(rw [if_neg (by simp_all),if_neg (by simp_all),if_pos (by simp_all),if_pos (by simp_all),if_pos (by simp_all)];exact eA)|(rw [if_neg (by simp_all),if_neg (by simp_all),if_neg (by simp_all),if_neg (by simp_all),if_neg (by simp_all)];exact eA)⟩
     ·first|cases hc52|exact absurd hc52 (by decide)|(exfalso;simp_all;done)
    ·refine rn ?_;refine z8 rfl (fun hc52=> ?_) (fun hc52=> ?_)
     ·refine j4 6 rfl ?_
      refine rn ?_;refine z7 rfl (za0 (g:=bv) (enc:=zbm) (k:=h.evs[k].t) (v:=true) rfl rfl rfl ?_)
      refine rn ?_;have et:=List.take_succ_eq_append_getElem hk
      exact ⟨hk,zcx hk zk hw,by rw [et];simp only [zcd,zf2,zfq,zfj,zdi,zfm,kTO,kOV];first|(rw [if_pos (by simp_all),if_neg (by simp_all),if_neg (by simp_all),if_neg (by simp_all),if_neg (by simp_all)];exact eA)|(rw [if_neg (by simp_all),if_pos (by simp_all),if_neg (by simp_all),if_neg (by simp_all),if_neg (by simp_all)];exact eA)|(rw [if_neg (by simp_all),if_neg (by simp_all),if_pos (by simp_all),if_pos (by simp_all),if_pos (by simp_all)];exact eA)|(rw [if_neg (by simp_all),if_neg (by simp_all),if_neg (by simp_all),if_neg (by simp_all),if_neg (by simp_all)];exact eA)⟩
     ·refine rn ?_;refine z8 rfl (fun hc61=> ?_) (fun hc61=> ?_)
      ·refine w6 (y6 ?_)
       refine q1 ?_;refine q1 ?_;refine q1 ?_;refine q1 ?_;refine qq rfl rfl (zab (out:= [iv h.evs[k].t,iv h.evs[k].o]) rfl (by rfl)) ?_
       refine z7 rfl (x5 rfl fun b5=> ?_)
       refine rn0 ?_;refine w6 ?_;refine zjv 9 [7] [8] (fun he=>he= .box b5 297 [iv h.evs[k].t,iv h.evs[k].o]:: .box b4 66 (evR h.evs[k]):: .box bl 203 (yan h r1 r2 r3 r4 r5):: .map r1 (j9 zbm (zbe bv (zyw (h.evs.take k)))):: .map r2 (j9 zbm (zbe bv (zys (h.evs.take k)))):: .map r3 (j9 zda (zbe iv (ztt (h.evs.take k)))):: .map r4 (j9 zda (zbe zty (zn7 (h.evs.take k)))):: .map r5 (j9 zej (zbe bv (zyr (h.evs.take k)))):: .box b1 198 [pZ bl]::I (k+1)∨∃j st,he= .box b5 297 [iv h.evs[k].t,iv h.evs[k].o]:: .box b4 66 (evR h.evs[k]):: .box bl 203 (yan h r1 r2 r3 r4 r5):: .map r1 (j9 zbm (zbe bv (zyw (h.evs.take k)))):: .map r2 (j9 zbm (zbe bv (zys (h.evs.take k)))):: .mape r3 (j9 zda (ziv (h.evs[k].t,h.evs[k].o) (iv 0) (zbe iv (ztt (h.evs.take k))))) j st:: .map r4 (j9 zda (zbe zty (zn7 (h.evs.take k)))):: .map r5 (j9 zej (zbe bv (zyr (h.evs.take k)))):: .box b1 198 [pZ bl]::I (k+1)) rfl rfl (.inl rfl) ?_
       refine jq rfl (fun he hC=>by rcases hC with rfl|⟨j,st,rfl⟩ <;> exact qrA) ?_
       refine jq rfl (fun he hC=>by rcases hC with rfl|⟨j,st,rfl⟩ <;> exact qrA) ?_
       refine jq rfl (fun he hC=>by rcases hC with rfl|⟨j,st,rfl⟩ <;> exact qrA) ?_
       refine jq rfl (fun he hC=>by rcases hC with rfl|⟨j,st,rfl⟩ <;> exact qrA) ?_
       refine jq rfl (fun he hC=>by rcases hC with rfl|⟨j,st,rfl⟩ <;> exact qrA) ?_
       refine jq rfl (fun he hC=>by rcases hC with rfl|⟨j,st,rfl⟩ <;> exact (by first|exact zbx (enc:=zda) (k:=(h.evs[k].t,h.evs[k].o)) (0:Int) rfl rfl|exact zwa (enc:=zda) (k:=(h.evs[k].t,h.evs[k].o)) (0:Int) rfl rfl)) ?_
       refine jq rfl (fun he hC=>by rcases hC with rfl|⟨j,st,rfl⟩ <;> exact (by exact k7 rfl rfl rfl (by rw [zi3];have:=zjx (h.evs.take k) h.evs[k].t h.evs[k].o;omega))) ?_
       refine je rfl ?_;refine je rfl ?_;refine zyu ?_;refine jce rfl fun u=> ?_
       refine zh2 (enc:=zda) (k:=(h.evs[k].t,h.evs[k].o)) rfl rfl rfl fun j st hj=>⟨_,_,rfl,.inr ⟨_,_,rfl⟩,?_⟩
       refine jcn ?_;refine lq rfl rfl (by exact qrA) ?_
       refine ln ?_;refine z7 rfl (zki (g:=iv) (enc:=zda) (k:=(h.evs[k].t,h.evs[k].o)) (v:=((zbn (h.evs[k].t,h.evs[k].o) (ztt (h.evs.take k))).getD 0+1)) rfl rfl rfl (hj _) ?_)
       refine rn0 ?_;refine zjv 19 [16,17,18] [] (fun he=>∃x:Res,he= .box b5 297 [iv h.evs[k].t,iv h.evs[k].o]:: .box b4 66 (evR h.evs[k]):: .box bl 203 (yan h r1 r2 r3 r4 r5):: .map r1 (j9 zbm (zbe bv (zyw (h.evs.take k)))):: .map r2 (j9 zbm (zbe bv (zys (h.evs.take k)))):: .map r3 (j9 zda (zbe iv (zd8 (h.evs[k].t,h.evs[k].o) ((zbn (h.evs[k].t,h.evs[k].o) (ztt (h.evs.take k))).getD 0+1) (ztt (h.evs.take k)))))::x:: .map r5 (j9 zej (zbe bv (zyr (h.evs.take k)))):: .box b1 198 [pZ bl]::I (k+1)) rfl rfl ⟨_,rfl⟩ ?_
       refine jq rfl (fun he hC=>by obtain ⟨x,rfl⟩:=hC <;> exact qrA) ?_
       refine jq rfl (fun he hC=>by obtain ⟨x,rfl⟩:=hC <;> exact qrA) ?_
       refine jq rfl (fun he hC=>by obtain ⟨x,rfl⟩:=hC <;> exact qrA) ?_
       refine jq rfl (fun he hC=>by obtain ⟨x,rfl⟩:=hC <;> exact qrA) ?_
       refine jq rfl (fun he hC=>by obtain ⟨x,rfl⟩:=hC <;> exact qrA) ?_
       refine jq rfl (fun he hC=>by obtain ⟨x,rfl⟩:=hC <;> exact qrA) ?_
       refine jq rfl (fun he hC=>by obtain ⟨x,rfl⟩:=hC <;> exact qrA) ?_
       refine jq rfl (fun he hC=>by obtain ⟨x,rfl⟩:=hC <;> exact qrA) ?_
       refine jq rfl (fun he hC=>by obtain ⟨x,rfl⟩:=hC <;> exact qrA) ?_
       refine jq rfl (fun he hC=>by obtain ⟨x,rfl⟩:=hC <;> exact qrA) ?_
       refine jq rfl (fun he hC=>by obtain ⟨x,rfl⟩:=hC <;> exact qrA) ?_
       refine jq rfl (fun he hC=>by obtain ⟨x,rfl⟩:=hC <;> exact qrA) ?_
       refine jq rfl (fun he hC=>by obtain ⟨x,rfl⟩:=hC <;> exact qrA) ?_
       refine jq (av:= .agg [iv h.evs[k].o,iv h.evs[k].v.t,iv h.evs[k].v.k]) rfl (fun he hC=>by obtain ⟨x,rfl⟩:=hC <;> exact (by exact zab (out:= [iv (h.evs[k]'hk).o,iv (h.evs[k]'hk).v.t,iv (h.evs[k]'hk).v.k]) rfl (by rfl))) ?_
       refine jq rfl (fun he hC=>by obtain ⟨x,rfl⟩:=hC <;> exact qrA) ?_
       refine jq rfl (fun he hC=>by obtain ⟨x,rfl⟩:=hC <;> exact qrA) ?_
       refine je rfl ?_;refine je rfl ?_;refine je rfl ?_;refine zyu ?_;refine jce rfl fun u=> ?_
       refine zh2 (enc:=zda) (k:=(h.evs[k].t,h.evs[k].o)) rfl rfl rfl fun j st hj=>⟨_,_,rfl,⟨_,rfl⟩,?_⟩
       refine jce rfl fun u=> ?_
       refine ylc qrA ⟨_,_,rfl,⟨_,rfl⟩,?_⟩
       refine jce rfl fun u=> ?_
       refine zki (g:=zty) (enc:=zda) (k:=(h.evs[k].t,h.evs[k].o)) (v:=h.evs[k].v) rfl rfl rfl (hj _) ⟨.any,_,rfl,⟨_,rfl⟩,?_⟩
       refine jcn ?_;refine ln ?_;refine z7 rfl (zh2 (enc:=zej) (k:=(h.evs[k].o,h.evs[k].v.t,h.evs[k].v.k)) rfl rfl rfl fun j2 st2 hj2=> ?_)
       refine rn ?_;refine z7 rfl (zki (g:=bv) (enc:=zej) (k:=(h.evs[k].o,h.evs[k].v.t,h.evs[k].v.k)) (v:=true) rfl rfl rfl (hj2 _) ?_)
       refine rn ?_;have et:=List.take_succ_eq_append_getElem hk
       exact ⟨hk,zcx hk zk hw,by rw [et];simp only [zcd,zf2,zfq,zfj,zdi,zfm,kTO,kOV];first|(rw [if_pos (by simp_all),if_neg (by simp_all),if_neg (by simp_all),if_neg (by simp_all),if_neg (by simp_all)];exact eA)|(rw [if_neg (by simp_all),if_pos (by simp_all),if_neg (by simp_all),if_neg (by simp_all),if_neg (by simp_all)];exact eA)|(rw [if_neg (by simp_all),if_neg (by simp_all),if_pos (by simp_all),if_pos (by simp_all),if_pos (by simp_all)];exact eA)|(rw [if_neg (by simp_all),if_neg (by simp_all),if_neg (by simp_all),if_neg (by simp_all),if_neg (by simp_all)];exact eA)⟩
      ·refine rn ?_;have et:=List.take_succ_eq_append_getElem hk
       exact ⟨hk,zcx hk zk hw,by rw [et];simp only [zcd,zf2,zfq,zfj,zdi,zfm,kTO,kOV];first|(rw [if_pos (by simp_all),if_neg (by simp_all),if_neg (by simp_all),if_neg (by simp_all),if_neg (by simp_all)];exact eA)|(rw [if_neg (by simp_all),if_pos (by simp_all),if_neg (by simp_all),if_neg (by simp_all),if_neg (by simp_all)];exact eA)|(rw [if_neg (by simp_all),if_neg (by simp_all),if_pos (by simp_all),if_pos (by simp_all),if_pos (by simp_all)];exact eA)|(rw [if_neg (by simp_all),if_neg (by simp_all),if_neg (by simp_all),if_neg (by simp_all),if_neg (by simp_all)];exact eA)⟩
 ·have qk:=zd1 hc33 lk
  refine rn ?_;exact zdw .nil (.drop [_,_,_,_,_,_,_] _ _) (by rw [zhg qk zk,qk])
theorem yel (bl:Nat) (W:List Res):y9 Tryz.prog 283 [pZ bl] W (fun r h'=>∃b1,h'= .box b1 198 [pZ bl]::W∧r= .fn (.func 287) [] [pZ b1]):=by
 refine z6 Tryz.func283 rfl rfl rfl ?_
 refine rn ?_;refine z7 rfl (x9 rfl rfl rfl fun b1=> ?_)
 refine rn ?_;exact j6 rfl (.refl _ _) ⟨_,rfl,rfl⟩
theorem rAt (h:Hist) (la:h.evs.length≤1000000) (bl:Nat) (fv:AV) (hone:fv.cellsOf=some [fv]) (W:List Res) (w:Nat→Ev→Bool) (hp:∀k (hk:k < h.evs.length) r1 r2 r3 r4 r5,y3 Tryz.prog fv [.agg (evR h.evs[k])] (zcd bl h (h.evs.take k) r1 r2 r3 r4 r5 W) (fun r h'=>h'=zcd bl h (h.evs.take k) r1 r2 r3 r4 r5 W∧r=bv (w k h.evs[k]))):y9 Tryz.prog 258 [pZ bl,fv] (.box bl 203 (zbf h)::W) (fun r h'=>h'=W∧r=zaw (zdh w 0 h.evs)):=by
 refine z6 Tryz.func258 rfl rfl rfl ?_
 refine rn ?_;refine z7 rfl (x9 rfl hone rfl fun b3=> ?_)
 refine z7 rfl (x5 rfl fun b4=> ?_)
 refine z7 rfl (x5 rfl fun b5=> ?_)
 refine rn ?_;refine z7 rfl (w8 rfl rfl (y3.of_fun (yel bl _)) rfl ?_)
 rintro _ _ ⟨b1,rfl,rfl⟩
 refine rn ?_;refine zlo (fun pend h''=>(pend=none∧zdh w 0 h.evs=none∧h''= .box b5 4 [bv false]:: .box b4 3 [iv 0]:: .box b3 210 [fv]::W)∨(pend=some .ret∧∃k:Nat,zdh w 0 h.evs=some k∧h''= .box b5 4 [bv true]:: .box b4 3 [iv (k:Nat)]:: .box b3 210 [fv]::W)) rfl (fun fn l q lp hlp=> ?_) (fun q h'' hK=> ?_) (fun q h'' c hK=> ?_)
 ·suffices hy:∀k (hk:k < h.evs.length) r1 r2 r3 r4 r5,y3 Tryz.prog (yv l) [iv k,.agg (evR h.evs[k])] (zcd bl h (h.evs.take k) r1 r2 r3 r4 r5 (.box b1 198 [pZ bl]::(fun _=>lp .ready none:: .defs q:: .box b5 4 [bv false]:: .box b4 3 [iv 0]:: .box b3 210 [fv]::W) k)) (fun r h'=>r=bv (!w k h.evs[k])∧h'=zcd bl h (h.evs.take k) r1 r2 r3 r4 r5 (.box b1 198 [pZ bl]::bif w k h.evs[k] then (fun k=>lp .done (some .ret):: .defs q:: .box b5 4 [bv true]:: .box b4 3 [iv (k:Nat)]:: .box b3 210 [fv]::W) k else (fun _=>lp .ready none:: .defs q:: .box b5 4 [bv false]:: .box b4 3 [iv 0]:: .box b3 210 [fv]::W) (k+1))) by
   refine y9.mono (y9.perm ((pt6 _ _ _ _ _ _ _ _).trans (.cons _ (pt2 _ _ _ _))) (zzz h la (yv l) bl b1 w (fun _=>lp .ready none:: .defs q:: .box b5 4 [bv false]:: .box b4 3 [iv 0]:: .box b3 210 [fv]::W) (fun k=>lp .done (some .ret):: .defs q:: .box b5 4 [bv true]:: .box b4 3 [iv (k:Nat)]:: .box b3 210 [fv]::W) hy)) ?_
   rintro _ _ rfl
   cases hr:zdh w 0 h.evs with
   |none=>exact ⟨none,.ready,_,.refl _,by simp,.inl ⟨rfl,rfl,rfl⟩⟩
   |some k=>exact ⟨_,_,_,.refl _,by simp,.inr ⟨rfl,k,rfl,rfl⟩⟩
  intro k hk r1 r2 r3 r4 r5
  refine y3.perm (pt7 _ _ _ _ _ _ _ _ _) (y3.permR ?_)
  refine zdl hlp rfl rfl ?_
  refine rn ?_;refine z7 rfl (x5 rfl fun b7=> ?_)
  refine rn ?_;refine ⟨[(6,iv k),(7,pZ b7),(3,pZ b3),(4,pZ b4),(5,pZ b5)],.box b7 66 (evR h.evs[k])::zcd bl h (h.evs.take k) r1 r2 r3 r4 r5 (.box b1 198 [pZ bl]:: .defs q:: .box b5 4 [bv false]:: .box b4 3 [iv 0]:: .box b3 210 [fv]::W),w7 (k8 (pt1 _ _ _)) es,?_⟩
  refine rn ?_;refine qv rfl rfl (y4 rfl rfl (y3.qt (h2:= [_,_,_,_,_,_,_]) (hp k hk r1 r2 r3 r4 r5) (List.Perm.trans (.cons _ (.cons _ ((pt6 _ _ _ _ _ _ _ _).trans (.cons _ ((pt6 _ _ _ _ _ _ _ _).trans (.cons _ ((pt6 _ _ _ _ _ _ _ _).trans (.cons _ ((pt6 _ _ _ _ _ _ _ _).trans (.cons _ (pt6 _ _ _ _ _ _ _ _))))))))))) (zc0 [_,_,_,_,_,_,_] _)))) ?_
  refine rn ?_;refine z8 rfl (fun hc14=> ?_) (fun hc14=> ?_)
  ·have hw:w k h.evs[k]=true:=by simpa using hc14
   refine ziw (s':=⟨[(6,iv k),(4,pZ b4),(5,pZ b5)],lp .busy none::zcd bl h (h.evs.take k) r1 r2 r3 r4 r5 (.box b1 198 [pZ bl]:: .defs q:: .box b5 4 [bv false]:: .box b4 3 [iv 0]:: .box b3 210 [fv]::W),[]⟩) (eD 1) ?_
   refine rn ?_;exact zmy (.refl _) ⟨_,((pt1 _ _ _).trans (.cons _ ((pt1 _ _ _).trans (.cons _ ((pt1 _ _ _).trans (.cons _ ((pt1 _ _ _).trans (.cons _ ((pt1 _ _ _).trans (.cons _ ((pt1 _ _ _).trans (.cons _ (pt1 _ _ _))))))))))))),by rw [hw];rfl,by rw [hw];rfl⟩
  ·have hw:w k h.evs[k]=false:=by simpa using hc14
   refine ziw (s':=⟨[(6,iv k),(4,pZ b4),(5,pZ b5)],lp .busy none::zcd bl h (h.evs.take k) r1 r2 r3 r4 r5 (.box b1 198 [pZ bl]:: .defs q:: .box b5 4 [bv false]:: .box b4 3 [iv 0]:: .box b3 210 [fv]::W),[]⟩) (eD 1) ?_
   refine rn ?_;exact zgw (.refl _) ⟨_,((pt1 _ _ _).trans (.cons _ ((pt1 _ _ _).trans (.cons _ ((pt1 _ _ _).trans (.cons _ ((pt1 _ _ _).trans (.cons _ ((pt1 _ _ _).trans (.cons _ ((pt1 _ _ _).trans (.cons _ (pt1 _ _ _))))))))))))),by rw [hw];rfl,by rw [hw];rfl⟩
 ·obtain ⟨_,hr,rfl⟩|⟨hc,_⟩:=hK
  rotate_left
  ·cases hc
  refine rn ?_;exact zgf (.refl _) (.cons _ _ _ _ (.one _ _ _ _ _ _ _ rfl inferInstance inferInstance rfl) (.cons _ _ _ _ (.one _ _ _ _ _ _ _ rfl inferInstance inferInstance rfl) .nil)) (.drop [_,_,_] _ _) ⟨rfl,by rw [hr];rfl⟩
 ·obtain ⟨hc,_⟩|⟨hc,k,hr,rfl⟩:=hK
  ·cases hc
  obtain rfl:c= .ret:=by simpa using hc
  refine rn ?_;exact zgf (.refl _) (.cons _ _ _ _ (.one _ _ _ _ _ _ _ rfl inferInstance inferInstance rfl) (.cons _ _ _ _ (.one _ _ _ _ _ _ _ rfl inferInstance inferInstance rfl) .nil)) (.drop [_,_,_] _ _) ⟨rfl,by rw [hr];rfl⟩
theorem zcz (o:Option Nat):∃i b,zaw o= .tup [iv i,bv b]:=by
 cases o with
 |none=>exact ⟨_,_,rfl⟩
 |some i=>exact ⟨_,_,rfl⟩
theorem yii (h:Hist) (la:Lim 3000 h) (bl:Nat) (G:List Res):y9 Tryz.prog 245 [pZ bl] (.box bl 203 (zbf h)::G) (fun r h'=>h'=G∧r=zaw (zci h 1)):=by
 refine z6 Tryz.func245 rfl rfl rfl ?_
 refine rn ?_;refine z7 rfl (x9 rfl rfl rfl fun b1=> ?_)
 refine rn ?_;refine z7 rfl (w8 rfl rfl (y3.perm (pt1 _ _ _) (y3.of_fun (rAt h (Nat.le_trans la.evs (by decide)) bl (.fn (.func 259) [] [pZ b1]) rfl (.box b1 198 [pZ bl]::G) (fun k e=>zb2 1 e (h.evs.take k)) (fun k hk r1 r2 r3 r4 r5=>y3.qt (h2:=G) (y3.of_acall (fs:= []) (cs:= [pZ b1]) (yen _ bl b1 h _ r1 r2 r3 r4 r5)) (.refl _))))) rfl ?_)
 rintro _ _ ⟨rfl,rfl⟩
 obtain ⟨pi,pb,hpv⟩:∃i b,zaw (zdh (fun k e=>zb2 1 e (h.evs.take k)) 0 h.evs)= .tup [iv i,bv b]:=zcz _
 rw [hpv]
 refine rn ?_;refine rq 1 ?_
 exact ⟨rfl,hpv.symm⟩
theorem yn9 (h:Hist) (la:Lim 3000 h) (bl:Nat) (G:List Res):y9 Tryz.prog 249 [pZ bl] (.box bl 203 (zbf h)::G) (fun r h'=>h'=G∧r=zaw (zci h 2)):=by
 refine z6 Tryz.func249 rfl rfl rfl ?_
 refine rn ?_;refine z7 rfl (x9 rfl rfl rfl fun b1=> ?_)
 refine rn ?_;refine z7 rfl (w8 rfl rfl (y3.perm (pt1 _ _ _) (y3.of_fun (rAt h (Nat.le_trans la.evs (by decide)) bl (.fn (.func 260) [] [pZ b1]) rfl (.box b1 198 [pZ bl]::G) (fun k e=>zb2 2 e (h.evs.take k)) (fun k hk r1 r2 r3 r4 r5=>y3.qt (h2:=G) (y3.of_acall (fs:= []) (cs:= [pZ b1]) (yl8 _ bl b1 h _ r1 r2 r3 r4 r5)) (.refl _))))) rfl ?_)
 rintro _ _ ⟨rfl,rfl⟩
 obtain ⟨pi,pb,hpv⟩:∃i b,zaw (zdh (fun k e=>zb2 2 e (h.evs.take k)) 0 h.evs)= .tup [iv i,bv b]:=zcz _
 rw [hpv]
 refine rn ?_;refine rq 1 ?_
 exact ⟨rfl,hpv.symm⟩
theorem yih (h:Hist) (la:Lim 3000 h) (bl:Nat) (G:List Res):y9 Tryz.prog 250 [pZ bl] (.box bl 203 (zbf h)::G) (fun r h'=>h'=G∧r=zaw (zci h 3)):=by
 refine z6 Tryz.func250 rfl rfl rfl ?_
 refine rn ?_;refine z7 rfl (x9 rfl rfl rfl fun b1=> ?_)
 refine rn ?_;refine z7 rfl (w8 rfl rfl (y3.perm (pt1 _ _ _) (y3.of_fun (rAt h (Nat.le_trans la.evs (by decide)) bl (.fn (.func 261) [] [pZ b1]) rfl (.box b1 198 [pZ bl]::G) (fun k e=>zb2 3 e (h.evs.take k)) (fun k hk r1 r2 r3 r4 r5=>y3.qt (h2:=G) (y3.of_acall (fs:= []) (cs:= [pZ b1]) (yem _ bl b1 h _ r1 r2 r3 r4 r5 (by have:=la.evs;simp;omega))) (.refl _))))) rfl ?_)
 rintro _ _ ⟨rfl,rfl⟩
 obtain ⟨pi,pb,hpv⟩:∃i b,zaw (zdh (fun k e=>zb2 3 e (h.evs.take k)) 0 h.evs)= .tup [iv i,bv b]:=zcz _
 rw [hpv]
 refine rn ?_;refine rq 1 ?_
 exact ⟨rfl,hpv.symm⟩
theorem zzu (h:Hist) (la:Lim 3000 h) (bl:Nat) (G:List Res):y9 Tryz.prog 251 [pZ bl] (.box bl 203 (zbf h)::G) (fun r h'=>h'=G∧r=zaw (zci h 4)):=by
 refine z6 Tryz.func251 rfl rfl rfl ?_
 refine rn ?_;refine z7 rfl (x9 rfl rfl rfl fun b1=> ?_)
 refine rn ?_;refine z7 rfl (w8 rfl rfl (y3.perm (pt1 _ _ _) (y3.of_fun (rAt h (Nat.le_trans la.evs (by decide)) bl (.fn (.func 262) [] [pZ b1]) rfl (.box b1 198 [pZ bl]::G) (fun k e=>zb2 4 e (h.evs.take k)) (fun k hk r1 r2 r3 r4 r5=>y3.qt (h2:=G) (y3.of_acall (fs:= []) (cs:= [pZ b1]) (zv4 _ bl b1 h _ r1 r2 r3 r4 r5 (Nat.le_trans (la.scans _ (List.getElem_mem hk)) (by decide)))) (.refl _))))) rfl ?_)
 rintro _ _ ⟨rfl,rfl⟩
 obtain ⟨pi,pb,hpv⟩:∃i b,zaw (zdh (fun k e=>zb2 4 e (h.evs.take k)) 0 h.evs)= .tup [iv i,bv b]:=zcz _
 rw [hpv]
 refine rn ?_;refine rq 1 ?_
 exact ⟨rfl,hpv.symm⟩
theorem yn5 (h:Hist) (la:Lim 3000 h) (bl:Nat) (G:List Res):y9 Tryz.prog 252 [pZ bl] (.box bl 203 (zbf h)::G) (fun r h'=>h'=G∧r=zaw (zci h 5)):=by
 refine z6 Tryz.func252 rfl rfl rfl ?_
 refine rn ?_;refine z7 rfl (x9 rfl rfl rfl fun b1=> ?_)
 refine rn ?_;refine z7 rfl (w8 rfl rfl (y3.perm (pt1 _ _ _) (y3.of_fun (rAt h (Nat.le_trans la.evs (by decide)) bl (.fn (.func 265) [] [pZ b1]) rfl (.box b1 198 [pZ bl]::G) (fun k e=>zb2 5 e (h.evs.take k)) (fun k hk r1 r2 r3 r4 r5=>y3.qt (h2:=G) (y3.of_acall (fs:= []) (cs:= [pZ b1]) (yl4 _ bl b1 h _ r1 r2 r3 r4 r5 (Nat.le_trans (la.scans _ (List.getElem_mem hk)) (by decide)))) (.refl _))))) rfl ?_)
 rintro _ _ ⟨rfl,rfl⟩
 obtain ⟨pi,pb,hpv⟩:∃i b,zaw (zdh (fun k e=>zb2 5 e (h.evs.take k)) 0 h.evs)= .tup [iv i,bv b]:=zcz _
 rw [hpv]
 refine rn ?_;refine rq 1 ?_
 exact ⟨rfl,hpv.symm⟩
theorem yl3 (h:Hist) (la:Lim 3000 h) (bl:Nat) (G:List Res):y9 Tryz.prog 253 [pZ bl] (.box bl 203 (zbf h)::G) (fun r h'=>h'=G∧r=zaw (zci h 6)):=by
 refine z6 Tryz.func253 rfl rfl rfl ?_
 refine rn ?_;refine z7 rfl (w8 rfl rfl (id (y3.of_fun (rAt h (Nat.le_trans la.evs (by decide)) bl (.fn (.func 267) [] []) rfl (G) (fun k e=>zb2 6 e (h.evs.take k)) (fun k hk r1 r2 r3 r4 r5=>y3.pure (R:=fun r=>r=bv _) (y3.of_acall (fs:= []) (cs:= []) (yh9 _ (Nat.le_trans (la.scans _ (List.getElem_mem hk)) (by decide)))))))) rfl ?_)
 rintro _ _ ⟨rfl,rfl⟩
 obtain ⟨pi,pb,hpv⟩:∃i b,zaw (zdh (fun k e=>zb2 6 e (h.evs.take k)) 0 h.evs)= .tup [iv i,bv b]:=zcz _
 rw [hpv]
 refine rn ?_;refine rq 0 ?_
 exact ⟨rfl,hpv.symm⟩
open Go.Shelf
def ydq:Go.Shelf.Ren:=⟨fun|125=>289|128=>299|129=>300|189=>284|215=>306|216=>296|257=>288|294=>290|295=>291|296=>292|297=>293|298=>294|299=>295|300=>297|301=>298|328=>301|329=>302|330=>303|331=>304|332=>305|343=>307|n=>n,fun|0=>0|3=>3|4=>4|5=>5|9=>9|28=>54|46=>49|51=>286|53=>325|131=>67|182=>317|183=>318|218=>326|222=>169|228=>331|229=>332|n=>n,fun n=>n⟩
theorem zzi:Lays.n189 Tryz.prog ydq:={
 mixed:=by kernel_rfl
 f125:=Tryz.func289.trans (congrArg some (by kernel_rfl))
 f128:=Tryz.func299.trans (congrArg some (by kernel_rfl))
 f129:=Tryz.func300.trans (congrArg some (by kernel_rfl))
 f189:=Tryz.func284.trans (congrArg some (by kernel_rfl))
 f215:=Tryz.func306.trans (congrArg some (by kernel_rfl))
 f216:=Tryz.func296.trans (congrArg some (by kernel_rfl))
 f257:=Tryz.func288.trans (congrArg some (by kernel_rfl))
 f294:=Tryz.func290.trans (congrArg some (by kernel_rfl))
 f295:=Tryz.func291.trans (congrArg some (by kernel_rfl))
 f296:=Tryz.func292.trans (congrArg some (by kernel_rfl))
 f297:=Tryz.func293.trans (congrArg some (by kernel_rfl))
 f298:=Tryz.func294.trans (congrArg some (by kernel_rfl))
 f299:=Tryz.func295.trans (congrArg some (by kernel_rfl))
 f300:=Tryz.func297.trans (congrArg some (by kernel_rfl))
 f301:=Tryz.func298.trans (congrArg some (by kernel_rfl))
 f328:=Tryz.func301.trans (congrArg some (by kernel_rfl))
 f329:=Tryz.func302.trans (congrArg some (by kernel_rfl))
 f330:=Tryz.func303.trans (congrArg some (by kernel_rfl))
 f331:=Tryz.func304.trans (congrArg some (by kernel_rfl))
 f332:=Tryz.func305.trans (congrArg some (by kernel_rfl))
 f343:=Tryz.func307.trans (congrArg some (by kernel_rfl))
 t0:=Tryz.underlying0
 a0:=Tryz.isAgg0
 z0:=Tryz.sizeOf0
 v0:=Tryz.zeroValue0
 t3:=Tryz.underlying3
 a3:=Tryz.isAgg3
 z3:=Tryz.sizeOf3
 v3:=Tryz.zeroValue3
 t4:=Tryz.underlying4
 a4:=Tryz.isAgg4
 z4:=Tryz.sizeOf4
 v4:=Tryz.zeroValue4
 t5:=Tryz.underlying5
 a5:=Tryz.isAgg5
 z5:=Tryz.sizeOf5
 v5:=Tryz.zeroValue5
 t9:=Tryz.underlying9
 a9:=Tryz.isAgg9
 z9:=Tryz.sizeOf9
 v9:=Tryz.zeroValue9
 t28:=Tryz.underlying54
 a28:=Tryz.isAgg54
 z28:=Tryz.sizeOf54
 v28:=Tryz.zeroValue54
 t46:=Tryz.underlying49
 a46:=Tryz.isAgg49
 z46:=Tryz.sizeOf49
 v46:=Tryz.zeroValue49
 t51:=Tryz.underlying286
 a51:=Tryz.isAgg286
 z51:=Tryz.sizeOf286
 v51:=Tryz.zeroValue286
 t53:=Tryz.underlying325
 a53:=Tryz.isAgg325
 z53:=Tryz.sizeOf325
 v53:=Tryz.zeroValue325
 t131:=Tryz.underlying67
 a131:=Tryz.isAgg67
 z131:=Tryz.sizeOf67
 v131:=Tryz.zeroValue67
 t182:=Tryz.underlying317
 a182:=Tryz.isAgg317
 z182:=Tryz.sizeOf317
 v182:=Tryz.zeroValue317
 t183:=Tryz.underlying318
 a183:=Tryz.isAgg318
 z183:=Tryz.sizeOf318
 v183:=Tryz.zeroValue318
 t218:=Tryz.underlying326
 a218:=Tryz.isAgg326
 z218:=Tryz.sizeOf326
 v218:=Tryz.zeroValue326
 t222:=Tryz.underlying169
 a222:=Tryz.isAgg169
 z222:=Tryz.sizeOf169
 v222:=Tryz.zeroValue169
 t228:=Tryz.underlying331
 a228:=Tryz.isAgg331
 z228:=Tryz.sizeOf331
 v228:=Tryz.zeroValue331
 t229:=Tryz.underlying332
 a229:=Tryz.isAgg332
 z229:=Tryz.sizeOf332
 v229:=Tryz.zeroValue332}
def yf5:Go.Shelf.Ren:=⟨fun|20=>162|n=>n,fun|0=>0|3=>3|4=>4|22=>54|n=>n,fun n=>n⟩
theorem ybh:Lays2.n20 Tryz.prog yf5:={
 mixed:=by kernel_rfl
 f20:=Tryz.func162.trans (congrArg some (by kernel_rfl))
 i3:=by kernel_rfl
 t0:=Tryz.underlying0
 a0:=Tryz.isAgg0
 z0:=Tryz.sizeOf0
 v0:=Tryz.zeroValue0
 t3:=Tryz.underlying3
 a3:=Tryz.isAgg3
 z3:=Tryz.sizeOf3
 v3:=Tryz.zeroValue3
 t4:=Tryz.underlying4
 a4:=Tryz.isAgg4
 z4:=Tryz.sizeOf4
 v4:=Tryz.zeroValue4
 t22:=Tryz.underlying54
 a22:=Tryz.isAgg54
 z22:=Tryz.sizeOf54
 v22:=Tryz.zeroValue54}
theorem yhn (s:SV) (xs:List Int) (hs:xs.length < 4611686018427387904):y9 Tryz.prog 284 [.v s.v] [.row s.v 1 3 (xs.map za8)] (fun r h'=>h'= [.row s.v 1 3 ((srt xs).map za8)]∧r= .v (.tuple #[])):=
 zu1 zzi s 3 xs hs
theorem yf6 (s:SV) (xs:List Int) (hs:xs.length≤4611686018427387904):y9 Tryz.prog 162 [.v s.v] [.row s.v 1 3 (xs.map za8)] (fun r h'=>∃s':SV,h'= [.row s'.v 1 3 ((za6 xs).map za8)]∧r= .v s'.v):=by
 rw [←zux];exact zn3 ybh s 3 xs hs
theorem zmz (h:Hist) (la:Lim 3000 h) (bl:Nat) (x:Int) (G:List Res):y9 Tryz.prog 270 [pZ bl,iv x] (.box bl 203 (zbf h)::G) (fun r h'=>h'= .box bl 203 (zbf h)::G∧r=zft (zah h.evs x)):=by
 refine z6 Tryz.func270 rfl rfl rfl ?_
 have be:=la.evs
 refine rn ?_;refine z7 rfl (zau (enc:=zbm) rfl fun bm=> ?_)
 refine rn ?_;refine zbc h.evs.length (fun k=>True) (fun k=>⟨[(18,iv k),(0,pZ bl),(1,iv x),(5,.v (.map (some bm))),(16,zte h.evs),(17,iv (h.evs.map evR).length)],.map bm (j9 zbm (zbe bv (ycp (h.evs.take k)))):: .box bl 203 (zbf h)::G,[]⟩) trivial es ?_
 intro k lk _
 refine rn ?_;refine z8 rfl (fun hc19=> ?_) (fun hc19=> ?_)
 ·have hk:=zd0 hc19
  have rk:=zdp (f:=evR) hk
  refine rn ?_;refine z7 rfl (x5 rfl fun b7=> ?_)
  first|refine z7 rfl (za2 rfl rfl rfl ?_)|refine z7 rfl (zby rfl rfl rfl rfl (Nat.le_of_ble_eq_true rfl) ?_)
  refine u3 (k6 ?_)
  refine y6 ?_;refine q1 ?_;refine q1 ?_;refine q1 ?_;refine q1 ?_;refine q1 ?_;refine q1 ?_;refine qq rfl rfl (zbx (enc:=zbm) (k:=h.evs[k].t) false rfl rfl) ?_
  refine rn ?_;refine q8 (fun hg5_7=> ?_) (fun hg5_7=> ?_)
  ·refine rn ?_;refine z7 rfl (za0 (g:=bv) (enc:=zbm) (k:=h.evs[k].t) rfl rfl rfl ?_)
   refine rn ?_;exact ⟨hk,trivial,by first|(rw [zhp hk,hg5_7,Bool.true_or];exact eA)|(rw [zhp hk,hg5_7,Bool.false_or];exact eA)⟩
  ·refine rn ?_;refine z7 rfl (za0 (g:=bv) (enc:=zbm) (k:=h.evs[k].t) rfl rfl rfl ?_)
   refine rn ?_;exact ⟨hk,trivial,by first|(rw [zhp hk,hg5_7,Bool.true_or];exact eA)|(rw [zhp hk,hg5_7,Bool.false_or];exact eA)⟩
 ·have qk:=zd1 hc19 lk
  subst qk
  rw [List.take_length]
  refine rn ?_;refine zrx h.evs.length (fun k s=>⟨[(41,iv k),(8,.v s.v),(1,iv x),(5,.v (.map (some bm))),(39,zte h.evs),(40,iv (h.evs.map evR).length)],.row s.v 1 3 ((((h.evs.take k).filter (wrB h.evs x)).map Ev.t).map za8):: .map bm (j9 zbm (zbe bv (ycp h.evs))):: .box bl 203 (zbf h)::G,[]⟩) ⟨none,0,0⟩ (w7 (za1 1 3) es) ?_
  intro k s lk
  refine rn ?_;refine z8 rfl (fun hc42=> ?_) (fun hc42=> ?_)
  ·have hk:=zd0 hc42
   have rk:=zdp (f:=evR) hk
   refine rn ?_;refine z7 rfl (x5 rfl fun b10=> ?_)
   refine rn ?_;refine q8 (fun hg11_3=> ?_) (fun hg11_3=> ?_)
   ·refine rn ?_;refine q8 (fun hg11_9=> ?_) (fun hg11_9=> ?_)
    ·refine q1 ?_;refine q1 ?_;refine q1 ?_;refine qq rfl rfl (zbx (enc:=zbm) (k:=h.evs[k].t) false rfl rfl) ?_
     refine rn ?_;refine z8 rfl (fun hc59=> ?_) (fun hc59=> ?_)
     ·have hx:wrB h.evs x h.evs[k]=true:=by unfold wrB;rw [←zjq];simp_all
      refine rn ?_;refine qv rfl rfl (v8 rfl rfl) ?_
      refine z7 rfl (j8 rfl rfl (by simp only [oM,List.length_cons,List.length_nil];have:=zxm (l:=h.evs) (k:=k) (p:=wrB h.evs x);omega) rfl (fun s64=> ?_) (zkh [h.evs[k].t]))
      refine zak s64 fun sv hsv=> ?_
      subst hsv
      refine rn ?_;exact ⟨hk,sv,by rw [ymz hk hx,List.map_append,List.map_append];exact eA⟩
     ·have hx:wrB h.evs x h.evs[k]=false:=by unfold wrB;rw [←zjq];simp_all
      refine rn ?_;exact ⟨hk,s,by rw [yfy hk hx];exact eA⟩
    ·refine rn ?_;refine zp3 rfl ?_;have hx:wrB h.evs x h.evs[k]=false:=by unfold wrB;rw [←zjq];simp_all
     refine rn ?_;exact ⟨hk,s,by rw [yfy hk hx];exact eA⟩
   ·refine rn ?_;refine zp3 rfl ?_;have hx:wrB h.evs x h.evs[k]=false:=by unfold wrB;rw [←zjq];simp_all
    refine rn ?_;exact ⟨hk,s,by rw [yfy hk hx];exact eA⟩
  ·have qk:=zd1 hc42 lk
   subst qk
   refine rn ?_;refine z7 rfl (w8 rfl rfl (zgc (y3.of_fun (yhn s _ (by have:=zxm (l:=h.evs) (k:=h.evs.length) (p:=wrB h.evs x);rw [oM];omega)))) rfl ?_)
   rintro _ _ ⟨rfl,rfl⟩
   refine rn ?_;refine z7 rfl (w8 rfl rfl (zky (y3.of_fun (yf6 s _ (by rw [(zd6 _).length_eq,oM];have:=zxm (l:=h.evs) (k:=h.evs.length) (p:=wrB h.evs x);omega)))) rfl ?_)
   rintro _ _ ⟨s',rfl,rfl⟩
   refine rn ?_;exact j6 rfl (.trans zj1 (.drop1 _ _ _)) ⟨rfl,by rw [List.take_length];rfl⟩
theorem yji {f:Bool} (l:List Int) (n:Int) (hl:l.length≤4611686018427387904):y9 Tryz.prog 29 [.list f 1 (l.map za8),iv n] [] (fun r h'=>h'= []∧r=iv (za5 (fun a=>a==n) 0 l)):=by
 refine z6 Tryz.func29 rfl rfl rfl ?_
 refine rn ?_;refine ycw (l.length) (fun k:Nat=>za5 (fun a=>a==n) 0 l=za5 (fun a=>a==n) k (l.drop k)) (fun k=> [(8,iv k)]) [(0,_),(1,_),(7,_)] (by simp) ?_
 intro k lk zk
 refine rn ?_;refine z8 rfl (fun hc9=> ?_) (fun hc9=> ?_)
 ·have hk:=zd0 hc9
  have rk:=zdp (f:=za8) hk
  refine rn ?_;refine z8 rfl (fun hc16=> ?_) (fun hc16=> ?_)
  ·refine rn ?_;refine rq 0 ?_
   exact ⟨rfl,congrArg iv (by rw [zk,List.drop_eq_getElem_cons hk,za5,if_pos (by rw [beq_iff_eq] at hc16 ⊢;exact hc16.symm)])⟩
  ·refine rn ?_;exact ⟨hk,by rw [zk,List.drop_eq_getElem_cons hk,za5,if_neg (fun q=>by rw [beq_iff_eq] at q;rw [q] at hc16;simp at hc16)],eA⟩
 ·have qk:=zd1 hc9 lk
  refine rn ?_;refine rq 0 ?_
  exact ⟨rfl,congrArg iv (by rw [zk,qk,List.drop_length];rfl)⟩
theorem zxx {f:Bool} (l:List Int) (n:Int) (hl:l.length≤4611686018427387904):y9 Tryz.prog 286 [.list f 1 (l.map za8),iv n] [] (fun r h'=>h'= []∧r=bv (l.contains n)):=by
 refine z6 Tryz.func286 rfl rfl rfl ?_
 refine rn ?_;refine qv rfl rfl (y4 rfl rfl (zaf (yji _ _ hl) (Sbs.refl _))) ?_
 refine rn ?_;refine rq 0 ?_
 exact ⟨rfl,congrArg bv (by rw [zd2,zps])⟩
theorem yic (f:List Int) (t:Int) (b:Nat) (G:List Res) (hl:f.length≤4611686018427387904):y9 Tryz.prog 285 [iv t,pZ b] (.box b 54 [zft f]::G) (fun r h'=>h'= .box b 54 [zft f]::G∧r=bv (!f.contains t)):=by
 refine z6 Tryz.func285 rfl rfl rfl ?_
 refine rn ?_;refine qv rfl rfl (y4 rfl rfl (zaf (zxx _ _ hl) (Sbs.refl _))) ?_
 refine rn ?_;refine rq 0 ?_
 exact ⟨rfl,rfl⟩
theorem yid (ts f:List Int) (hl:ts.length≤1000000) (hf:f.length≤4611686018427387904):y9 Tryz.prog 272 [zft ts,zft f] [] (fun r h'=>h'= []∧r=bv (zq3 ts f)):=by
 refine z6 Tryz.func272 rfl rfl rfl ?_
 have hl':ts.length≤4611686018427387904:=Nat.le_trans hl (by decide)
 refine rn ?_;refine z7 rfl (x9 rfl rfl rfl fun b3=> ?_)
 refine rn ?_;refine z7 rfl (w8 rfl rfl (y3.new (y3.of_fun (ze9 (ts.map za8) (by simp;omega) (fun r hr=>by obtain ⟨n,_,rfl⟩:=List.mem_map.1 hr;rfl)))) rfl ?_)
 rintro _ _ ⟨_,⟨s,rfl,rfl⟩,rfl⟩
 show zca _ _ _ _ _ _ ⟨_,.row s 1 3 (ts.map za8):: [.box b3 54 [zft f]],_⟩
 refine zak s fun sv hsv=> ?_
 subst hsv
 refine rn ?_;refine z7 rfl (w8 rfl rfl (zgc (y3.of_fun (yhn sv ts (by omega)))) rfl ?_)
 rintro _ _ ⟨rfl,rfl⟩
 refine rn ?_;refine z7 rfl (w8 rfl rfl (zky (y3.of_fun (yf6 sv (srt ts) (by rw [(zd6 _).length_eq];omega)))) rfl ?_)
 rintro _ _ ⟨s',rfl,rfl⟩
 refine rn ?_;refine q8 (fun hg3_6=> ?_) (fun hg3_6=> ?_)
 ·refine rn ?_;refine qv rfl rfl (y4 rfl rfl (y3.of_fun (zf0 ts _ _ [.row s'.v 1 3 ((za6 (srt ts)).map za8),.box b3 54 [zft f]] (fun t _=>y3.qt (h2:= [_]) (y3.of_acall (fs:= []) (cs:= [pZ b3]) (yic f t b3 [] hf)) (zc0 [_] [_])) hl'))) ?_
  refine rn ?_;refine rq 2 ?_
  exact ⟨rfl,congrArg bv (by unfold zq3;by_cases e:(za6 (srt ts)).length=ts.length <;> first|(simp_all;done)|(exfalso;simp at hg3_6;omega))⟩
 ·refine rn ?_;refine rq 2 ?_
  exact ⟨rfl,congrArg bv (by unfold zq3;by_cases e:(za6 (srt ts)).length=ts.length <;> first|(simp_all;done)|(exfalso;simp at hg3_6;omega))⟩
theorem yeh {f:Bool} (l:List H.Ord) (fv:AV) (w:Nat→H.Ord→Bool) (G:List Res) (hp:∀k (hk:k < l.length),y3 Tryz.prog fv [iv k,.agg (zb7 l[k])] G (fun r h'=>h'=G∧r=bv (w k l[k]))) (hl:l.length≤1000000):y9 Tryz.prog 268 [.list f 2 (l.map zb7),fv] G (fun r h'=>h'=G∧r=zaw (zdh w 0 l)):=by
 refine z6 Tryz.func268 rfl rfl rfl ?_
 refine rn ?_;refine zbc l.length (fun k=>zdh w 0 l=zdh w k (l.drop k)) (fun k=>⟨[(10,iv k),(1,fv),(8,.list f 2 (l.map zb7)),(9,iv (l.map zb7).length)],G,[]⟩) (by simp) es ?_
 intro k lk zk
 refine rn ?_;refine z8 rfl (fun hc11=> ?_) (fun hc11=> ?_)
 ·have hk:=zd0 hc11
  have rk:=zdp (f:=zb7) hk
  refine rn ?_;refine z7 rfl (x5 rfl fun b7=> ?_)
  refine rn ?_;refine qv rfl rfl (y4 rfl rfl (y3.qt (h2:= [_]) (hp k hk) (zc0 [_] _))) ?_
  refine rn ?_;refine z8 rfl (fun hc18=> ?_) (fun hc18=> ?_)
  ·refine rn ?_;refine rq 1 ?_
   exact ⟨rfl,by rw [zfp hk zk (by simpa using hc18)];rfl⟩
  ·refine rn ?_;exact ⟨hk,zcx hk zk (by simpa using hc18),eA⟩
 ·have qk:=zd1 hc11 lk
  refine rn ?_;refine rq 0 ?_
  exact ⟨rfl,by rw [zhg qk zk];rfl⟩
theorem yeg {f:Bool} (l:List ByteArray) (fv:AV) (w:Nat→ByteArray→Bool) (G:List Res) (hp:∀k (hk:k < l.length),y3 Tryz.prog fv [iv k,sv l[k]] G (fun r h'=>h'=G∧r=bv (w k l[k]))) (hl:l.length≤1000000):y9 Tryz.prog 273 [.list f 1 (l.map zay),fv] G (fun r h'=>h'=G∧r=zaw (zdh w 0 l)):=by
 refine z6 Tryz.func273 rfl rfl rfl ?_
 refine rn ?_;refine zbc l.length (fun k=>zdh w 0 l=zdh w k (l.drop k)) (fun k=>⟨[(10,iv k),(1,fv),(8,.list f 1 (l.map zay)),(9,iv (l.map zay).length)],G,[]⟩) (by simp) es ?_
 intro k lk zk
 refine rn ?_;refine z8 rfl (fun hc11=> ?_) (fun hc11=> ?_)
 ·have hk:=zd0 hc11
  have rk:=zdp (f:=zay) hk
  refine rn ?_;refine qv rfl rfl (y4 rfl rfl (hp k hk)) ?_
  refine rn ?_;refine z8 rfl (fun hc18=> ?_) (fun hc18=> ?_)
  ·refine rn ?_;refine rq 0 ?_
   exact ⟨rfl,by rw [zfp hk zk (by simpa using hc18)];rfl⟩
  ·refine rn ?_;exact ⟨hk,zcx hk zk (by simpa using hc18),eA⟩
 ·have qk:=zd1 hc11 lk
  refine rn ?_;refine rq 0 ?_
  exact ⟨rfl,by rw [zhg qk zk];rfl⟩
theorem yei {f:Bool} (l:List Mat) (fv:AV) (w:Nat→Mat→Bool) (G:List Res) (hp:∀k (hk:k < l.length),y3 Tryz.prog fv [iv k,.agg (zcc l[k])] G (fun r h'=>h'=G∧r=bv (w k l[k]))) (hl:l.length≤1000000):y9 Tryz.prog 276 [.list f 4 (l.map zcc),fv] G (fun r h'=>h'=G∧r=zaw (zdh w 0 l)):=by
 refine z6 Tryz.func276 rfl rfl rfl ?_
 refine rn ?_;refine zbc l.length (fun k=>zdh w 0 l=zdh w k (l.drop k)) (fun k=>⟨[(10,iv k),(1,fv),(8,.list f 4 (l.map zcc)),(9,iv (l.map zcc).length)],G,[]⟩) (by simp) es ?_
 intro k lk zk
 refine rn ?_;refine z8 rfl (fun hc11=> ?_) (fun hc11=> ?_)
 ·have hk:=zd0 hc11
  have rk:=zdp (f:=zcc) hk
  refine rn ?_;refine z7 rfl (x5 rfl fun b7=> ?_)
  refine rn ?_;refine qv rfl rfl (y4 rfl rfl (y3.qt (h2:= [_]) (hp k hk) (zc0 [_] _))) ?_
  refine rn ?_;refine z8 rfl (fun hc18=> ?_) (fun hc18=> ?_)
  ·refine rn ?_;refine rq 1 ?_
   exact ⟨rfl,by rw [zfp hk zk (by simpa using hc18)];rfl⟩
  ·refine rn ?_;exact ⟨hk,zcx hk zk (by simpa using hc18),eA⟩
 ·have qk:=zd1 hc11 lk
  refine rn ?_;refine rq 0 ?_
  exact ⟨rfl,by rw [zhg qk zk];rfl⟩
theorem yef {f:Bool} (l:List Wan) (fv:AV) (w:Nat→Wan→Bool) (G:List Res) (hp:∀k (hk:k < l.length),y3 Tryz.prog fv [iv k,.agg (zbi l[k])] G (fun r h'=>h'=G∧r=bv (w k l[k]))) (hl:l.length≤1000000):y9 Tryz.prog 279 [.list f 2 (l.map zbi),fv] G (fun r h'=>h'=G∧r=zaw (zdh w 0 l)):=by
 refine z6 Tryz.func279 rfl rfl rfl ?_
 refine rn ?_;refine zbc l.length (fun k=>zdh w 0 l=zdh w k (l.drop k)) (fun k=>⟨[(10,iv k),(1,fv),(8,.list f 2 (l.map zbi)),(9,iv (l.map zbi).length)],G,[]⟩) (by simp) es ?_
 intro k lk zk
 refine rn ?_;refine z8 rfl (fun hc11=> ?_) (fun hc11=> ?_)
 ·have hk:=zd0 hc11
  have rk:=zdp (f:=zbi) hk
  refine rn ?_;refine z7 rfl (x5 rfl fun b7=> ?_)
  refine rn ?_;refine qv rfl rfl (y4 rfl rfl (y3.qt (h2:= [_]) (hp k hk) (zc0 [_] _))) ?_
  refine rn ?_;refine z8 rfl (fun hc18=> ?_) (fun hc18=> ?_)
  ·refine rn ?_;refine rq 1 ?_
   exact ⟨rfl,by rw [zfp hk zk (by simpa using hc18)];rfl⟩
  ·refine rn ?_;exact ⟨hk,zcx hk zk (by simpa using hc18),eA⟩
 ·have qk:=zd1 hc11 lk
  refine rn ?_;refine rq 0 ?_
  exact ⟨rfl,by rw [zhg qk zk];rfl⟩
theorem zzw (p r:H.Ord) (b:Nat) (G:List Res):y9 Tryz.prog 271 [.agg (zb7 p),pZ b] (.box b 99 (zb7 r)::G) (fun x h'=>h'= .box b 99 (zb7 r)::G∧x=bv (p.o==r.o)):=by
 refine z6 Tryz.func271 rfl rfl rfl ?_
 refine rn ?_;refine z7 rfl (x9 rfl rfl rfl fun b2=> ?_)
 refine rn ?_;refine rq 1 ?_
 exact ⟨rfl,congrArg bv (by first|rfl|(simp_all;done))⟩
theorem zzy (p r:Mat) (b:Nat) (G:List Res):y9 Tryz.prog 278 [.agg (zcc p),pZ b] (.box b 112 (zcc r)::G) (fun x h'=>h'= .box b 112 (zcc r)::G∧x=bv (p.p==r.p && p.o==r.o)):=by
 refine z6 Tryz.func278 rfl rfl rfl ?_
 refine rn ?_;refine z7 rfl (x9 rfl rfl rfl fun b2=> ?_)
 refine rn ?_;refine q8 (fun hg1_5=> ?_) (fun hg1_5=> ?_)
 ·refine rn ?_;refine rq 1 ?_
  exact ⟨rfl,congrArg bv (by first|rfl|(simp_all;done))⟩
 ·refine rn ?_;refine rq 1 ?_
  exact ⟨rfl,congrArg bv (by first|rfl|(simp_all;done))⟩
theorem yed (p r:Wan) (b:Nat) (G:List Res):y9 Tryz.prog 282 [.agg (zbi p),pZ b] (.box b 51 (zbi r)::G) (fun x h'=>h'= .box b 51 (zbi r)::G∧x=bv (p.s==r.s)):=by
 refine z6 Tryz.func282 rfl rfl rfl ?_
 refine rn ?_;refine z7 rfl (x9 rfl rfl rfl fun b2=> ?_)
 refine rn ?_;refine rq 1 ?_
 exact ⟨rfl,congrArg bv (by first|rfl|(simp_all;done))⟩
theorem yee (e:Ev) (r:Wan) (b:Nat) (G:List Res):y9 Tryz.prog 281 [.agg (evR e),pZ b] (.box b 51 (zbi r)::G) (fun x h'=>h'= .box b 51 (zbi r)::G∧x=bv (e.kind==1 && e.s==r.s)):=by
 refine z6 Tryz.func281 rfl rfl rfl ?_
 refine rn ?_;refine z7 rfl (x9 rfl rfl rfl fun b2=> ?_)
 refine rn ?_;refine q8 (fun hg1_3=> ?_) (fun hg1_3=> ?_)
 ·refine rn ?_;refine rq 1 ?_
  exact ⟨rfl,congrArg bv (by first|(simp_all;done)|(simp only [*];done))⟩
 ·refine rn ?_;refine rq 1 ?_
  exact ⟨rfl,congrArg bv (by first|(simp_all;done)|(simp only [*];done))⟩
theorem zt6 (r:H.Ord) (x:Int) (b:Nat) (G:List Res):y9 Tryz.prog 275 [.agg (zb7 r),pZ b] (.box b 3 [iv x]::G) (fun z h'=>h'= .box b 3 [iv x]::G∧z=bv (r.o==x)):=by
 refine z6 Tryz.func275 rfl rfl rfl ?_
 refine rn ?_;refine z7 rfl (x9 rfl rfl rfl fun b2=> ?_)
 refine rn ?_;refine rq 1 ?_
 exact ⟨rfl,congrArg bv (by first|rfl|(simp_all;done))⟩
theorem yej (h:Hist) (la:Lim 3000 h) (i:Nat) (hi:i≤h.ords.length) (r:H.Ord) (hr:r.ts.length≤3000) (bl bp:Nat) (G:List Res):y9 Tryz.prog 269 [iv i,.agg (zb7 r),pZ bp] (.box bp 198 [pZ bl]:: .box bl 203 (zbf h)::G) (fun x h'=>h'=(.box bp 198 [pZ bl]:: .box bl 203 (zbf h)::G)∧x=bv (zhi h i r)):=by
 refine z6 Tryz.func269 rfl rfl rfl ?_
 have bo:=la.ords
 refine rn ?_;refine z7 rfl (x9 rfl rfl rfl fun b4=> ?_)
 refine rn ?_;refine qv rfl rfl (y4 rfl rfl (y3.qt (h2:= .box b4 99 (zb7 r):: .box bp 198 [pZ bl]::G) (y3.of_fun (zmz h la bl r.o [])) (pt2 _ _ _ _))) ?_
 refine q1 ?_;refine u3 (k6 ?_)
 refine w6 (y6 ?_)
 refine q1 ?_;refine q1 ?_;refine q1 ?_;refine q1 ?_;refine q1 ?_;refine q1 ?_;refine qq rfl rfl (zdt (k:=i) rfl rfl (by rw [oM];omega)) ?_
 rw [←List.map_take]
 refine rn ?_;refine qv rfl rfl (y4 rfl rfl (y3.of_fun (zd4 (h.ords.take i) _ _ (.box b4 99 (zb7 r):: .box bp 198 [pZ bl]:: .box bl 203 (zbf h)::G) (fun p _=>y3.of_acall (fs:= []) (cs:= [pZ b4]) (zzw p r b4 (.box bp 198 [pZ bl]:: .box bl 203 (zbf h)::G))) (by rw [List.length_take];have:=la.ords;omega)))) ?_
 refine rn ?_;refine q8 (fun hg2_9=> ?_) (fun hg2_9=> ?_)
 ·refine rn ?_;refine rq 1 ?_
  exact ⟨rfl,congrArg bv (by unfold zhi;first|(simp only [hg2_9,hg2_16,oM,zh7,Bool.not_true,Bool.not_false,Bool.true_or,Bool.or_true,Bool.false_or];done)|(simp only [hg2_9,Bool.true_or];done)|(simp_all [zh7];done))⟩
 ·refine rn ?_;refine qv rfl rfl (y4 rfl rfl (zaf (yid r.ts (zah h.evs r.o) (Nat.le_trans hr (by decide)) (Nat.le_trans (zhw h.evs r.o) (Nat.le_trans la.evs (by decide)))) (Sbs.refl _))) ?_
  refine rn ?_;refine q8 (fun hg2_16=> ?_) (fun hg2_16=> ?_)
  ·refine rn ?_;refine rq 1 ?_
   exact ⟨rfl,congrArg bv (by unfold zhi;first|(simp only [hg2_9,hg2_16,oM,zh7,Bool.not_true,Bool.not_false,Bool.true_or,Bool.or_true,Bool.false_or];done)|(simp only [hg2_9,Bool.true_or];done)|(simp_all [zh7];done))⟩
  ·refine rn ?_;refine rq 1 ?_
   exact ⟨rfl,congrArg bv (by unfold zhi;first|(simp only [hg2_9,hg2_16,oM,zh7,Bool.not_true,Bool.not_false,Bool.true_or,Bool.or_true,Bool.false_or];done)|(simp only [hg2_9,Bool.true_or];done)|(simp_all [zh7];done))⟩
theorem yek (h:Hist) (la:Lim 3000 h) (i:Nat) (hi:i≤h.mats.length) (r:Mat) (hr:r.ts.length≤3000) (bl bp:Nat) (G:List Res):y9 Tryz.prog 277 [iv i,.agg (zcc r),pZ bp] (.box bp 198 [pZ bl]:: .box bl 203 (zbf h)::G) (fun x h'=>h'=(.box bp 198 [pZ bl]:: .box bl 203 (zbf h)::G)∧x=bv (zmb h i r)):=by
 refine z6 Tryz.func277 rfl rfl rfl ?_
 have bo:=la.mats
 refine rn ?_;refine z7 rfl (x9 rfl rfl rfl fun b4=> ?_)
 refine rn ?_;refine j4 16 rfl ?_
 refine dq rfl rfl qrA ?_;refine dq rfl rfl qrA ?_;refine dq rfl rfl qrA ?_;refine dq rfl rfl qrA ?_;refine dq rfl rfl qrA ?_;refine dq rfl rfl qrA ?_;refine dq rfl rfl (zdt (k:=i) rfl rfl (by rw [oM];omega)) ?_
 rw [←List.map_take]
 refine rn ?_;refine dv rfl rfl (by exact y4 rfl rfl (y3.of_fun (zfz (h.mats.take i) _ _ (.box b4 112 (zcc r):: .box bp 198 [pZ bl]:: .box bl 203 (zbf h)::G) (fun p _=>y3.of_acall (fs:= []) (cs:= [pZ b4]) (zzy p r b4 (.box bp 198 [pZ bl]:: .box bl 203 (zbf h)::G))) (by rw [List.length_take];have:=la.mats;omega)))) ?_
 refine rn ?_;refine zet (fun hg2_9=> ?_) (fun hg2_9=> ?_)
 ·refine rn ?_;refine rq 1 ?_
  exact ⟨rfl,congrArg bv (by unfold zmb;simp_all)⟩
 ·refine rn ?_;refine dv rfl rfl (by exact y4 rfl rfl (y3.qt (h2:= .box b4 112 (zcc r):: .box bp 198 [pZ bl]::G) (y3.of_fun (zmz h la bl r.o [])) (pt2 _ _ _ _))) ?_
  refine rn ?_;refine qv rfl rfl (y4 rfl rfl (zaf (yid r.ts (zah h.evs r.o) (Nat.le_trans hr (by decide)) (Nat.le_trans (zhw h.evs r.o) (Nat.le_trans la.evs (by decide)))) (Sbs.refl _))) ?_
  refine rn ?_;refine rq 1 ?_
  exact ⟨rfl,congrArg bv (by unfold zmb;simp_all)⟩
theorem yh5 (h:Hist) (la:Lim 3000 h) (i:Nat) (hi:i≤h.wants.length) (r:Wan) (bl bp:Nat) (G:List Res):y9 Tryz.prog 280 [iv i,.agg (zbi r),pZ bp] (.box bp 198 [pZ bl]:: .box bl 203 (zbf h)::G) (fun x h'=>h'=(.box bp 198 [pZ bl]:: .box bl 203 (zbf h)::G)∧x=bv (zle h i r)):=by
 refine z6 Tryz.func280 rfl rfl rfl ?_
 have bo:=la.wants
 refine rn ?_;refine z7 rfl (x9 rfl rfl rfl fun b4=> ?_)
 refine q1 ?_;refine u3 (k6 ?_)
 refine w6 (y6 ?_)
 refine q1 ?_;refine q1 ?_;refine u3 (k6 ?_)
 refine w6 (y6 ?_)
 refine q1 ?_;refine q1 ?_;refine q1 ?_;refine q1 ?_;refine q1 ?_;refine q1 ?_;refine qq rfl rfl (zdt (k:=i) rfl rfl (by rw [oM];omega)) ?_
 rw [←List.map_take]
 refine rn ?_;refine qv rfl rfl (y4 rfl rfl (y3.of_fun (zfy (h.wants.take i) _ _ (.box b4 51 (zbi r):: .box bp 198 [pZ bl]:: .box bl 203 (zbf h)::G) (fun p _=>y3.of_acall (fs:= []) (cs:= [pZ b4]) (yed p r b4 (.box bp 198 [pZ bl]:: .box bl 203 (zbf h)::G))) (by rw [List.length_take];have:=la.wants;omega)))) ?_
 refine rn ?_;refine q8 (fun hg2_9=> ?_) (fun hg2_9=> ?_)
 ·refine rn ?_;refine rq 1 ?_
  exact ⟨rfl,congrArg bv (by unfold zle;simp_all)⟩
 ·refine rn ?_;refine qv rfl rfl (y4 rfl rfl (y3.of_fun (zgr h.evs _ _ (.box b4 51 (zbi r):: .box bp 198 [pZ bl]:: .box bl 203 (zbf h)::G) (fun e _=>y3.of_acall (fs:= []) (cs:= [pZ b4]) (yee e r b4 (.box bp 198 [pZ bl]:: .box bl 203 (zbf h)::G))) (Nat.le_trans la.evs (by decide))))) ?_
  refine rn ?_;refine rq 1 ?_
  exact ⟨rfl,congrArg bv (by unfold zle;simp_all)⟩
theorem zv5 (h:Hist) (la:Lim 3000 h) (x:Int) (s:ByteArray) (bl bp:Nat) (G:List Res):y9 Tryz.prog 274 [iv x,sv s,pZ bp] (.box bp 198 [pZ bl]:: .box bl 203 (zbf h)::G) (fun z h'=>h'=(.box bp 198 [pZ bl]:: .box bl 203 (zbf h)::G)∧z=bv (zq7 h x)):=by
 refine z6 Tryz.func274 rfl rfl rfl ?_
 refine rn ?_;refine z7 rfl (x9 rfl rfl rfl fun b3=> ?_)
 refine rn ?_;refine qv rfl rfl (y4 rfl rfl (y3.qt (h2:= .box b3 3 [iv x]:: .box bp 198 [pZ bl]::G) (y3.of_fun (zmz h la bl x [])) (pt2 _ _ _ _))) ?_
 refine rn ?_;refine q8 (fun hg1_5=> ?_) (fun hg1_5=> ?_)
 ·refine rn ?_;refine qv rfl rfl (y4 rfl rfl (y3.of_fun (zd4 h.ords _ _ (.box b3 3 [iv x]:: .box bp 198 [pZ bl]:: .box bl 203 (zbf h)::G) (fun r _=>y3.of_acall (fs:= []) (cs:= [pZ b3]) (zt6 r x b3 (.box bp 198 [pZ bl]:: .box bl 203 (zbf h)::G))) (Nat.le_trans la.ords (by decide))))) ?_
  refine rn ?_;refine rq 1 ?_
  exact ⟨rfl,congrArg bv (by unfold zq7;by_cases e:1 < (zah h.evs x).length <;> first|(simp_all;done)|(simp [e];done)|(exfalso;simp at hg1_5;omega))⟩
 ·refine rn ?_;refine rq 1 ?_
  exact ⟨rfl,congrArg bv (by unfold zq7;by_cases e:1 < (zah h.evs x).length <;> first|(simp_all;done)|(simp [e];done)|(exfalso;simp at hg1_5;omega))⟩
theorem yib (h:Hist) (la:Lim 3000 h) (bl:Nat) (G:List Res):y9 Tryz.prog 254 [pZ bl] (.box bl 203 (zbf h)::G) (fun r h'=>h'=G∧r=zaw (zci h 7)):=by
 refine z6 Tryz.func254 rfl rfl rfl ?_
 refine rn ?_;refine z7 rfl (x9 rfl rfl rfl fun b1=> ?_)
 refine rn ?_;refine qv rfl rfl (y4 rfl rfl (y3.of_fun (yeh h.ords (.fn (.func 269) [] [pZ b1]) (zhi h) (.box b1 198 [pZ bl]:: .box bl 203 (zbf h)::G) (fun k hk=>y3.of_acall (fs:= []) (cs:= [pZ b1]) (yej h la k (Nat.le_of_lt hk) _ (la.ordts _ (List.getElem_mem hk)) bl b1 G)) (Nat.le_trans la.ords (by decide))))) ?_
 obtain ⟨pi,pb,hpv⟩:∃i b,zaw (zdh (zhi h) 0 h.ords)= .tup [iv i,bv b]:=zcz _
 rw [hpv]
 refine rn ?_;refine rq 2 ?_
 exact ⟨rfl,hpv.symm⟩
theorem zzx (h:Hist) (la:Lim 3000 h) (bl:Nat) (G:List Res):y9 Tryz.prog 255 [pZ bl] (.box bl 203 (zbf h)::G) (fun r h'=>h'=G∧r=zaw (zci h 8)):=by
 refine z6 Tryz.func255 rfl rfl rfl ?_
 refine rn ?_;refine z7 rfl (x9 rfl rfl rfl fun b1=> ?_)
 refine rn ?_;refine qv rfl rfl (y4 rfl rfl (y3.of_fun (yeg h.os (.fn (.func 274) [] [pZ b1]) (fun x _=>zq7 h (x:Nat)) (.box b1 198 [pZ bl]:: .box bl 203 (zbf h)::G) (fun k hk=>y3.of_acall (fs:= []) (cs:= [pZ b1]) (zv5 h la k _ bl b1 G)) (Nat.le_trans la.os (by decide))))) ?_
 obtain ⟨pi,pb,hpv⟩:∃i b,zaw (zdh (fun x _=>zq7 h (x:Nat)) 0 h.os)= .tup [iv i,bv b]:=zcz _
 rw [hpv]
 refine rn ?_;refine rq 2 ?_
 exact ⟨rfl,hpv.symm⟩
theorem yie (h:Hist) (la:Lim 3000 h) (bl:Nat) (G:List Res):y9 Tryz.prog 256 [pZ bl] (.box bl 203 (zbf h)::G) (fun r h'=>h'=G∧r=zaw (zci h 9)):=by
 refine z6 Tryz.func256 rfl rfl rfl ?_
 refine rn ?_;refine z7 rfl (x9 rfl rfl rfl fun b1=> ?_)
 refine rn ?_;refine qv rfl rfl (y4 rfl rfl (y3.of_fun (yei h.mats (.fn (.func 277) [] [pZ b1]) (zmb h) (.box b1 198 [pZ bl]:: .box bl 203 (zbf h)::G) (fun k hk=>y3.of_acall (fs:= []) (cs:= [pZ b1]) (yek h la k (Nat.le_of_lt hk) _ (la.matts _ (List.getElem_mem hk)) bl b1 G)) (Nat.le_trans la.mats (by decide))))) ?_
 obtain ⟨pi,pb,hpv⟩:∃i b,zaw (zdh (zmb h) 0 h.mats)= .tup [iv i,bv b]:=zcz _
 rw [hpv]
 refine rn ?_;refine rq 2 ?_
 exact ⟨rfl,hpv.symm⟩
theorem yl1 (h:Hist) (la:Lim 3000 h) (bl:Nat) (G:List Res):y9 Tryz.prog 257 [pZ bl] (.box bl 203 (zbf h)::G) (fun r h'=>h'=G∧r=zaw (zci h 10)):=by
 refine z6 Tryz.func257 rfl rfl rfl ?_
 refine rn ?_;refine z7 rfl (x9 rfl rfl rfl fun b1=> ?_)
 refine rn ?_;refine qv rfl rfl (y4 rfl rfl (y3.of_fun (yef h.wants (.fn (.func 280) [] [pZ b1]) (zle h) (.box b1 198 [pZ bl]:: .box bl 203 (zbf h)::G) (fun k hk=>y3.of_acall (fs:= []) (cs:= [pZ b1]) (yh5 h la k (Nat.le_of_lt hk) _ bl b1 G)) (Nat.le_trans la.wants (by decide))))) ?_
 obtain ⟨pi,pb,hpv⟩:∃i b,zaw (zdh (zle h) 0 h.wants)= .tup [iv i,bv b]:=zcz _
 rw [hpv]
 refine rn ?_;refine rq 2 ?_
 exact ⟨rfl,hpv.symm⟩
theorem znt (s:ByteArray) (hx:zb4 (bt s 0).toNat=240):y9 Tryz.prog 227 [.v (.string s)] [.glob 5 276 x3,.glob 6 279 y5] (fun r h'=>h'= [.glob 5 276 x3,.glob 6 279 y5]∧r= .tup [.v (.int .i32 (y7 s).1),iv (y7 s).2]):=by
 refine z6 Tryz.func227 rfl rfl rfl ?_
 refine rn ?_;refine z8 rfl (fun hc16=> ?_) (fun hc16=> ?_)
 ·refine rn ?_;have hd:y7 s=(65533,0):=by
   unfold y7
   rw [if_pos (by simp at hc16;omega)]
  exact zbl rfl rfl (.refl _ _) ⟨rfl,by rw [hd];rfl⟩
 ·have h1:0 < s.size:=by simp at hc16;omega
  refine rn ?_;refine qq rfl rfl (v7 0 rfl rfl (by omega)) ?_
  refine rn ?_;refine qq rfl rfl (u1 rfl rfl (zfc _ _) (zfb _ _)) ?_
  refine qq rfl rfl (j3 rfl (show _=some (.v (.int .u8 240)) from by rw [zb8 (zfc s 0) (zfb s 0),hx])) ?_
  refine rn ?_;refine z8 rfl (fun hc23=> ?_) (fun hc23=> ?_)
  ·refine rn ?_;refine qq rfl rfl (v7 0 rfl rfl (by omega)) ?_
   refine rn ?_;have hd:y7 s=(bI .or .i32 (bI .andNot .i32 (IntKind.i32.wrap (bt s 0)) (zid 240)) (bI .and .i32 65533 (zid 240)),1):=by
    unfold y7
    rw [if_neg (by omega)]
    simp only [hx]
    rw [if_pos (by decide)]
   exact zbl rfl rfl (.refl _ _) ⟨rfl,by rw [hd];rfl⟩
  ·first|cases hc23|exact absurd hc23 (by decide)|(exfalso;simp_all;done)
theorem zns (s:ByteArray) (hx:zb4 (bt s 0).toNat=241):y9 Tryz.prog 227 [.v (.string s)] [.glob 5 276 x3,.glob 6 279 y5] (fun r h'=>h'= [.glob 5 276 x3,.glob 6 279 y5]∧r= .tup [.v (.int .i32 (y7 s).1),iv (y7 s).2]):=by
 refine z6 Tryz.func227 rfl rfl rfl ?_
 refine rn ?_;refine z8 rfl (fun hc16=> ?_) (fun hc16=> ?_)
 ·refine rn ?_;have hd:y7 s=(65533,0):=by
   unfold y7
   rw [if_pos (by simp at hc16;omega)]
  exact zbl rfl rfl (.refl _ _) ⟨rfl,by rw [hd];rfl⟩
 ·have h1:0 < s.size:=by simp at hc16;omega
  refine rn ?_;refine qq rfl rfl (v7 0 rfl rfl (by omega)) ?_
  refine rn ?_;refine qq rfl rfl (u1 rfl rfl (zfc _ _) (zfb _ _)) ?_
  refine qq rfl rfl (j3 rfl (show _=some (.v (.int .u8 241)) from by rw [zb8 (zfc s 0) (zfb s 0),hx])) ?_
  refine rn ?_;refine z8 rfl (fun hc23=> ?_) (fun hc23=> ?_)
  ·refine rn ?_;refine qq rfl rfl (v7 0 rfl rfl (by omega)) ?_
   refine rn ?_;have hd:y7 s=(bI .or .i32 (bI .andNot .i32 (IntKind.i32.wrap (bt s 0)) (zid 241)) (bI .and .i32 65533 (zid 241)),1):=by
    unfold y7
    rw [if_neg (by omega)]
    simp only [hx]
    rw [if_pos (by decide)]
   exact zbl rfl rfl (.refl _ _) ⟨rfl,by rw [hd];rfl⟩
  ·first|cases hc23|exact absurd hc23 (by decide)|(exfalso;simp_all;done)
theorem zrs (s:ByteArray) (hx:zb4 (bt s 0).toNat=2):y9 Tryz.prog 227 [.v (.string s)] [.glob 5 276 x3,.glob 6 279 y5] (fun r h'=>h'= [.glob 5 276 x3,.glob 6 279 y5]∧r= .tup [.v (.int .i32 (y7 s).1),iv (y7 s).2]):=by
 refine z6 Tryz.func227 rfl rfl rfl ?_
 refine rn ?_;refine z8 rfl (fun hc16=> ?_) (fun hc16=> ?_)
 ·refine rn ?_;have hd:y7 s=(65533,0):=by
   unfold y7
   rw [if_pos (by simp at hc16;omega)]
  exact zbl rfl rfl (.refl _ _) ⟨rfl,by rw [hd];rfl⟩
 ·have h1:0 < s.size:=by simp at hc16;omega
  refine rn ?_;refine qq rfl rfl (v7 0 rfl rfl (by omega)) ?_
  refine rn ?_;refine qq rfl rfl (u1 rfl rfl (zfc _ _) (zfb _ _)) ?_
  refine qq rfl rfl (j3 rfl (show _=some (.v (.int .u8 2)) from by rw [zb8 (zfc s 0) (zfb s 0),hx])) ?_
  refine rn ?_;refine z8 rfl (fun hc23=> ?_) (fun hc23=> ?_)
  ·first|cases hc23|exact absurd hc23 (by decide)|(exfalso;simp_all;done)
  ·refine rn ?_;refine qq rfl rfl (u1 rfl rfl (by decide) (by decide)) ?_
   refine rn ?_;refine z7 rfl (x5 rfl fun b9=> ?_)
   refine rn ?_;refine z8 rfl (fun hc45=> ?_) (fun hc45=> ?_)
   ·refine rn ?_;have hd:y7 s=(65533,1):=by
     unfold y7
     rw [if_neg (by omega)]
     simp only [hx]
     rw [if_neg (by decide),if_pos (show (s.size:Int) < (2:Int) % 8 from oT hc45)]
    exact zbl rfl rfl (.drop1 _ _ _) ⟨rfl,by rw [hd];rfl⟩
   ·have h2:2≤s.size:=by
     have:¬((s.size:Int) < 2):=oF hc45
     omega
    refine rn ?_;refine qq rfl rfl (v7 1 rfl rfl (by omega)) ?_
    refine rn ?_;refine q8 (fun hg14_4=> ?_) (fun hg14_4=> ?_)
    ·refine rn ?_;refine z8 rfl (fun hc57=> ?_) (fun hc57=> ?_)
     ·refine rn ?_;have hd:y7 s=(65533,1):=by
       unfold y7
       rw [if_neg (by omega)]
       simp only [hx]
       rw [if_neg (by decide),if_neg (show ¬(s.size:Int) < (2:Int) % 8 from oF hc45),if_pos (show bt s 1 < zbj ((2:Int) / 16).toNat∨zbk ((2:Int) / 16).toNat < bt s 1 from by first|exact .inl (oT hg14_4)|exact .inr (oT hc57))]
      exact zbl rfl rfl (.drop1 _ _ _) ⟨rfl,by rw [hd];rfl⟩
     ·first|cases hc57|exact absurd hc57 (by decide)|(exfalso;simp_all;done)
    ·refine rn ?_;refine z8 rfl (fun hc57=> ?_) (fun hc57=> ?_)
     ·refine rn ?_;have hd:y7 s=(65533,1):=by
       unfold y7
       rw [if_neg (by omega)]
       simp only [hx]
       rw [if_neg (by decide),if_neg (show ¬(s.size:Int) < (2:Int) % 8 from oF hc45),if_pos (show bt s 1 < zbj ((2:Int) / 16).toNat∨zbk ((2:Int) / 16).toNat < bt s 1 from by first|exact .inl (oT hg14_4)|exact .inr (oT hc57))]
      exact zbl rfl rfl (.drop1 _ _ _) ⟨rfl,by rw [hd];rfl⟩
     ·refine rn ?_;refine z8 rfl (fun hc59=> ?_) (fun hc59=> ?_)
      ·refine rn ?_;have hd:y7 s=(bI .or .i32 (zcg (bt s 0) 31 6) (zcg (bt s 1) 63 0),2):=by
        unfold y7
        rw [if_neg (by omega)]
        simp only [hx]
        rw [if_neg (by decide),if_neg (show ¬(s.size:Int) < (2:Int) % 8 from oF hc45),if_neg (show ¬(bt s 1 < zbj ((2:Int) / 16).toNat∨zbk ((2:Int) / 16).toNat < bt s 1) from fun q=>q.elim (oF hg14_4) (oF hc57)),if_pos (by decide)]
       exact zbl rfl rfl (.drop1 _ _ _) ⟨rfl,by rw [hd];rfl⟩
      ·first|cases hc59|exact absurd hc59 (by decide)|(exfalso;simp_all;done)
theorem zpn (s:ByteArray) (hx:zb4 (bt s 0).toNat=19):y9 Tryz.prog 227 [.v (.string s)] [.glob 5 276 x3,.glob 6 279 y5] (fun r h'=>h'= [.glob 5 276 x3,.glob 6 279 y5]∧r= .tup [.v (.int .i32 (y7 s).1),iv (y7 s).2]):=by
 refine z6 Tryz.func227 rfl rfl rfl ?_
 refine rn ?_;refine z8 rfl (fun hc16=> ?_) (fun hc16=> ?_)
 ·refine rn ?_;have hd:y7 s=(65533,0):=by
   unfold y7
   rw [if_pos (by simp at hc16;omega)]
  exact zbl rfl rfl (.refl _ _) ⟨rfl,by rw [hd];rfl⟩
 ·have h1:0 < s.size:=by simp at hc16;omega
  refine rn ?_;refine qq rfl rfl (v7 0 rfl rfl (by omega)) ?_
  refine rn ?_;refine qq rfl rfl (u1 rfl rfl (zfc _ _) (zfb _ _)) ?_
  refine qq rfl rfl (j3 rfl (show _=some (.v (.int .u8 19)) from by rw [zb8 (zfc s 0) (zfb s 0),hx])) ?_
  refine rn ?_;refine z8 rfl (fun hc23=> ?_) (fun hc23=> ?_)
  ·first|cases hc23|exact absurd hc23 (by decide)|(exfalso;simp_all;done)
  ·refine rn ?_;refine qq rfl rfl (u1 rfl rfl (by decide) (by decide)) ?_
   refine rn ?_;refine z7 rfl (x5 rfl fun b9=> ?_)
   refine rn ?_;refine z8 rfl (fun hc45=> ?_) (fun hc45=> ?_)
   ·refine rn ?_;have hd:y7 s=(65533,1):=by
     unfold y7
     rw [if_neg (by omega)]
     simp only [hx]
     rw [if_neg (by decide),if_pos (show (s.size:Int) < (19:Int) % 8 from oT hc45)]
    exact zbl rfl rfl (.drop1 _ _ _) ⟨rfl,by rw [hd];rfl⟩
   ·have h2:3≤s.size:=by
     have:¬((s.size:Int) < 3):=oF hc45
     omega
    refine rn ?_;refine qq rfl rfl (v7 1 rfl rfl (by omega)) ?_
    refine rn ?_;refine q8 (fun hg14_4=> ?_) (fun hg14_4=> ?_)
    ·refine rn ?_;refine z8 rfl (fun hc57=> ?_) (fun hc57=> ?_)
     ·refine rn ?_;have hd:y7 s=(65533,1):=by
       unfold y7
       rw [if_neg (by omega)]
       simp only [hx]
       rw [if_neg (by decide),if_neg (show ¬(s.size:Int) < (19:Int) % 8 from oF hc45),if_pos (show bt s 1 < zbj ((19:Int) / 16).toNat∨zbk ((19:Int) / 16).toNat < bt s 1 from by first|exact .inl (oT hg14_4)|exact .inr (oT hc57))]
      exact zbl rfl rfl (.drop1 _ _ _) ⟨rfl,by rw [hd];rfl⟩
     ·first|cases hc57|exact absurd hc57 (by decide)|(exfalso;simp_all;done)
    ·refine rn ?_;refine z8 rfl (fun hc57=> ?_) (fun hc57=> ?_)
     ·refine rn ?_;have hd:y7 s=(65533,1):=by
       unfold y7
       rw [if_neg (by omega)]
       simp only [hx]
       rw [if_neg (by decide),if_neg (show ¬(s.size:Int) < (19:Int) % 8 from oF hc45),if_pos (show bt s 1 < zbj ((19:Int) / 16).toNat∨zbk ((19:Int) / 16).toNat < bt s 1 from by first|exact .inl (oT hg14_4)|exact .inr (oT hc57))]
      exact zbl rfl rfl (.drop1 _ _ _) ⟨rfl,by rw [hd];rfl⟩
     ·refine rn ?_;refine z8 rfl (fun hc59=> ?_) (fun hc59=> ?_)
      ·first|cases hc59|exact absurd hc59 (by decide)|(exfalso;simp_all;done)
      ·refine rn ?_;refine qq rfl rfl (v7 2 rfl rfl (by omega)) ?_
       refine rn ?_;refine q8 (fun hg19_2=> ?_) (fun hg19_2=> ?_)
       ·refine rn ?_;refine z8 rfl (fun hc75=> ?_) (fun hc75=> ?_)
        ·refine rn ?_;have hd:y7 s=(65533,1):=by
          unfold y7
          rw [if_neg (by omega)]
          simp only [hx]
          rw [if_neg (by decide),if_neg (show ¬(s.size:Int) < (19:Int) % 8 from oF hc45),if_neg (show ¬(bt s 1 < zbj ((19:Int) / 16).toNat∨zbk ((19:Int) / 16).toNat < bt s 1) from fun q=>q.elim (oF hg14_4) (oF hc57)),if_neg (by decide),if_pos (show bt s 2 < 128∨191 < bt s 2 from by first|exact .inl (oT hg19_2)|exact .inr (oT hc75))]
         exact zbl rfl rfl (.drop1 _ _ _) ⟨rfl,by rw [hd];rfl⟩
        ·first|cases hc75|exact absurd hc75 (by decide)|(exfalso;simp_all;done)
       ·refine rn ?_;refine z8 rfl (fun hc75=> ?_) (fun hc75=> ?_)
        ·refine rn ?_;have hd:y7 s=(65533,1):=by
          unfold y7
          rw [if_neg (by omega)]
          simp only [hx]
          rw [if_neg (by decide),if_neg (show ¬(s.size:Int) < (19:Int) % 8 from oF hc45),if_neg (show ¬(bt s 1 < zbj ((19:Int) / 16).toNat∨zbk ((19:Int) / 16).toNat < bt s 1) from fun q=>q.elim (oF hg14_4) (oF hc57)),if_neg (by decide),if_pos (show bt s 2 < 128∨191 < bt s 2 from by first|exact .inl (oT hg19_2)|exact .inr (oT hc75))]
         exact zbl rfl rfl (.drop1 _ _ _) ⟨rfl,by rw [hd];rfl⟩
        ·refine rn ?_;refine z8 rfl (fun hc77=> ?_) (fun hc77=> ?_)
         ·refine rn ?_;have hd:y7 s=(bI .or .i32 (bI .or .i32 (zcg (bt s 0) 15 12) (zcg (bt s 1) 63 6)) (zcg (bt s 2) 63 0),3):=by
           unfold y7
           rw [if_neg (by omega)]
           simp only [hx]
           rw [if_neg (by decide),if_neg (show ¬(s.size:Int) < (19:Int) % 8 from oF hc45),if_neg (show ¬(bt s 1 < zbj ((19:Int) / 16).toNat∨zbk ((19:Int) / 16).toNat < bt s 1) from fun q=>q.elim (oF hg14_4) (oF hc57)),if_neg (by decide),if_neg (show ¬(bt s 2 < 128∨191 < bt s 2) from fun q=>q.elim (oF hg19_2) (oF hc75)),if_pos (by decide)]
          exact zbl rfl rfl (.drop1 _ _ _) ⟨rfl,by rw [hd];rfl⟩
         ·first|cases hc77|exact absurd hc77 (by decide)|(exfalso;simp_all;done)
theorem zrr (s:ByteArray) (hx:zb4 (bt s 0).toNat=3):y9 Tryz.prog 227 [.v (.string s)] [.glob 5 276 x3,.glob 6 279 y5] (fun r h'=>h'= [.glob 5 276 x3,.glob 6 279 y5]∧r= .tup [.v (.int .i32 (y7 s).1),iv (y7 s).2]):=by
 refine z6 Tryz.func227 rfl rfl rfl ?_
 refine rn ?_;refine z8 rfl (fun hc16=> ?_) (fun hc16=> ?_)
 ·refine rn ?_;have hd:y7 s=(65533,0):=by
   unfold y7
   rw [if_pos (by simp at hc16;omega)]
  exact zbl rfl rfl (.refl _ _) ⟨rfl,by rw [hd];rfl⟩
 ·have h1:0 < s.size:=by simp at hc16;omega
  refine rn ?_;refine qq rfl rfl (v7 0 rfl rfl (by omega)) ?_
  refine rn ?_;refine qq rfl rfl (u1 rfl rfl (zfc _ _) (zfb _ _)) ?_
  refine qq rfl rfl (j3 rfl (show _=some (.v (.int .u8 3)) from by rw [zb8 (zfc s 0) (zfb s 0),hx])) ?_
  refine rn ?_;refine z8 rfl (fun hc23=> ?_) (fun hc23=> ?_)
  ·first|cases hc23|exact absurd hc23 (by decide)|(exfalso;simp_all;done)
  ·refine rn ?_;refine qq rfl rfl (u1 rfl rfl (by decide) (by decide)) ?_
   refine rn ?_;refine z7 rfl (x5 rfl fun b9=> ?_)
   refine rn ?_;refine z8 rfl (fun hc45=> ?_) (fun hc45=> ?_)
   ·refine rn ?_;have hd:y7 s=(65533,1):=by
     unfold y7
     rw [if_neg (by omega)]
     simp only [hx]
     rw [if_neg (by decide),if_pos (show (s.size:Int) < (3:Int) % 8 from oT hc45)]
    exact zbl rfl rfl (.drop1 _ _ _) ⟨rfl,by rw [hd];rfl⟩
   ·have h2:3≤s.size:=by
     have:¬((s.size:Int) < 3):=oF hc45
     omega
    refine rn ?_;refine qq rfl rfl (v7 1 rfl rfl (by omega)) ?_
    refine rn ?_;refine q8 (fun hg14_4=> ?_) (fun hg14_4=> ?_)
    ·refine rn ?_;refine z8 rfl (fun hc57=> ?_) (fun hc57=> ?_)
     ·refine rn ?_;have hd:y7 s=(65533,1):=by
       unfold y7
       rw [if_neg (by omega)]
       simp only [hx]
       rw [if_neg (by decide),if_neg (show ¬(s.size:Int) < (3:Int) % 8 from oF hc45),if_pos (show bt s 1 < zbj ((3:Int) / 16).toNat∨zbk ((3:Int) / 16).toNat < bt s 1 from by first|exact .inl (oT hg14_4)|exact .inr (oT hc57))]
      exact zbl rfl rfl (.drop1 _ _ _) ⟨rfl,by rw [hd];rfl⟩
     ·first|cases hc57|exact absurd hc57 (by decide)|(exfalso;simp_all;done)
    ·refine rn ?_;refine z8 rfl (fun hc57=> ?_) (fun hc57=> ?_)
     ·refine rn ?_;have hd:y7 s=(65533,1):=by
       unfold y7
       rw [if_neg (by omega)]
       simp only [hx]
       rw [if_neg (by decide),if_neg (show ¬(s.size:Int) < (3:Int) % 8 from oF hc45),if_pos (show bt s 1 < zbj ((3:Int) / 16).toNat∨zbk ((3:Int) / 16).toNat < bt s 1 from by first|exact .inl (oT hg14_4)|exact .inr (oT hc57))]
      exact zbl rfl rfl (.drop1 _ _ _) ⟨rfl,by rw [hd];rfl⟩
     ·refine rn ?_;refine z8 rfl (fun hc59=> ?_) (fun hc59=> ?_)
      ·first|cases hc59|exact absurd hc59 (by decide)|(exfalso;simp_all;done)
      ·refine rn ?_;refine qq rfl rfl (v7 2 rfl rfl (by omega)) ?_
       refine rn ?_;refine q8 (fun hg19_2=> ?_) (fun hg19_2=> ?_)
       ·refine rn ?_;refine z8 rfl (fun hc75=> ?_) (fun hc75=> ?_)
        ·refine rn ?_;have hd:y7 s=(65533,1):=by
          unfold y7
          rw [if_neg (by omega)]
          simp only [hx]
          rw [if_neg (by decide),if_neg (show ¬(s.size:Int) < (3:Int) % 8 from oF hc45),if_neg (show ¬(bt s 1 < zbj ((3:Int) / 16).toNat∨zbk ((3:Int) / 16).toNat < bt s 1) from fun q=>q.elim (oF hg14_4) (oF hc57)),if_neg (by decide),if_pos (show bt s 2 < 128∨191 < bt s 2 from by first|exact .inl (oT hg19_2)|exact .inr (oT hc75))]
         exact zbl rfl rfl (.drop1 _ _ _) ⟨rfl,by rw [hd];rfl⟩
        ·first|cases hc75|exact absurd hc75 (by decide)|(exfalso;simp_all;done)
       ·refine rn ?_;refine z8 rfl (fun hc75=> ?_) (fun hc75=> ?_)
        ·refine rn ?_;have hd:y7 s=(65533,1):=by
          unfold y7
          rw [if_neg (by omega)]
          simp only [hx]
          rw [if_neg (by decide),if_neg (show ¬(s.size:Int) < (3:Int) % 8 from oF hc45),if_neg (show ¬(bt s 1 < zbj ((3:Int) / 16).toNat∨zbk ((3:Int) / 16).toNat < bt s 1) from fun q=>q.elim (oF hg14_4) (oF hc57)),if_neg (by decide),if_pos (show bt s 2 < 128∨191 < bt s 2 from by first|exact .inl (oT hg19_2)|exact .inr (oT hc75))]
         exact zbl rfl rfl (.drop1 _ _ _) ⟨rfl,by rw [hd];rfl⟩
        ·refine rn ?_;refine z8 rfl (fun hc77=> ?_) (fun hc77=> ?_)
         ·refine rn ?_;have hd:y7 s=(bI .or .i32 (bI .or .i32 (zcg (bt s 0) 15 12) (zcg (bt s 1) 63 6)) (zcg (bt s 2) 63 0),3):=by
           unfold y7
           rw [if_neg (by omega)]
           simp only [hx]
           rw [if_neg (by decide),if_neg (show ¬(s.size:Int) < (3:Int) % 8 from oF hc45),if_neg (show ¬(bt s 1 < zbj ((3:Int) / 16).toNat∨zbk ((3:Int) / 16).toNat < bt s 1) from fun q=>q.elim (oF hg14_4) (oF hc57)),if_neg (by decide),if_neg (show ¬(bt s 2 < 128∨191 < bt s 2) from fun q=>q.elim (oF hg19_2) (oF hc75)),if_pos (by decide)]
          exact zbl rfl rfl (.drop1 _ _ _) ⟨rfl,by rw [hd];rfl⟩
         ·first|cases hc77|exact absurd hc77 (by decide)|(exfalso;simp_all;done)
theorem zpm (s:ByteArray) (hx:zb4 (bt s 0).toNat=35):y9 Tryz.prog 227 [.v (.string s)] [.glob 5 276 x3,.glob 6 279 y5] (fun r h'=>h'= [.glob 5 276 x3,.glob 6 279 y5]∧r= .tup [.v (.int .i32 (y7 s).1),iv (y7 s).2]):=by
 refine z6 Tryz.func227 rfl rfl rfl ?_
 refine rn ?_;refine z8 rfl (fun hc16=> ?_) (fun hc16=> ?_)
 ·refine rn ?_;have hd:y7 s=(65533,0):=by
   unfold y7
   rw [if_pos (by simp at hc16;omega)]
  exact zbl rfl rfl (.refl _ _) ⟨rfl,by rw [hd];rfl⟩
 ·have h1:0 < s.size:=by simp at hc16;omega
  refine rn ?_;refine qq rfl rfl (v7 0 rfl rfl (by omega)) ?_
  refine rn ?_;refine qq rfl rfl (u1 rfl rfl (zfc _ _) (zfb _ _)) ?_
  refine qq rfl rfl (j3 rfl (show _=some (.v (.int .u8 35)) from by rw [zb8 (zfc s 0) (zfb s 0),hx])) ?_
  refine rn ?_;refine z8 rfl (fun hc23=> ?_) (fun hc23=> ?_)
  ·first|cases hc23|exact absurd hc23 (by decide)|(exfalso;simp_all;done)
  ·refine rn ?_;refine qq rfl rfl (u1 rfl rfl (by decide) (by decide)) ?_
   refine rn ?_;refine z7 rfl (x5 rfl fun b9=> ?_)
   refine rn ?_;refine z8 rfl (fun hc45=> ?_) (fun hc45=> ?_)
   ·refine rn ?_;have hd:y7 s=(65533,1):=by
     unfold y7
     rw [if_neg (by omega)]
     simp only [hx]
     rw [if_neg (by decide),if_pos (show (s.size:Int) < (35:Int) % 8 from oT hc45)]
    exact zbl rfl rfl (.drop1 _ _ _) ⟨rfl,by rw [hd];rfl⟩
   ·have h2:3≤s.size:=by
     have:¬((s.size:Int) < 3):=oF hc45
     omega
    refine rn ?_;refine qq rfl rfl (v7 1 rfl rfl (by omega)) ?_
    refine rn ?_;refine q8 (fun hg14_4=> ?_) (fun hg14_4=> ?_)
    ·refine rn ?_;refine z8 rfl (fun hc57=> ?_) (fun hc57=> ?_)
     ·refine rn ?_;have hd:y7 s=(65533,1):=by
       unfold y7
       rw [if_neg (by omega)]
       simp only [hx]
       rw [if_neg (by decide),if_neg (show ¬(s.size:Int) < (35:Int) % 8 from oF hc45),if_pos (show bt s 1 < zbj ((35:Int) / 16).toNat∨zbk ((35:Int) / 16).toNat < bt s 1 from by first|exact .inl (oT hg14_4)|exact .inr (oT hc57))]
      exact zbl rfl rfl (.drop1 _ _ _) ⟨rfl,by rw [hd];rfl⟩
     ·first|cases hc57|exact absurd hc57 (by decide)|(exfalso;simp_all;done)
    ·refine rn ?_;refine z8 rfl (fun hc57=> ?_) (fun hc57=> ?_)
     ·refine rn ?_;have hd:y7 s=(65533,1):=by
       unfold y7
       rw [if_neg (by omega)]
       simp only [hx]
       rw [if_neg (by decide),if_neg (show ¬(s.size:Int) < (35:Int) % 8 from oF hc45),if_pos (show bt s 1 < zbj ((35:Int) / 16).toNat∨zbk ((35:Int) / 16).toNat < bt s 1 from by first|exact .inl (oT hg14_4)|exact .inr (oT hc57))]
      exact zbl rfl rfl (.drop1 _ _ _) ⟨rfl,by rw [hd];rfl⟩
     ·refine rn ?_;refine z8 rfl (fun hc59=> ?_) (fun hc59=> ?_)
      ·first|cases hc59|exact absurd hc59 (by decide)|(exfalso;simp_all;done)
      ·refine rn ?_;refine qq rfl rfl (v7 2 rfl rfl (by omega)) ?_
       refine rn ?_;refine q8 (fun hg19_2=> ?_) (fun hg19_2=> ?_)
       ·refine rn ?_;refine z8 rfl (fun hc75=> ?_) (fun hc75=> ?_)
        ·refine rn ?_;have hd:y7 s=(65533,1):=by
          unfold y7
          rw [if_neg (by omega)]
          simp only [hx]
          rw [if_neg (by decide),if_neg (show ¬(s.size:Int) < (35:Int) % 8 from oF hc45),if_neg (show ¬(bt s 1 < zbj ((35:Int) / 16).toNat∨zbk ((35:Int) / 16).toNat < bt s 1) from fun q=>q.elim (oF hg14_4) (oF hc57)),if_neg (by decide),if_pos (show bt s 2 < 128∨191 < bt s 2 from by first|exact .inl (oT hg19_2)|exact .inr (oT hc75))]
         exact zbl rfl rfl (.drop1 _ _ _) ⟨rfl,by rw [hd];rfl⟩
        ·first|cases hc75|exact absurd hc75 (by decide)|(exfalso;simp_all;done)
       ·refine rn ?_;refine z8 rfl (fun hc75=> ?_) (fun hc75=> ?_)
        ·refine rn ?_;have hd:y7 s=(65533,1):=by
          unfold y7
          rw [if_neg (by omega)]
          simp only [hx]
          rw [if_neg (by decide),if_neg (show ¬(s.size:Int) < (35:Int) % 8 from oF hc45),if_neg (show ¬(bt s 1 < zbj ((35:Int) / 16).toNat∨zbk ((35:Int) / 16).toNat < bt s 1) from fun q=>q.elim (oF hg14_4) (oF hc57)),if_neg (by decide),if_pos (show bt s 2 < 128∨191 < bt s 2 from by first|exact .inl (oT hg19_2)|exact .inr (oT hc75))]
         exact zbl rfl rfl (.drop1 _ _ _) ⟨rfl,by rw [hd];rfl⟩
        ·refine rn ?_;refine z8 rfl (fun hc77=> ?_) (fun hc77=> ?_)
         ·refine rn ?_;have hd:y7 s=(bI .or .i32 (bI .or .i32 (zcg (bt s 0) 15 12) (zcg (bt s 1) 63 6)) (zcg (bt s 2) 63 0),3):=by
           unfold y7
           rw [if_neg (by omega)]
           simp only [hx]
           rw [if_neg (by decide),if_neg (show ¬(s.size:Int) < (35:Int) % 8 from oF hc45),if_neg (show ¬(bt s 1 < zbj ((35:Int) / 16).toNat∨zbk ((35:Int) / 16).toNat < bt s 1) from fun q=>q.elim (oF hg14_4) (oF hc57)),if_neg (by decide),if_neg (show ¬(bt s 2 < 128∨191 < bt s 2) from fun q=>q.elim (oF hg19_2) (oF hc75)),if_pos (by decide)]
          exact zbl rfl rfl (.drop1 _ _ _) ⟨rfl,by rw [hd];rfl⟩
         ·first|cases hc77|exact absurd hc77 (by decide)|(exfalso;simp_all;done)
theorem zpl (s:ByteArray) (hx:zb4 (bt s 0).toNat=52):y9 Tryz.prog 227 [.v (.string s)] [.glob 5 276 x3,.glob 6 279 y5] (fun r h'=>h'= [.glob 5 276 x3,.glob 6 279 y5]∧r= .tup [.v (.int .i32 (y7 s).1),iv (y7 s).2]):=by
 refine z6 Tryz.func227 rfl rfl rfl ?_
 refine rn ?_;refine z8 rfl (fun hc16=> ?_) (fun hc16=> ?_)
 ·refine rn ?_;have hd:y7 s=(65533,0):=by
   unfold y7
   rw [if_pos (by simp at hc16;omega)]
  exact zbl rfl rfl (.refl _ _) ⟨rfl,by rw [hd];rfl⟩
 ·have h1:0 < s.size:=by simp at hc16;omega
  refine rn ?_;refine qq rfl rfl (v7 0 rfl rfl (by omega)) ?_
  refine rn ?_;refine qq rfl rfl (u1 rfl rfl (zfc _ _) (zfb _ _)) ?_
  refine qq rfl rfl (j3 rfl (show _=some (.v (.int .u8 52)) from by rw [zb8 (zfc s 0) (zfb s 0),hx])) ?_
  refine rn ?_;refine z8 rfl (fun hc23=> ?_) (fun hc23=> ?_)
  ·first|cases hc23|exact absurd hc23 (by decide)|(exfalso;simp_all;done)
  ·refine rn ?_;refine qq rfl rfl (u1 rfl rfl (by decide) (by decide)) ?_
   refine rn ?_;refine z7 rfl (x5 rfl fun b9=> ?_)
   refine rn ?_;refine z8 rfl (fun hc45=> ?_) (fun hc45=> ?_)
   ·refine rn ?_;have hd:y7 s=(65533,1):=by
     unfold y7
     rw [if_neg (by omega)]
     simp only [hx]
     rw [if_neg (by decide),if_pos (show (s.size:Int) < (52:Int) % 8 from oT hc45)]
    exact zbl rfl rfl (.drop1 _ _ _) ⟨rfl,by rw [hd];rfl⟩
   ·have h2:4≤s.size:=by
     have:¬((s.size:Int) < 4):=oF hc45
     omega
    refine rn ?_;refine qq rfl rfl (v7 1 rfl rfl (by omega)) ?_
    refine rn ?_;refine q8 (fun hg14_4=> ?_) (fun hg14_4=> ?_)
    ·refine rn ?_;refine z8 rfl (fun hc57=> ?_) (fun hc57=> ?_)
     ·refine rn ?_;have hd:y7 s=(65533,1):=by
       unfold y7
       rw [if_neg (by omega)]
       simp only [hx]
       rw [if_neg (by decide),if_neg (show ¬(s.size:Int) < (52:Int) % 8 from oF hc45),if_pos (show bt s 1 < zbj ((52:Int) / 16).toNat∨zbk ((52:Int) / 16).toNat < bt s 1 from by first|exact .inl (oT hg14_4)|exact .inr (oT hc57))]
      exact zbl rfl rfl (.drop1 _ _ _) ⟨rfl,by rw [hd];rfl⟩
     ·first|cases hc57|exact absurd hc57 (by decide)|(exfalso;simp_all;done)
    ·refine rn ?_;refine z8 rfl (fun hc57=> ?_) (fun hc57=> ?_)
     ·refine rn ?_;have hd:y7 s=(65533,1):=by
       unfold y7
       rw [if_neg (by omega)]
       simp only [hx]
       rw [if_neg (by decide),if_neg (show ¬(s.size:Int) < (52:Int) % 8 from oF hc45),if_pos (show bt s 1 < zbj ((52:Int) / 16).toNat∨zbk ((52:Int) / 16).toNat < bt s 1 from by first|exact .inl (oT hg14_4)|exact .inr (oT hc57))]
      exact zbl rfl rfl (.drop1 _ _ _) ⟨rfl,by rw [hd];rfl⟩
     ·refine rn ?_;refine z8 rfl (fun hc59=> ?_) (fun hc59=> ?_)
      ·first|cases hc59|exact absurd hc59 (by decide)|(exfalso;simp_all;done)
      ·refine rn ?_;refine qq rfl rfl (v7 2 rfl rfl (by omega)) ?_
       refine rn ?_;refine q8 (fun hg19_2=> ?_) (fun hg19_2=> ?_)
       ·refine rn ?_;refine z8 rfl (fun hc75=> ?_) (fun hc75=> ?_)
        ·refine rn ?_;have hd:y7 s=(65533,1):=by
          unfold y7
          rw [if_neg (by omega)]
          simp only [hx]
          rw [if_neg (by decide),if_neg (show ¬(s.size:Int) < (52:Int) % 8 from oF hc45),if_neg (show ¬(bt s 1 < zbj ((52:Int) / 16).toNat∨zbk ((52:Int) / 16).toNat < bt s 1) from fun q=>q.elim (oF hg14_4) (oF hc57)),if_neg (by decide),if_pos (show bt s 2 < 128∨191 < bt s 2 from by first|exact .inl (oT hg19_2)|exact .inr (oT hc75))]
         exact zbl rfl rfl (.drop1 _ _ _) ⟨rfl,by rw [hd];rfl⟩
        ·first|cases hc75|exact absurd hc75 (by decide)|(exfalso;simp_all;done)
       ·refine rn ?_;refine z8 rfl (fun hc75=> ?_) (fun hc75=> ?_)
        ·refine rn ?_;have hd:y7 s=(65533,1):=by
          unfold y7
          rw [if_neg (by omega)]
          simp only [hx]
          rw [if_neg (by decide),if_neg (show ¬(s.size:Int) < (52:Int) % 8 from oF hc45),if_neg (show ¬(bt s 1 < zbj ((52:Int) / 16).toNat∨zbk ((52:Int) / 16).toNat < bt s 1) from fun q=>q.elim (oF hg14_4) (oF hc57)),if_neg (by decide),if_pos (show bt s 2 < 128∨191 < bt s 2 from by first|exact .inl (oT hg19_2)|exact .inr (oT hc75))]
         exact zbl rfl rfl (.drop1 _ _ _) ⟨rfl,by rw [hd];rfl⟩
        ·refine rn ?_;refine z8 rfl (fun hc77=> ?_) (fun hc77=> ?_)
         ·first|cases hc77|exact absurd hc77 (by decide)|(exfalso;simp_all;done)
         ·refine rn ?_;refine qq rfl rfl (v7 3 rfl rfl (by omega)) ?_
          refine rn ?_;refine q8 (fun hg24_2=> ?_) (fun hg24_2=> ?_)
          ·refine rn ?_;refine z8 rfl (fun hc98=> ?_) (fun hc98=> ?_)
           ·refine rn ?_;have hd:y7 s=(65533,1):=by
             unfold y7
             rw [if_neg (by omega)]
             simp only [hx]
             rw [if_neg (by decide),if_neg (show ¬(s.size:Int) < (52:Int) % 8 from oF hc45),if_neg (show ¬(bt s 1 < zbj ((52:Int) / 16).toNat∨zbk ((52:Int) / 16).toNat < bt s 1) from fun q=>q.elim (oF hg14_4) (oF hc57)),if_neg (by decide),if_neg (show ¬(bt s 2 < 128∨191 < bt s 2) from fun q=>q.elim (oF hg19_2) (oF hc75)),if_neg (by decide),if_pos (show bt s 3 < 128∨191 < bt s 3 from by first|exact .inl (oT hg24_2)|exact .inr (oT hc98))]
            exact zbl rfl rfl (.drop1 _ _ _) ⟨rfl,by rw [hd];rfl⟩
           ·first|cases hc98|exact absurd hc98 (by decide)|(exfalso;simp_all;done)
          ·refine rn ?_;refine z8 rfl (fun hc98=> ?_) (fun hc98=> ?_)
           ·refine rn ?_;have hd:y7 s=(65533,1):=by
             unfold y7
             rw [if_neg (by omega)]
             simp only [hx]
             rw [if_neg (by decide),if_neg (show ¬(s.size:Int) < (52:Int) % 8 from oF hc45),if_neg (show ¬(bt s 1 < zbj ((52:Int) / 16).toNat∨zbk ((52:Int) / 16).toNat < bt s 1) from fun q=>q.elim (oF hg14_4) (oF hc57)),if_neg (by decide),if_neg (show ¬(bt s 2 < 128∨191 < bt s 2) from fun q=>q.elim (oF hg19_2) (oF hc75)),if_neg (by decide),if_pos (show bt s 3 < 128∨191 < bt s 3 from by first|exact .inl (oT hg24_2)|exact .inr (oT hc98))]
            exact zbl rfl rfl (.drop1 _ _ _) ⟨rfl,by rw [hd];rfl⟩
           ·refine rn ?_;have hd:y7 s=(bI .or .i32 (bI .or .i32 (bI .or .i32 (zcg (bt s 0) 7 18) (zcg (bt s 1) 63 12)) (zcg (bt s 2) 63 6)) (zcg (bt s 3) 63 0),4):=by
             unfold y7
             rw [if_neg (by omega)]
             simp only [hx]
             rw [if_neg (by decide),if_neg (show ¬(s.size:Int) < (52:Int) % 8 from oF hc45),if_neg (show ¬(bt s 1 < zbj ((52:Int) / 16).toNat∨zbk ((52:Int) / 16).toNat < bt s 1) from fun q=>q.elim (oF hg14_4) (oF hc57)),if_neg (by decide),if_neg (show ¬(bt s 2 < 128∨191 < bt s 2) from fun q=>q.elim (oF hg19_2) (oF hc75)),if_neg (by decide),if_neg (show ¬(bt s 3 < 128∨191 < bt s 3) from fun q=>q.elim (oF hg24_2) (oF hc98))]
            exact zbl rfl rfl (.drop1 _ _ _) ⟨rfl,by rw [hd];rfl⟩
theorem zrq (s:ByteArray) (hx:zb4 (bt s 0).toNat=4):y9 Tryz.prog 227 [.v (.string s)] [.glob 5 276 x3,.glob 6 279 y5] (fun r h'=>h'= [.glob 5 276 x3,.glob 6 279 y5]∧r= .tup [.v (.int .i32 (y7 s).1),iv (y7 s).2]):=by
 refine z6 Tryz.func227 rfl rfl rfl ?_
 refine rn ?_;refine z8 rfl (fun hc16=> ?_) (fun hc16=> ?_)
 ·refine rn ?_;have hd:y7 s=(65533,0):=by
   unfold y7
   rw [if_pos (by simp at hc16;omega)]
  exact zbl rfl rfl (.refl _ _) ⟨rfl,by rw [hd];rfl⟩
 ·have h1:0 < s.size:=by simp at hc16;omega
  refine rn ?_;refine qq rfl rfl (v7 0 rfl rfl (by omega)) ?_
  refine rn ?_;refine qq rfl rfl (u1 rfl rfl (zfc _ _) (zfb _ _)) ?_
  refine qq rfl rfl (j3 rfl (show _=some (.v (.int .u8 4)) from by rw [zb8 (zfc s 0) (zfb s 0),hx])) ?_
  refine rn ?_;refine z8 rfl (fun hc23=> ?_) (fun hc23=> ?_)
  ·first|cases hc23|exact absurd hc23 (by decide)|(exfalso;simp_all;done)
  ·refine rn ?_;refine qq rfl rfl (u1 rfl rfl (by decide) (by decide)) ?_
   refine rn ?_;refine z7 rfl (x5 rfl fun b9=> ?_)
   refine rn ?_;refine z8 rfl (fun hc45=> ?_) (fun hc45=> ?_)
   ·refine rn ?_;have hd:y7 s=(65533,1):=by
     unfold y7
     rw [if_neg (by omega)]
     simp only [hx]
     rw [if_neg (by decide),if_pos (show (s.size:Int) < (4:Int) % 8 from oT hc45)]
    exact zbl rfl rfl (.drop1 _ _ _) ⟨rfl,by rw [hd];rfl⟩
   ·have h2:4≤s.size:=by
     have:¬((s.size:Int) < 4):=oF hc45
     omega
    refine rn ?_;refine qq rfl rfl (v7 1 rfl rfl (by omega)) ?_
    refine rn ?_;refine q8 (fun hg14_4=> ?_) (fun hg14_4=> ?_)
    ·refine rn ?_;refine z8 rfl (fun hc57=> ?_) (fun hc57=> ?_)
     ·refine rn ?_;have hd:y7 s=(65533,1):=by
       unfold y7
       rw [if_neg (by omega)]
       simp only [hx]
       rw [if_neg (by decide),if_neg (show ¬(s.size:Int) < (4:Int) % 8 from oF hc45),if_pos (show bt s 1 < zbj ((4:Int) / 16).toNat∨zbk ((4:Int) / 16).toNat < bt s 1 from by first|exact .inl (oT hg14_4)|exact .inr (oT hc57))]
      exact zbl rfl rfl (.drop1 _ _ _) ⟨rfl,by rw [hd];rfl⟩
     ·first|cases hc57|exact absurd hc57 (by decide)|(exfalso;simp_all;done)
    ·refine rn ?_;refine z8 rfl (fun hc57=> ?_) (fun hc57=> ?_)
     ·refine rn ?_;have hd:y7 s=(65533,1):=by
       unfold y7
       rw [if_neg (by omega)]
       simp only [hx]
       rw [if_neg (by decide),if_neg (show ¬(s.size:Int) < (4:Int) % 8 from oF hc45),if_pos (show bt s 1 < zbj ((4:Int) / 16).toNat∨zbk ((4:Int) / 16).toNat < bt s 1 from by first|exact .inl (oT hg14_4)|exact .inr (oT hc57))]
      exact zbl rfl rfl (.drop1 _ _ _) ⟨rfl,by rw [hd];rfl⟩
     ·refine rn ?_;refine z8 rfl (fun hc59=> ?_) (fun hc59=> ?_)
      ·first|cases hc59|exact absurd hc59 (by decide)|(exfalso;simp_all;done)
      ·refine rn ?_;refine qq rfl rfl (v7 2 rfl rfl (by omega)) ?_
       refine rn ?_;refine q8 (fun hg19_2=> ?_) (fun hg19_2=> ?_)
       ·refine rn ?_;refine z8 rfl (fun hc75=> ?_) (fun hc75=> ?_)
        ·refine rn ?_;have hd:y7 s=(65533,1):=by
          unfold y7
          rw [if_neg (by omega)]
          simp only [hx]
          rw [if_neg (by decide),if_neg (show ¬(s.size:Int) < (4:Int) % 8 from oF hc45),if_neg (show ¬(bt s 1 < zbj ((4:Int) / 16).toNat∨zbk ((4:Int) / 16).toNat < bt s 1) from fun q=>q.elim (oF hg14_4) (oF hc57)),if_neg (by decide),if_pos (show bt s 2 < 128∨191 < bt s 2 from by first|exact .inl (oT hg19_2)|exact .inr (oT hc75))]
         exact zbl rfl rfl (.drop1 _ _ _) ⟨rfl,by rw [hd];rfl⟩
        ·first|cases hc75|exact absurd hc75 (by decide)|(exfalso;simp_all;done)
       ·refine rn ?_;refine z8 rfl (fun hc75=> ?_) (fun hc75=> ?_)
        ·refine rn ?_;have hd:y7 s=(65533,1):=by
          unfold y7
          rw [if_neg (by omega)]
          simp only [hx]
          rw [if_neg (by decide),if_neg (show ¬(s.size:Int) < (4:Int) % 8 from oF hc45),if_neg (show ¬(bt s 1 < zbj ((4:Int) / 16).toNat∨zbk ((4:Int) / 16).toNat < bt s 1) from fun q=>q.elim (oF hg14_4) (oF hc57)),if_neg (by decide),if_pos (show bt s 2 < 128∨191 < bt s 2 from by first|exact .inl (oT hg19_2)|exact .inr (oT hc75))]
         exact zbl rfl rfl (.drop1 _ _ _) ⟨rfl,by rw [hd];rfl⟩
        ·refine rn ?_;refine z8 rfl (fun hc77=> ?_) (fun hc77=> ?_)
         ·first|cases hc77|exact absurd hc77 (by decide)|(exfalso;simp_all;done)
         ·refine rn ?_;refine qq rfl rfl (v7 3 rfl rfl (by omega)) ?_
          refine rn ?_;refine q8 (fun hg24_2=> ?_) (fun hg24_2=> ?_)
          ·refine rn ?_;refine z8 rfl (fun hc98=> ?_) (fun hc98=> ?_)
           ·refine rn ?_;have hd:y7 s=(65533,1):=by
             unfold y7
             rw [if_neg (by omega)]
             simp only [hx]
             rw [if_neg (by decide),if_neg (show ¬(s.size:Int) < (4:Int) % 8 from oF hc45),if_neg (show ¬(bt s 1 < zbj ((4:Int) / 16).toNat∨zbk ((4:Int) / 16).toNat < bt s 1) from fun q=>q.elim (oF hg14_4) (oF hc57)),if_neg (by decide),if_neg (show ¬(bt s 2 < 128∨191 < bt s 2) from fun q=>q.elim (oF hg19_2) (oF hc75)),if_neg (by decide),if_pos (show bt s 3 < 128∨191 < bt s 3 from by first|exact .inl (oT hg24_2)|exact .inr (oT hc98))]
            exact zbl rfl rfl (.drop1 _ _ _) ⟨rfl,by rw [hd];rfl⟩
           ·first|cases hc98|exact absurd hc98 (by decide)|(exfalso;simp_all;done)
          ·refine rn ?_;refine z8 rfl (fun hc98=> ?_) (fun hc98=> ?_)
           ·refine rn ?_;have hd:y7 s=(65533,1):=by
             unfold y7
             rw [if_neg (by omega)]
             simp only [hx]
             rw [if_neg (by decide),if_neg (show ¬(s.size:Int) < (4:Int) % 8 from oF hc45),if_neg (show ¬(bt s 1 < zbj ((4:Int) / 16).toNat∨zbk ((4:Int) / 16).toNat < bt s 1) from fun q=>q.elim (oF hg14_4) (oF hc57)),if_neg (by decide),if_neg (show ¬(bt s 2 < 128∨191 < bt s 2) from fun q=>q.elim (oF hg19_2) (oF hc75)),if_neg (by decide),if_pos (show bt s 3 < 128∨191 < bt s 3 from by first|exact .inl (oT hg24_2)|exact .inr (oT hc98))]
            exact zbl rfl rfl (.drop1 _ _ _) ⟨rfl,by rw [hd];rfl⟩
           ·refine rn ?_;have hd:y7 s=(bI .or .i32 (bI .or .i32 (bI .or .i32 (zcg (bt s 0) 7 18) (zcg (bt s 1) 63 12)) (zcg (bt s 2) 63 6)) (zcg (bt s 3) 63 0),4):=by
             unfold y7
             rw [if_neg (by omega)]
             simp only [hx]
             rw [if_neg (by decide),if_neg (show ¬(s.size:Int) < (4:Int) % 8 from oF hc45),if_neg (show ¬(bt s 1 < zbj ((4:Int) / 16).toNat∨zbk ((4:Int) / 16).toNat < bt s 1) from fun q=>q.elim (oF hg14_4) (oF hc57)),if_neg (by decide),if_neg (show ¬(bt s 2 < 128∨191 < bt s 2) from fun q=>q.elim (oF hg19_2) (oF hc75)),if_neg (by decide),if_neg (show ¬(bt s 3 < 128∨191 < bt s 3) from fun q=>q.elim (oF hg24_2) (oF hc98))]
            exact zbl rfl rfl (.drop1 _ _ _) ⟨rfl,by rw [hd];rfl⟩
theorem zpk (s:ByteArray) (hx:zb4 (bt s 0).toNat=68):y9 Tryz.prog 227 [.v (.string s)] [.glob 5 276 x3,.glob 6 279 y5] (fun r h'=>h'= [.glob 5 276 x3,.glob 6 279 y5]∧r= .tup [.v (.int .i32 (y7 s).1),iv (y7 s).2]):=by
 refine z6 Tryz.func227 rfl rfl rfl ?_
 refine rn ?_;refine z8 rfl (fun hc16=> ?_) (fun hc16=> ?_)
 ·refine rn ?_;have hd:y7 s=(65533,0):=by
   unfold y7
   rw [if_pos (by simp at hc16;omega)]
  exact zbl rfl rfl (.refl _ _) ⟨rfl,by rw [hd];rfl⟩
 ·have h1:0 < s.size:=by simp at hc16;omega
  refine rn ?_;refine qq rfl rfl (v7 0 rfl rfl (by omega)) ?_
  refine rn ?_;refine qq rfl rfl (u1 rfl rfl (zfc _ _) (zfb _ _)) ?_
  refine qq rfl rfl (j3 rfl (show _=some (.v (.int .u8 68)) from by rw [zb8 (zfc s 0) (zfb s 0),hx])) ?_
  refine rn ?_;refine z8 rfl (fun hc23=> ?_) (fun hc23=> ?_)
  ·first|cases hc23|exact absurd hc23 (by decide)|(exfalso;simp_all;done)
  ·refine rn ?_;refine qq rfl rfl (u1 rfl rfl (by decide) (by decide)) ?_
   refine rn ?_;refine z7 rfl (x5 rfl fun b9=> ?_)
   refine rn ?_;refine z8 rfl (fun hc45=> ?_) (fun hc45=> ?_)
   ·refine rn ?_;have hd:y7 s=(65533,1):=by
     unfold y7
     rw [if_neg (by omega)]
     simp only [hx]
     rw [if_neg (by decide),if_pos (show (s.size:Int) < (68:Int) % 8 from oT hc45)]
    exact zbl rfl rfl (.drop1 _ _ _) ⟨rfl,by rw [hd];rfl⟩
   ·have h2:4≤s.size:=by
     have:¬((s.size:Int) < 4):=oF hc45
     omega
    refine rn ?_;refine qq rfl rfl (v7 1 rfl rfl (by omega)) ?_
    refine rn ?_;refine q8 (fun hg14_4=> ?_) (fun hg14_4=> ?_)
    ·refine rn ?_;refine z8 rfl (fun hc57=> ?_) (fun hc57=> ?_)
     ·refine rn ?_;have hd:y7 s=(65533,1):=by
       unfold y7
       rw [if_neg (by omega)]
       simp only [hx]
       rw [if_neg (by decide),if_neg (show ¬(s.size:Int) < (68:Int) % 8 from oF hc45),if_pos (show bt s 1 < zbj ((68:Int) / 16).toNat∨zbk ((68:Int) / 16).toNat < bt s 1 from by first|exact .inl (oT hg14_4)|exact .inr (oT hc57))]
      exact zbl rfl rfl (.drop1 _ _ _) ⟨rfl,by rw [hd];rfl⟩
     ·first|cases hc57|exact absurd hc57 (by decide)|(exfalso;simp_all;done)
    ·refine rn ?_;refine z8 rfl (fun hc57=> ?_) (fun hc57=> ?_)
     ·refine rn ?_;have hd:y7 s=(65533,1):=by
       unfold y7
       rw [if_neg (by omega)]
       simp only [hx]
       rw [if_neg (by decide),if_neg (show ¬(s.size:Int) < (68:Int) % 8 from oF hc45),if_pos (show bt s 1 < zbj ((68:Int) / 16).toNat∨zbk ((68:Int) / 16).toNat < bt s 1 from by first|exact .inl (oT hg14_4)|exact .inr (oT hc57))]
      exact zbl rfl rfl (.drop1 _ _ _) ⟨rfl,by rw [hd];rfl⟩
     ·refine rn ?_;refine z8 rfl (fun hc59=> ?_) (fun hc59=> ?_)
      ·first|cases hc59|exact absurd hc59 (by decide)|(exfalso;simp_all;done)
      ·refine rn ?_;refine qq rfl rfl (v7 2 rfl rfl (by omega)) ?_
       refine rn ?_;refine q8 (fun hg19_2=> ?_) (fun hg19_2=> ?_)
       ·refine rn ?_;refine z8 rfl (fun hc75=> ?_) (fun hc75=> ?_)
        ·refine rn ?_;have hd:y7 s=(65533,1):=by
          unfold y7
          rw [if_neg (by omega)]
          simp only [hx]
          rw [if_neg (by decide),if_neg (show ¬(s.size:Int) < (68:Int) % 8 from oF hc45),if_neg (show ¬(bt s 1 < zbj ((68:Int) / 16).toNat∨zbk ((68:Int) / 16).toNat < bt s 1) from fun q=>q.elim (oF hg14_4) (oF hc57)),if_neg (by decide),if_pos (show bt s 2 < 128∨191 < bt s 2 from by first|exact .inl (oT hg19_2)|exact .inr (oT hc75))]
         exact zbl rfl rfl (.drop1 _ _ _) ⟨rfl,by rw [hd];rfl⟩
        ·first|cases hc75|exact absurd hc75 (by decide)|(exfalso;simp_all;done)
       ·refine rn ?_;refine z8 rfl (fun hc75=> ?_) (fun hc75=> ?_)
        ·refine rn ?_;have hd:y7 s=(65533,1):=by
          unfold y7
          rw [if_neg (by omega)]
          simp only [hx]
          rw [if_neg (by decide),if_neg (show ¬(s.size:Int) < (68:Int) % 8 from oF hc45),if_neg (show ¬(bt s 1 < zbj ((68:Int) / 16).toNat∨zbk ((68:Int) / 16).toNat < bt s 1) from fun q=>q.elim (oF hg14_4) (oF hc57)),if_neg (by decide),if_pos (show bt s 2 < 128∨191 < bt s 2 from by first|exact .inl (oT hg19_2)|exact .inr (oT hc75))]
         exact zbl rfl rfl (.drop1 _ _ _) ⟨rfl,by rw [hd];rfl⟩
        ·refine rn ?_;refine z8 rfl (fun hc77=> ?_) (fun hc77=> ?_)
         ·first|cases hc77|exact absurd hc77 (by decide)|(exfalso;simp_all;done)
         ·refine rn ?_;refine qq rfl rfl (v7 3 rfl rfl (by omega)) ?_
          refine rn ?_;refine q8 (fun hg24_2=> ?_) (fun hg24_2=> ?_)
          ·refine rn ?_;refine z8 rfl (fun hc98=> ?_) (fun hc98=> ?_)
           ·refine rn ?_;have hd:y7 s=(65533,1):=by
             unfold y7
             rw [if_neg (by omega)]
             simp only [hx]
             rw [if_neg (by decide),if_neg (show ¬(s.size:Int) < (68:Int) % 8 from oF hc45),if_neg (show ¬(bt s 1 < zbj ((68:Int) / 16).toNat∨zbk ((68:Int) / 16).toNat < bt s 1) from fun q=>q.elim (oF hg14_4) (oF hc57)),if_neg (by decide),if_neg (show ¬(bt s 2 < 128∨191 < bt s 2) from fun q=>q.elim (oF hg19_2) (oF hc75)),if_neg (by decide),if_pos (show bt s 3 < 128∨191 < bt s 3 from by first|exact .inl (oT hg24_2)|exact .inr (oT hc98))]
            exact zbl rfl rfl (.drop1 _ _ _) ⟨rfl,by rw [hd];rfl⟩
           ·first|cases hc98|exact absurd hc98 (by decide)|(exfalso;simp_all;done)
          ·refine rn ?_;refine z8 rfl (fun hc98=> ?_) (fun hc98=> ?_)
           ·refine rn ?_;have hd:y7 s=(65533,1):=by
             unfold y7
             rw [if_neg (by omega)]
             simp only [hx]
             rw [if_neg (by decide),if_neg (show ¬(s.size:Int) < (68:Int) % 8 from oF hc45),if_neg (show ¬(bt s 1 < zbj ((68:Int) / 16).toNat∨zbk ((68:Int) / 16).toNat < bt s 1) from fun q=>q.elim (oF hg14_4) (oF hc57)),if_neg (by decide),if_neg (show ¬(bt s 2 < 128∨191 < bt s 2) from fun q=>q.elim (oF hg19_2) (oF hc75)),if_neg (by decide),if_pos (show bt s 3 < 128∨191 < bt s 3 from by first|exact .inl (oT hg24_2)|exact .inr (oT hc98))]
            exact zbl rfl rfl (.drop1 _ _ _) ⟨rfl,by rw [hd];rfl⟩
           ·refine rn ?_;have hd:y7 s=(bI .or .i32 (bI .or .i32 (bI .or .i32 (zcg (bt s 0) 7 18) (zcg (bt s 1) 63 12)) (zcg (bt s 2) 63 6)) (zcg (bt s 3) 63 0),4):=by
             unfold y7
             rw [if_neg (by omega)]
             simp only [hx]
             rw [if_neg (by decide),if_neg (show ¬(s.size:Int) < (68:Int) % 8 from oF hc45),if_neg (show ¬(bt s 1 < zbj ((68:Int) / 16).toNat∨zbk ((68:Int) / 16).toNat < bt s 1) from fun q=>q.elim (oF hg14_4) (oF hc57)),if_neg (by decide),if_neg (show ¬(bt s 2 < 128∨191 < bt s 2) from fun q=>q.elim (oF hg19_2) (oF hc75)),if_neg (by decide),if_neg (show ¬(bt s 3 < 128∨191 < bt s 3) from fun q=>q.elim (oF hg24_2) (oF hc98))]
            exact zbl rfl rfl (.drop1 _ _ _) ⟨rfl,by rw [hd];rfl⟩
theorem zmg (s:ByteArray):y9 Tryz.prog 227 [.v (.string s)] [.glob 5 276 x3,.glob 6 279 y5] (fun r h'=>h'= [.glob 5 276 x3,.glob 6 279 y5]∧r= .tup [.v (.int .i32 (y7 s).1),iv (y7 s).2]):=by
 rcases zpd (bt s 0).toNat with hx|hx|hx|hx|hx|hx|hx|hx|hx
 ·exact znt s hx
 ·exact zns s hx
 ·exact zrs s hx
 ·exact zpn s hx
 ·exact zrr s hx
 ·exact zpm s hx
 ·exact zpl s hx
 ·exact zrq s hx
 ·exact zpk s hx
theorem zuv (s:ByteArray):y9 Tryz.prog 221 [.v (.string s)] [.glob 5 276 x3,.glob 6 279 y5] (fun r h'=>h'= [.glob 5 276 x3,.glob 6 279 y5]∧r= .tup [.v (.int .i32 (zhq s).1),iv (zhq s).2]):=by
 refine z6 Tryz.func221 rfl rfl rfl ?_
 refine rn ?_;refine q8 (fun hg1_2=> ?_) (fun hg1_2=> ?_)
 ·refine rn ?_;have h1:0 < s.size:=zvo hg1_2
  refine qq rfl rfl (v7 0 rfl rfl (by omega)) ?_
  refine rn ?_;refine z8 rfl (fun hc10=> ?_) (fun hc10=> ?_)
  ·refine rn ?_;refine qq rfl rfl (v7 0 rfl rfl (by omega)) ?_
   refine rn ?_;have hd:zhq s=(bt s 0,1):=by
    unfold zhq
    exact if_pos ⟨zvo hg1_2,oT hc10⟩
   exact zbl rfl rfl (.refl _ _) ⟨rfl,by rw [hd];exact congrArg (fun c=>AV.tup [.v (.int .i32 c),iv 1]) (zx4 s 0)⟩
  ·refine rn ?_;refine qv rfl rfl (y4 rfl rfl (y3.of_fun (zmg s))) ?_
   refine rn ?_;have hd:zhq s=y7 s:=by
    unfold zhq
    exact if_neg fun q=>by first|exact yb3 hg1_2 q.1|exact absurd q.2 (oF hc10)
   exact zbl rfl rfl (.refl _ _) ⟨rfl,by rw [hd];rfl⟩
 ·refine rn ?_;refine zp3 rfl ?_;refine rn ?_;refine qv rfl rfl (y4 rfl rfl (y3.of_fun (zmg s))) ?_
  refine rn ?_;have hd:zhq s=y7 s:=by
   unfold zhq
   exact if_neg fun q=>by first|exact yb3 hg1_2 q.1|exact absurd q.2 (oF hc10)
  exact zbl rfl rfl (.refl _ _) ⟨rfl,by rw [hd];rfl⟩
theorem znr {f g:Bool} (l m:List Int) (hl:l.length≤4611686018427387904) (hm:m.length≤4611686018427387904):y9 Tryz.prog 39 [.list f 1 (l.map za8),.list g 1 (m.map za8)] [] (fun r h'=>h'= []∧r=bv (eqF zo6 l m)):=by
 refine z6 Tryz.func39 rfl rfl rfl ?_
 refine rn ?_;refine z8 rfl (fun hc10=> ?_) (fun hc10=> ?_)
 ·refine rn ?_;have hne:(l.length==m.length)=false:=beq_eq_false_iff_ne.2 fun q=>by simp [q] at hc10
  exact j6 rfl (.refl _ _) ⟨rfl,by rw [eqF,hne,Bool.false_and];rfl⟩
 ·have hlm:l.length=m.length:=by simp at hc10;omega
  refine rn ?_;refine u5 (fun k:Nat=>k≤l.length∧zge zo6 l m=zge zo6 (l.drop k) (m.drop k)) (fun k=>⟨[(13,iv k),(12,iv (l.map za8).length),(0,.list f 1 (l.map za8)),(1,.list g 1 (m.map za8))],[],[]⟩) (fun k=>l.length - k) 0 ⟨Nat.zero_le _,by simp⟩
   (x7 (.cons _ _ _ rfl (.cons _ _ _ rfl (.cons _ _ _ rfl (.cons _ _ _ rfl (.nil)))))) ?_
  rintro k ⟨hk,hz⟩
  refine rn ?_;refine z8 rfl (fun hc14=> ?_) (fun hc14=> ?_)
  ·have hk2:k < l.length:=by simpa using hc14
   have hk3:k < m.length:=by omega
   have hrow1:(l.map za8)[k]? =some (za8 l[k]):=by simp [hk2]
   have hrow2:(m.map za8)[k]? =some (za8 m[k]):=by simp [hk3]
   have hd1:=List.drop_eq_getElem_cons hk2
   have hd2:=List.drop_eq_getElem_cons hk3
   refine rn ?_;refine j4 8 rfl ?_
   refine rn ?_;refine z8 rfl (fun hc24=> ?_) (fun hc24=> ?_)
   ·refine rn ?_;exact j6 rfl (.refl _ _) ⟨rfl,by rw [eqF,hz,hd1,hd2,zge,show zo6 l[k] m[k]=false from zkj hc24,Bool.false_and,Bool.and_false];rfl⟩
   ·refine rn ?_;exact ⟨k+1,⟨by omega,by rw [hz,hd1,hd2,zge,show zo6 l[k] m[k]=true from zkk hc24,Bool.true_and]⟩,(x7 (.cons _ _ _ rfl (.cons _ _ _ rfl (.cons _ _ _ rfl (.cons _ _ _ rfl (.nil)))))),by omega⟩
  ·have hk3:k=l.length:=by
    have:l.length≤k:=by simpa using hc14
    omega
   refine rn ?_;exact j6 rfl (.refl _ _) ⟨rfl,by rw [eqF,hz,hk3,List.drop_length,zev,hlm,beq_self_eq_true];rfl⟩
theorem ybe {f g:Bool} (l m:List ByteArray) (hl:l.length≤4611686018427387904) (hm:m.length≤4611686018427387904):y9 Tryz.prog 94 [.list f 1 (l.map zay),.list g 1 (m.map zay)] [] (fun r h'=>h'= []∧r=bv (eqF zoh l m)):=by
 refine z6 Tryz.func94 rfl rfl rfl ?_
 refine rn ?_;refine z8 rfl (fun hc10=> ?_) (fun hc10=> ?_)
 ·refine rn ?_;have hne:(l.length==m.length)=false:=beq_eq_false_iff_ne.2 fun q=>by simp [q] at hc10
  exact j6 rfl (.refl _ _) ⟨rfl,by rw [eqF,hne,Bool.false_and];rfl⟩
 ·have hlm:l.length=m.length:=by simp at hc10;omega
  refine rn ?_;refine u5 (fun k:Nat=>k≤l.length∧zge zoh l m=zge zoh (l.drop k) (m.drop k)) (fun k=>⟨[(13,iv k),(12,iv (l.map zay).length),(0,.list f 1 (l.map zay)),(1,.list g 1 (m.map zay))],[],[]⟩) (fun k=>l.length - k) 0 ⟨Nat.zero_le _,by simp⟩
   (x7 (.cons _ _ _ rfl (.cons _ _ _ rfl (.cons _ _ _ rfl (.cons _ _ _ rfl (.nil)))))) ?_
  rintro k ⟨hk,hz⟩
  refine rn ?_;refine z8 rfl (fun hc14=> ?_) (fun hc14=> ?_)
  ·have hk2:k < l.length:=by simpa using hc14
   have hk3:k < m.length:=by omega
   have hrow1:(l.map zay)[k]? =some (zay l[k]):=by simp [hk2]
   have hrow2:(m.map zay)[k]? =some (zay m[k]):=by simp [hk3]
   have hd1:=List.drop_eq_getElem_cons hk2
   have hd2:=List.drop_eq_getElem_cons hk3
   refine rn ?_;refine j4 8 rfl ?_
   refine rn ?_;refine z8 rfl (fun hc24=> ?_) (fun hc24=> ?_)
   ·refine rn ?_;exact j6 rfl (.refl _ _) ⟨rfl,by rw [eqF,hz,hd1,hd2,zge,show zoh l[k] m[k]=false from zkj hc24,Bool.false_and,Bool.and_false];rfl⟩
   ·refine rn ?_;exact ⟨k+1,⟨by omega,by rw [hz,hd1,hd2,zge,show zoh l[k] m[k]=true from zkk hc24,Bool.true_and]⟩,(x7 (.cons _ _ _ rfl (.cons _ _ _ rfl (.cons _ _ _ rfl (.cons _ _ _ rfl (.nil)))))),by omega⟩
  ·have hk3:k=l.length:=by
    have:l.length≤k:=by simpa using hc14
    omega
   refine rn ?_;exact j6 rfl (.refl _ _) ⟨rfl,by rw [eqF,hz,hk3,List.drop_length,zev,hlm,beq_self_eq_true];rfl⟩
theorem zxp {f g:Bool} (l m:List Seen) (hl:l.length≤4611686018427387904) (hm:m.length≤4611686018427387904):y9 Tryz.prog 129 [.list f 3 (l.map zaz),.list g 3 (m.map zaz)] [] (fun r h'=>h'= []∧r=bv (eqF zim l m)):=by
 refine z6 Tryz.func129 rfl rfl rfl ?_
 refine rn ?_;refine z8 rfl (fun hc10=> ?_) (fun hc10=> ?_)
 ·refine rn ?_;have hne:(l.length==m.length)=false:=beq_eq_false_iff_ne.2 fun q=>by simp [q] at hc10
  exact j6 rfl (.refl _ _) ⟨rfl,by rw [eqF,hne,Bool.false_and];rfl⟩
 ·have hlm:l.length=m.length:=by simp at hc10;omega
  refine rn ?_;refine u5 (fun k:Nat=>k≤l.length∧zge zim l m=zge zim (l.drop k) (m.drop k)) (fun k=>⟨[(13,iv k),(12,iv (l.map zaz).length),(0,.list f 3 (l.map zaz)),(1,.list g 3 (m.map zaz))],[],[]⟩) (fun k=>l.length - k) 0 ⟨Nat.zero_le _,by simp⟩
   (x7 (.cons _ _ _ rfl (.cons _ _ _ rfl (.cons _ _ _ rfl (.cons _ _ _ rfl (.nil)))))) ?_
  rintro k ⟨hk,hz⟩
  refine rn ?_;refine z8 rfl (fun hc14=> ?_) (fun hc14=> ?_)
  ·have hk2:k < l.length:=by simpa using hc14
   have hk3:k < m.length:=by omega
   have hrow1:(l.map zaz)[k]? =some (zaz l[k]):=by simp [hk2]
   have hrow2:(m.map zaz)[k]? =some (zaz m[k]):=by simp [hk3]
   have hd1:=List.drop_eq_getElem_cons hk2
   have hd2:=List.drop_eq_getElem_cons hk3
   refine rn ?_;refine j4 8 rfl ?_
   refine rn ?_;refine z8 rfl (fun hc24=> ?_) (fun hc24=> ?_)
   ·refine rn ?_;exact j6 rfl (.refl _ _) ⟨rfl,by rw [eqF,hz,hd1,hd2,zge,show zim l[k] m[k]=false from zkj hc24,Bool.false_and,Bool.and_false];rfl⟩
   ·refine rn ?_;exact ⟨k+1,⟨by omega,by rw [hz,hd1,hd2,zge,show zim l[k] m[k]=true from zkk hc24,Bool.true_and]⟩,(x7 (.cons _ _ _ rfl (.cons _ _ _ rfl (.cons _ _ _ rfl (.cons _ _ _ rfl (.nil)))))),by omega⟩
  ·have hk3:k=l.length:=by
    have:l.length≤k:=by simpa using hc14
    omega
   refine rn ?_;exact j6 rfl (.refl _ _) ⟨rfl,by rw [eqF,hz,hk3,List.drop_length,zev,hlm,beq_self_eq_true];rfl⟩
theorem ybd {f g:Bool} (l m:List Wan) (hl:l.length≤4611686018427387904) (hm:m.length≤4611686018427387904):y9 Tryz.prog 99 [.list f 2 (l.map zbi),.list g 2 (m.map zbi)] [] (fun r h'=>h'= []∧r=bv (eqF zoe l m)):=by
 refine z6 Tryz.func99 rfl rfl rfl ?_
 refine rn ?_;refine z8 rfl (fun hc10=> ?_) (fun hc10=> ?_)
 ·refine rn ?_;have hne:(l.length==m.length)=false:=beq_eq_false_iff_ne.2 fun q=>by simp [q] at hc10
  exact j6 rfl (.refl _ _) ⟨rfl,by rw [eqF,hne,Bool.false_and];rfl⟩
 ·have hlm:l.length=m.length:=by simp at hc10;omega
  refine rn ?_;refine u5 (fun k:Nat=>k≤l.length∧zge zoe l m=zge zoe (l.drop k) (m.drop k)) (fun k=>⟨[(13,iv k),(12,iv (l.map zbi).length),(0,.list f 2 (l.map zbi)),(1,.list g 2 (m.map zbi))],[],[]⟩) (fun k=>l.length - k) 0 ⟨Nat.zero_le _,by simp⟩
   (x7 (.cons _ _ _ rfl (.cons _ _ _ rfl (.cons _ _ _ rfl (.cons _ _ _ rfl (.nil)))))) ?_
  rintro k ⟨hk,hz⟩
  refine rn ?_;refine z8 rfl (fun hc14=> ?_) (fun hc14=> ?_)
  ·have hk2:k < l.length:=by simpa using hc14
   have hk3:k < m.length:=by omega
   have hrow1:(l.map zbi)[k]? =some (zbi l[k]):=by simp [hk2]
   have hrow2:(m.map zbi)[k]? =some (zbi m[k]):=by simp [hk3]
   have hd1:=List.drop_eq_getElem_cons hk2
   have hd2:=List.drop_eq_getElem_cons hk3
   refine rn ?_;refine j4 8 rfl ?_
   refine rn ?_;refine z8 rfl (fun hc24=> ?_) (fun hc24=> ?_)
   ·refine rn ?_;exact j6 rfl (.refl _ _) ⟨rfl,by rw [eqF,hz,hd1,hd2,zge,show zoe l[k] m[k]=false from zkj hc24,Bool.false_and,Bool.and_false];rfl⟩
   ·refine rn ?_;exact ⟨k+1,⟨by omega,by rw [hz,hd1,hd2,zge,show zoe l[k] m[k]=true from zkk hc24,Bool.true_and]⟩,(x7 (.cons _ _ _ rfl (.cons _ _ _ rfl (.cons _ _ _ rfl (.cons _ _ _ rfl (.nil)))))),by omega⟩
  ·have hk3:k=l.length:=by
    have:l.length≤k:=by simpa using hc14
    omega
   refine rn ?_;exact j6 rfl (.refl _ _) ⟨rfl,by rw [eqF,hz,hk3,List.drop_length,zev,hlm,beq_self_eq_true];rfl⟩
end Go.Proofs
