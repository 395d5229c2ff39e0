/- The walks of stableCmpFunc, SortStableFunc. Conditions: none. -/
import Derived.Test.YtcaijocpofcbdaaGreatDoorGAsG
set_option maxHeartbeats 4000000
set_option linter.unusedSectionVars false
set_option linter.unusedSimpArgs false
set_option linter.unusedVariables false
set_option maxRecDepth 10000
namespace Go.Proofs
open Go Go.Ab
attribute [local irreducible] QR QV OE zc9 aw zds zb0 zbp za8 thn zgc zem jch zfo
open Go.H
theorem ylx (s:SV) (l:List zlu) (cv:AV) (hc:ylb cv) (hl:l.length≤1000000000):y9 Tryz.prog 197 [.v s.v,iv (l.length:Int),cv] [.row s.v 3 178 ((l).map zcv)] (fun r h'=>∃c,zrv yfp l c∧h'= [.row s.v 3 178 ((c).map zcv)]∧r= .tup []):=by
 refine z6 Tryz.func197 rfl rfl rfl ?_;refine rn ?_;refine zdf (fun z:Nat×List zlu=>St1 yfp 20 l z.2 z.1∧z.2.length=l.length) (fun z=>⟨[(6,iv 20),(7,iv (z.1:Int)),(8,iv ((z.1+20:Nat):Int)),(0,.v s.v),(1,iv (l.length:Int)),(2,cv)],.row s.v 3 178 ((z.2).map zcv):: [],[]⟩) (fun z=>l.length - z.1) (0,l) ⟨yu0 20 l,rfl⟩ es ?_;rintro ⟨q,c⟩ ⟨hs,hcl⟩;simp only at hs hcl;show aw _ _ _ _ _ ⟨[(6,iv 20),(7,iv (q:Int)),(8,iv ((q+20:Nat):Int)),(0,.v s.v),(1,iv (l.length:Int)),(2,cv)],.row s.v 3 178 ((c).map zcv):: [],[]⟩;refine rn ?_;refine z7 rfl (fun hc13=>?_) (fun hc13=>?_)
 ·have hb:q+20≤c.length:=by have q0:((q+20:Nat):Int)≤(l.length:Int):=oT hc13;omega
  obtain ⟨P,M,Z,rfl,hP,hM,hs'⟩:=ygg hs hb;have hcl2:=hcl;simp only [D4] at hcl2;refine rn ?_;refine z8 rfl (q7 rfl rfl (y4.of_fun (ydh s P M Z q (q+20) cv hc hP (by omega) (by omega))) rfl ?_);rintro _ _ ⟨rfl,rfl⟩;refine u1 (j8 ?_);refine x7 (y5 ?_);refine q1 ?_;refine q1 ?_;refine u1 (j8 ?_);refine y5 ?_;refine q1 ?_;refine q1 ?_;refine qq rfl rfl (za9 (zai rfl rfl rfl (by omega)) (show iv _=iv ((q+20+20:Nat):Int) from A4 iv (by omega))) ?_;refine rn ?_;exact ⟨(q+20,P++(isL zdj M++Z)),⟨hs',by simp only [D4,zjd];omega⟩,eA,by simp only;omega⟩
 have hb:c.length < q+20:=by have q0:¬((q+20:Nat):Int)≤(l.length:Int):=oF hc13;omega
 obtain ⟨P,M,rfl,hP,hs2⟩:=yl2 hs hb;have hcl2:=hcl;simp only [D4] at hcl2;rw [show P++M=P++(M++ []) by rw [F8]];refine rn ?_;refine z8 rfl (q7 rfl rfl (y4.of_fun (ydh s P M [] q l.length cv hc hP (by omega) (by simp only [D4,F3];omega))) rfl ?_);rintro _ _ ⟨rfl,rfl⟩;refine rn ?_;refine zdf (fun z:Nat×List zlu=>1≤z.1∧St2 yfp z.1 l z.2∧z.2.length=l.length) (fun z=>⟨[(6,iv (z.1:Int)),(0,.v s.v),(1,iv (l.length:Int)),(2,cv)],.row s.v 3 178 ((z.2).map zcv):: [],[]⟩) (fun z=>l.length - z.1) (20,P++isL zdj M) ⟨by show 1≤20;decide,hs2,by simp only [D4,zjd];omega⟩ (by rw [F8];exact es) ?_;rintro ⟨bs,c⟩ ⟨h0,hs0,hcl⟩;simp only at h0 hs0 hcl;clear hs hb hs2 hcl2;show aw _ _ _ _ _ ⟨[(6,iv (bs:Int)),(0,.v s.v),(1,iv (l.length:Int)),(2,cv)],.row s.v 3 178 ((c).map zcv):: [],[]⟩;refine rn ?_;refine z7 rfl (fun hc30=>?_) (fun hc30=>?_)
 ·have hbs:bs < l.length:=by have q0:(bs:Int) < (l.length:Int):=oT hc30;omega
  refine k7 ?_;refine j8 ?_;refine k8 ?_;refine x7 (y5 ?_);refine q1 ?_;refine qq rfl rfl (za9 (zai rfl rfl rfl (by omega)) (show iv _=iv ((2 * bs:Nat):Int) from A4 iv (by omega))) ?_;refine rn ?_;refine zdf (fun z:Nat×List zlu=>St3 yfp bs l z.2 z.1∧z.2.length=l.length) (fun z=>⟨[(7,iv (z.1:Int)),(8,iv ((z.1+2 * bs:Nat):Int)),(6,iv (bs:Int)),(0,.v s.v),(1,iv (l.length:Int)),(2,cv)],.row s.v 3 178 ((z.2).map zcv):: [],[]⟩) (fun z=>l.length - z.1) (0,c) ⟨yuz hs0,hcl⟩ (by simp only [H9];exact es) ?_;rintro ⟨q,d⟩ ⟨hs,hdl⟩;simp only at hs hdl;have hqd:=ylz hs;show aw _ _ _ _ _ ⟨[(7,iv (q:Int)),(8,iv ((q+2 * bs:Nat):Int)),(6,iv (bs:Int)),(0,.v s.v),(1,iv (l.length:Int)),(2,cv)],.row s.v 3 178 ((d).map zcv):: [],[]⟩;refine rn ?_;refine z7 rfl (fun hc35=>?_) (fun hc35=>?_)
  ·have hb:q+2 * bs≤d.length:=by have q0:((q+2 * bs:Nat):Int)≤(l.length:Int):=oT hc35;omega
   obtain ⟨P,L,R,Z,rfl,hP,hL,hR,sL,sR,hs'⟩:=ygf h0 hs hb;have hdl2:=hdl;simp only [D4] at hdl2;refine k7 ?_;refine j8 ?_;refine k8 ?_;refine x7 (y5 ?_);refine q1 ?_;refine q1 ?_;refine q1 ?_;refine q1 ?_;refine qq rfl rfl (za9 (zai rfl rfl rfl (by omega)) (show iv _=iv ((q+bs:Nat):Int) from A4 iv (by omega))) ?_;refine rn ?_;refine z8 rfl (q7 rfl rfl (y4.of_fun (yuy s cv hc (L.length+R.length+1) P L R Z q (q+bs) (q+2 * bs) (by omega) hP (by omega) (by omega) (by omega) (by omega) sL sR (by omega))) rfl ?_);rintro _ _ ⟨rfl,rfl⟩;refine u1 (j8 ?_);refine x7 (y5 ?_);refine q1 ?_;refine q1 ?_;refine u1 (j8 ?_);refine y5 ?_;refine q1 ?_;refine q1 ?_;refine q1 ?_;refine qq rfl rfl (za9 (zai rfl rfl rfl (by omega)) (show iv _=iv ((q+2 * bs+2 * bs:Nat):Int) from A4 iv (by omega))) ?_;refine rn ?_;exact ⟨(q+2 * bs,P++(mrg zdj L R++Z)),⟨hs',by simp only [D4,zf9];omega⟩,eA,by simp only;omega⟩
  have hb:d.length < q+2 * bs:=by have q0:¬((q+2 * bs:Nat):Int)≤(l.length:Int):=oF hc35;omega
  have hen:=yl0 hs hb;refine zes ?_;refine ze2 ?_;refine ze2 ?_;refine zcg ?_;refine j8 ?_;refine x7 ?_;refine x7 (y5 ?_);refine q1 ?_;refine q1 ?_;refine qq rfl rfl (za9 (zai rfl rfl rfl (by omega)) (show iv _=iv ((q+bs:Nat):Int) from A4 iv (by omega))) ?_;refine rn ?_;refine z7 rfl (fun hc54=>?_) (fun hc54=>?_)
  ·have hmn:q+bs < d.length:=by have q0:((q+bs:Nat):Int) < (l.length:Int):=oT hc54;omega
   obtain ⟨_,P,L,R,rfl,hP,hL,sL,sR,hs2⟩:=hen.resolve_left (fun h=>by omega);have hdl2:=hdl;simp only [D4] at hdl2 hmn;rw [show P++(L++R)=P++(L++(R++ [])) by rw [F8]];refine rn ?_;refine z8 rfl (q7 rfl rfl (y4.of_fun (yuy s cv hc (L.length+R.length+1) P L R [] q (q+bs) l.length (by omega) hP (by omega) (by omega) (by omega) (by omega) sL sR (by simp only [D4,F3];omega))) rfl ?_);rintro _ _ ⟨rfl,rfl⟩;refine u1 (j8 ?_);refine y5 ?_;refine q1 ?_;refine qq rfl rfl (za9 (zai rfl rfl rfl (by omega)) (show iv _=iv ((2 * bs:Nat):Int) from A4 iv (by omega))) ?_;refine rn ?_;exact ⟨(2 * bs,P++mrg zdj L R),⟨by simp only;omega,hs2,by simp only [D4,zf9];omega⟩,by rw [F8];exact eA,by simp only;omega⟩
  have hmn:d.length≤q+bs:=by have q0:¬((q+bs:Nat):Int) < (l.length:Int):=oF hc54;omega
  obtain ⟨_,hs2⟩:=hen.resolve_right (fun h=>by have:=h.1;omega);refine k7 ?_;refine j8 ?_;refine y5 ?_;refine q1 ?_;refine qq rfl rfl (za9 (zai rfl rfl rfl (by omega)) (show iv _=iv ((2 * bs:Nat):Int) from A4 iv (by omega))) ?_;refine rn ?_;exact ⟨(2 * bs,d),⟨by simp only;omega,hs2,hdl⟩,eA,by simp only;omega⟩
 have hbs:c.length≤bs:=by have q0:¬(bs:Int) < (l.length:Int):=oF hc30;omega
 refine rn ?_;refine ymn ?_;exact ⟨c,yl1 h0 hs0 hbs,rfl,rfl⟩
theorem zuy (s:SV) (l:List zlu) (cv:AV) (hc:ylb cv) (hl:l.length≤1000000000):y9 Tryz.prog 157 [.v s.v,cv] [.row s.v 3 178 ((l).map zcv)] (fun r h'=>∃c,zrv yfp l c∧h'= [.row s.v 3 178 ((c).map zcv)]∧r= .tup []):=by
 refine z6 Tryz.func157 rfl rfl rfl ?_;refine y5 ?_;refine q1 ?_;refine q1 ?_;refine qq rfl rfl (za9 (zdc rfl) (show iv _=iv (l.length:Int) from by rw [oM])) ?_;refine rn ?_;refine z8 rfl (q7 rfl rfl (y4.of_fun (ylx s l cv hc hl)) rfl ?_);rintro _ _ ⟨c,hst,rfl,rfl⟩;refine rn ?_;refine ymn ?_;exact ⟨c,hst,rfl,rfl⟩
theorem yvm (x y:zlu):y9 Tryz.prog 156 [.agg (zcv x),.agg (zcv y)] [] (fun r h'=>h'= []∧r=iv (zdj x y)):=by
 refine z6 Tryz.func156 rfl rfl rfl ?_;have hx:=x.2;have hy:=y.2;refine rn ?_;refine z8 rfl (w7 rfl rfl rfl fun b2=>?_);refine z8 rfl (w7 rfl rfl rfl fun b3=>?_);refine q1 ?_;refine u1 (j8 ?_);refine x7 (y5 ?_);refine q1 ?_;refine q1 ?_;refine q1 ?_;refine q1 ?_;refine qq rfl rfl (zai rfl rfl rfl (by omega)) ?_;refine rn ?_;refine rq 2 ?_;exact ⟨rfl,rfl⟩
theorem yrp:ylb (.fn (.func 156) [] []):=fun x y=>y4.of_fun (yvm x y)
theorem yqg (s:SV) (n:Nat) (l:List Acc) (hk:∀a∈l,0≤a.o∧a.o < n) (hn:n≤1000000) (hl:l.length≤1000000000):y9 Tryz.prog 157 [.v s.v,.fn (.func 156) [] []] [.row s.v 3 178 (l.map accR)] (fun r h'=>h'= [.row s.v 3 178 ((zrp n l).map accR)]∧r= .tup []):=by
 obtain ⟨lB,e⟩:=yfg hn hk;have hlen:lB.length=l.length:=by rw [←e,oM]
 have h1:=zuy s lB _ yrp (by omega);have e1:lB.map zcv=l.map accR:=by rw [←e,N9];rfl
 rw [e1] at h1;refine h1.mono ?_;rintro _ _ ⟨c,hst,rfl,rfl⟩;exact ⟨by rw [←yge e hst hk,N9];rfl,rfl⟩
instance:Chk2 Tryz.prog 297:=⟨fun e w a b=>by kernel_rfl⟩
instance:Chk3 Tryz.prog 299:=⟨fun e w a b c=>by kernel_rfl⟩
abbrev mpv (r:Nat):AV:= .v (.map (some r))
abbrev nmp:AV:= .v (.map none)
abbrev zyz (v:Ver):AV:= .agg (yf2 v)
instance:ZV (.agg #[.int .i64 0,.int .i64 0]) (zyz ⟨0,0⟩):=ZV.agg2
abbrev zcf (h:Hist):List AV:=y8 h++ [nmp,nmp,nmp,nmp,nmp]
abbrev yh2 (h:Hist) (r1 r2 r3 r4 r5:Nat):List AV:=y8 h++ [mpv r1,mpv r2,mpv r3,mpv r4,mpv r5]
abbrev zdi (bl:Nat) (h:Hist) (p:List Ev) (r1 r2 r3 r4 r5:Nat) (W:List Res):List Res:= .box bl 203 (yh2 h r1 r2 r3 r4 r5):: .map r1 (zan zcm (zce bv (yfq p))):: .map r2 (zan zcm (zce bv (yfn p)))::
 .map r3 (zan zen (zce iv (zyv p))):: .map r4 (zan zen (zce zyz (zrs p))):: .map r5 (zan zgb (zce bv (yfm p)))::W
def zbo:Option Nat→AV
 |some i=> .tup [iv i,bv true]
 |none=> .tup [iv 0,bv false]
theorem zs7 {full:Bool} (l:List Int) (fv:AV) (p:Int→Bool) (G:List Res) (hp:∀a∈l,y4 Tryz.prog fv [iv a] G (fun r h'=>h'=G∧r=bv (p a))) (hlen:l.length≤4611686018427387904):y9 Tryz.prog 76 [.list full 1 (l.map zag),fv] G (fun r h'=>h'=G∧r=iv (zbe p 0 l)):=by
 refine z6 Tryz.func76 rfl rfl rfl ?_
 refine rn ?_;refine u4 (fun k:Nat=>k≤l.length∧zbe p 0 l=zbe p k (l.drop k)) (fun k=>⟨[(8,iv k),(7,iv (l.map zag).length),(0,.list full 1 (l.map zag)),(1,fv)],G,[]⟩) (fun k=>l.length - k) 0 ⟨G1 _,by simp⟩
  (w6 (.cons _ _ _ rfl (.cons _ _ _ rfl (.cons _ _ _ rfl (.cons _ _ _ rfl (.nil)))))) ?_
 rintro k ⟨hk,hnot⟩;refine rn ?_;refine z7 rfl (fun hc9=>?_) (fun hc9=>?_)
 ·have hk2:k < l.length:=by simpa using hc9
  have hrow:(l.map zag)[k]? =some (zag l[k]):=by simp [hk2]
  have hd:=A8 hk2;refine rn ?_;refine qv rfl rfl (y3 rfl rfl (hp l[k] (by simp))) ?_;refine rn ?_;refine z7 rfl (fun hc16=>?_) (fun hc16=>?_)
  ·refine rn ?_;exact u6 rfl (.refl _ _) ⟨rfl,by rw [hnot,hd,zbe,A6 hc16];rfl⟩
  refine rn ?_;exact ⟨k+1,⟨by omega,by rw [hnot,hd,zbe,A0 (by simp [hc16])]⟩,(w6 (.cons _ _ _ rfl (.cons _ _ _ rfl (.cons _ _ _ rfl (.cons _ _ _ rfl (.nil)))))),by omega⟩
 have hk3:k=l.length:=by
  have:l.length≤k:=by simpa using hc9
  omega
 refine rn ?_;exact u6 rfl (.refl _ _) ⟨rfl,by rw [hnot,hk3,E5,zbe];rfl⟩
theorem zh7 {full:Bool} (l:List Int) (fv:AV) (p:Int→Bool) (G:List Res) (hp:∀a∈l,y4 Tryz.prog fv [iv a] G (fun r h'=>h'=G∧r=bv (p a))) (hlen:l.length≤4611686018427387904):y9 Tryz.prog 171 [.list full 1 (l.map zag),fv] G (fun r h'=>h'=G∧r=bv (l.any p)):=by
 refine z6 Tryz.func171 rfl rfl rfl ?_;refine rn ?_;refine qv rfl rfl (y3 rfl rfl (y4.of_fun (zs7 l _ p G hp hlen))) ?_;refine rn ?_;exact u6 rfl (.refl _ _) ⟨rfl,by simp only [←zeo p l 0];rfl⟩
theorem yfd (a:Int) (fv:AV) (v:Bool) (b:Nat) (G:List Res) (hp:y4 Tryz.prog fv [iv a] G (fun r h'=>h'=G∧r=bv v)):y9 Tryz.prog 172 [iv a,pZ b] (.box b 42 [fv]::G) (fun r h'=>h'= .box b 42 [fv]::G∧r=bv (!v)):=by
 refine z6 Tryz.func172 rfl rfl rfl ?_;refine rn ?_;refine qv rfl rfl (y3 rfl rfl (y4.quiet (R:=fun x=>x=bv v) (h2:= [_]) (E9 (l₁:= [_])) hp)) ?_;refine rn ?_;exact u6 rfl (.refl _ _) ⟨rfl,rfl⟩
theorem yt7 {full:Bool} (l:List Int) (fv:AV) (p:Int→Bool) (G:List Res) (hone:fv.cellsOf=some [fv]) (hp:∀a∈l,y4 Tryz.prog fv [iv a] G (fun r h'=>h'=G∧r=bv (p a))) (hlen:l.length≤4611686018427387904):y9 Tryz.prog 132 [.list full 1 (l.map zag),fv] G (fun r h'=>h'=G∧r=bv (l.all p)):=by
 refine z6 Tryz.func132 rfl rfl rfl ?_;refine rn ?_;refine z8 rfl (w7 rfl hone rfl fun b3=>?_);refine rn ?_;refine qv rfl rfl (y3 rfl rfl (y4.of_fun (zh7 l _ (fun a=> !p a) (.box b3 42 [fv]::G) (fun a ha=>y4.of_acall (fs:= []) (cs:= [pZ b3]) (yfd a fv (p a) b3 G (hp a ha))) hlen))) ?_;refine rn ?_;exact u6 rfl (.drop1 _ _ _) ⟨rfl,by simp only [←zjj p l];rfl⟩
theorem zvy {full:Bool} (l:List Ev) (fv:AV) (p:Ev→Bool) (G:List Res) (hp:∀a∈l,y4 Tryz.prog fv [.agg (evR a)] G (fun r h'=>h'=G∧r=bv (p a))) (hlen:l.length≤4611686018427387904):y9 Tryz.prog 202 [.list full 9 (l.map evR),fv] G (fun r h'=>h'=G∧r=iv (zbe p 0 l)):=by
 refine z6 Tryz.func202 rfl rfl rfl ?_
 refine rn ?_;refine u4 (fun k:Nat=>k≤l.length∧zbe p 0 l=zbe p k (l.drop k)) (fun k=>⟨[(8,iv k),(7,iv (l.map evR).length),(0,.list full 9 (l.map evR)),(1,fv)],G,[]⟩) (fun k=>l.length - k) 0 ⟨G1 _,by simp⟩
  (w6 (.cons _ _ _ rfl (.cons _ _ _ rfl (.cons _ _ _ rfl (.cons _ _ _ rfl (.nil)))))) ?_
 rintro k ⟨hk,hnot⟩;refine rn ?_;refine z7 rfl (fun hc9=>?_) (fun hc9=>?_)
 ·have hk2:k < l.length:=by simpa using hc9
  have hrow:(l.map evR)[k]? =some (evR l[k]):=by simp [hk2]
  have hd:=A8 hk2;refine rn ?_;refine qv rfl rfl (y3 rfl rfl (hp l[k] (by simp))) ?_;refine rn ?_;refine z7 rfl (fun hc16=>?_) (fun hc16=>?_)
  ·refine rn ?_;exact u6 rfl (.refl _ _) ⟨rfl,by rw [hnot,hd,zbe,A6 hc16];rfl⟩
  refine rn ?_;exact ⟨k+1,⟨by omega,by rw [hnot,hd,zbe,A0 (by simp [hc16])]⟩,(w6 (.cons _ _ _ rfl (.cons _ _ _ rfl (.cons _ _ _ rfl (.cons _ _ _ rfl (.nil)))))),by omega⟩
 have hk3:k=l.length:=by
  have:l.length≤k:=by simpa using hc9
  omega
 refine rn ?_;exact u6 rfl (.refl _ _) ⟨rfl,by rw [hnot,hk3,E5,zbe];rfl⟩
theorem zi1 {full:Bool} (l:List Ev) (fv:AV) (p:Ev→Bool) (G:List Res) (hp:∀a∈l,y4 Tryz.prog fv [.agg (evR a)] G (fun r h'=>h'=G∧r=bv (p a))) (hlen:l.length≤4611686018427387904):y9 Tryz.prog 173 [.list full 9 (l.map evR),fv] G (fun r h'=>h'=G∧r=bv (l.any p)):=by
 refine z6 Tryz.func173 rfl rfl rfl ?_;refine rn ?_;refine qv rfl rfl (y3 rfl rfl (y4.of_fun (zvy l _ p G hp hlen))) ?_;refine rn ?_;exact u6 rfl (.refl _ _) ⟨rfl,by simp only [←zeo p l 0];rfl⟩
theorem yjo (a:Ev) (fv:AV) (v:Bool) (b:Nat) (G:List Res) (hp:y4 Tryz.prog fv [.agg (evR a)] G (fun r h'=>h'=G∧r=bv v)):y9 Tryz.prog 174 [.agg (evR a),pZ b] (.box b 210 [fv]::G) (fun r h'=>h'= .box b 210 [fv]::G∧r=bv (!v)):=by
 refine z6 Tryz.func174 rfl rfl rfl ?_;refine rn ?_;refine z8 rfl (w7 rfl rfl rfl fun b2=>?_);refine rn ?_;refine qv rfl rfl (y3 rfl rfl (y4.quiet (R:=fun x=>x=bv v) (h2:= [_,_]) (E9 (l₁:= [_,_])) hp)) ?_;refine rn ?_;exact u6 rfl (.drop1 _ _ _) ⟨rfl,rfl⟩
theorem ywk {full:Bool} (l:List Ev) (fv:AV) (p:Ev→Bool) (G:List Res) (hone:fv.cellsOf=some [fv]) (hp:∀a∈l,y4 Tryz.prog fv [.agg (evR a)] G (fun r h'=>h'=G∧r=bv (p a))) (hlen:l.length≤4611686018427387904):y9 Tryz.prog 135 [.list full 9 (l.map evR),fv] G (fun r h'=>h'=G∧r=bv (l.all p)):=by
 refine z6 Tryz.func135 rfl rfl rfl ?_;refine rn ?_;refine z8 rfl (w7 rfl hone rfl fun b3=>?_);refine rn ?_;refine qv rfl rfl (y3 rfl rfl (y4.of_fun (zi1 l _ (fun a=> !p a) (.box b3 210 [fv]::G) (fun a ha=>y4.of_acall (fs:= []) (cs:= [pZ b3]) (yjo a fv (p a) b3 G (hp a ha))) hlen))) ?_;refine rn ?_;exact u6 rfl (.drop1 _ _ _) ⟨rfl,by simp only [←zjj p l];rfl⟩
theorem zlj {full:Bool} (l:List Ord) (fv:AV) (p:Ord→Bool) (G:List Res) (hp:∀a∈l,y4 Tryz.prog fv [.agg (zb7 a)] G (fun r h'=>h'=G∧r=bv (p a))) (hlen:l.length≤4611686018427387904):y9 Tryz.prog 159 [.list full 2 (l.map zb7),fv] G (fun r h'=>h'=G∧r=iv (zbe p 0 l)):=by
 refine z6 Tryz.func159 rfl rfl rfl ?_
 refine rn ?_;refine u4 (fun k:Nat=>k≤l.length∧zbe p 0 l=zbe p k (l.drop k)) (fun k=>⟨[(8,iv k),(7,iv (l.map zb7).length),(0,.list full 2 (l.map zb7)),(1,fv)],G,[]⟩) (fun k=>l.length - k) 0 ⟨G1 _,by simp⟩
  (w6 (.cons _ _ _ rfl (.cons _ _ _ rfl (.cons _ _ _ rfl (.cons _ _ _ rfl (.nil)))))) ?_
 rintro k ⟨hk,hnot⟩;refine rn ?_;refine z7 rfl (fun hc9=>?_) (fun hc9=>?_)
 ·have hk2:k < l.length:=by simpa using hc9
  have hrow:(l.map zb7)[k]? =some (zb7 l[k]):=by simp [hk2]
  have hd:=A8 hk2;refine rn ?_;refine qv rfl rfl (y3 rfl rfl (hp l[k] (by simp))) ?_;refine rn ?_;refine z7 rfl (fun hc16=>?_) (fun hc16=>?_)
  ·refine rn ?_;exact u6 rfl (.refl _ _) ⟨rfl,by rw [hnot,hd,zbe,A6 hc16];rfl⟩
  refine rn ?_;exact ⟨k+1,⟨by omega,by rw [hnot,hd,zbe,A0 (by simp [hc16])]⟩,(w6 (.cons _ _ _ rfl (.cons _ _ _ rfl (.cons _ _ _ rfl (.cons _ _ _ rfl (.nil)))))),by omega⟩
 have hk3:k=l.length:=by
  have:l.length≤k:=by simpa using hc9
  omega
 refine rn ?_;exact u6 rfl (.refl _ _) ⟨rfl,by rw [hnot,hk3,E5,zbe];rfl⟩
theorem zfr {full:Bool} (l:List Ord) (fv:AV) (p:Ord→Bool) (G:List Res) (hp:∀a∈l,y4 Tryz.prog fv [.agg (zb7 a)] G (fun r h'=>h'=G∧r=bv (p a))) (hlen:l.length≤4611686018427387904):y9 Tryz.prog 185 [.list full 2 (l.map zb7),fv] G (fun r h'=>h'=G∧r=bv (l.any p)):=by
 refine z6 Tryz.func185 rfl rfl rfl ?_;refine rn ?_;refine qv rfl rfl (y3 rfl rfl (y4.of_fun (zlj l _ p G hp hlen))) ?_;refine rn ?_;exact u6 rfl (.refl _ _) ⟨rfl,by simp only [←zeo p l 0];rfl⟩
theorem yfb (a:Ord) (fv:AV) (v:Bool) (b:Nat) (G:List Res) (hp:y4 Tryz.prog fv [.agg (zb7 a)] G (fun r h'=>h'=G∧r=bv v)):y9 Tryz.prog 186 [.agg (zb7 a),pZ b] (.box b 212 [fv]::G) (fun r h'=>h'= .box b 212 [fv]::G∧r=bv (!v)):=by
 refine z6 Tryz.func186 rfl rfl rfl ?_;refine rn ?_;refine z8 rfl (w7 rfl rfl rfl fun b2=>?_);refine rn ?_;refine qv rfl rfl (y3 rfl rfl (y4.quiet (R:=fun x=>x=bv v) (h2:= [_,_]) (E9 (l₁:= [_,_])) hp)) ?_;refine rn ?_;exact u6 rfl (.drop1 _ _ _) ⟨rfl,rfl⟩
theorem yt5 {full:Bool} (l:List Ord) (fv:AV) (p:Ord→Bool) (G:List Res) (hone:fv.cellsOf=some [fv]) (hp:∀a∈l,y4 Tryz.prog fv [.agg (zb7 a)] G (fun r h'=>h'=G∧r=bv (p a))) (hlen:l.length≤4611686018427387904):y9 Tryz.prog 138 [.list full 2 (l.map zb7),fv] G (fun r h'=>h'=G∧r=bv (l.all p)):=by
 refine z6 Tryz.func138 rfl rfl rfl ?_;refine rn ?_;refine z8 rfl (w7 rfl hone rfl fun b3=>?_);refine rn ?_;refine qv rfl rfl (y3 rfl rfl (y4.of_fun (zfr l _ (fun a=> !p a) (.box b3 212 [fv]::G) (fun a ha=>y4.of_acall (fs:= []) (cs:= [pZ b3]) (yfb a fv (p a) b3 G (hp a ha))) hlen))) ?_;refine rn ?_;exact u6 rfl (.drop1 _ _ _) ⟨rfl,by simp only [←zjj p l];rfl⟩
theorem zs6 {full:Bool} (l:List Mat) (fv:AV) (p:Mat→Bool) (G:List Res) (hp:∀a∈l,y4 Tryz.prog fv [.agg (zck a)] G (fun r h'=>h'=G∧r=bv (p a))) (hlen:l.length≤4611686018427387904):y9 Tryz.prog 205 [.list full 4 (l.map zck),fv] G (fun r h'=>h'=G∧r=iv (zbe p 0 l)):=by
 refine z6 Tryz.func205 rfl rfl rfl ?_
 refine rn ?_;refine u4 (fun k:Nat=>k≤l.length∧zbe p 0 l=zbe p k (l.drop k)) (fun k=>⟨[(8,iv k),(7,iv (l.map zck).length),(0,.list full 4 (l.map zck)),(1,fv)],G,[]⟩) (fun k=>l.length - k) 0 ⟨G1 _,by simp⟩
  (w6 (.cons _ _ _ rfl (.cons _ _ _ rfl (.cons _ _ _ rfl (.cons _ _ _ rfl (.nil)))))) ?_
 rintro k ⟨hk,hnot⟩;refine rn ?_;refine z7 rfl (fun hc9=>?_) (fun hc9=>?_)
 ·have hk2:k < l.length:=by simpa using hc9
  have hrow:(l.map zck)[k]? =some (zck l[k]):=by simp [hk2]
  have hd:=A8 hk2;refine rn ?_;refine qv rfl rfl (y3 rfl rfl (hp l[k] (by simp))) ?_;refine rn ?_;refine z7 rfl (fun hc16=>?_) (fun hc16=>?_)
  ·refine rn ?_;exact u6 rfl (.refl _ _) ⟨rfl,by rw [hnot,hd,zbe,A6 hc16];rfl⟩
  refine rn ?_;exact ⟨k+1,⟨by omega,by rw [hnot,hd,zbe,A0 (by simp [hc16])]⟩,(w6 (.cons _ _ _ rfl (.cons _ _ _ rfl (.cons _ _ _ rfl (.cons _ _ _ rfl (.nil)))))),by omega⟩
 have hk3:k=l.length:=by
  have:l.length≤k:=by simpa using hc9
  omega
 refine rn ?_;exact u6 rfl (.refl _ _) ⟨rfl,by rw [hnot,hk3,E5,zbe];rfl⟩
theorem zh6 {full:Bool} (l:List Mat) (fv:AV) (p:Mat→Bool) (G:List Res) (hp:∀a∈l,y4 Tryz.prog fv [.agg (zck a)] G (fun r h'=>h'=G∧r=bv (p a))) (hlen:l.length≤4611686018427387904):y9 Tryz.prog 187 [.list full 4 (l.map zck),fv] G (fun r h'=>h'=G∧r=bv (l.any p)):=by
 refine z6 Tryz.func187 rfl rfl rfl ?_;refine rn ?_;refine qv rfl rfl (y3 rfl rfl (y4.of_fun (zs6 l _ p G hp hlen))) ?_;refine rn ?_;exact u6 rfl (.refl _ _) ⟨rfl,by simp only [←zeo p l 0];rfl⟩
theorem yfc (a:Mat) (fv:AV) (v:Bool) (b:Nat) (G:List Res) (hp:y4 Tryz.prog fv [.agg (zck a)] G (fun r h'=>h'=G∧r=bv v)):y9 Tryz.prog 188 [.agg (zck a),pZ b] (.box b 214 [fv]::G) (fun r h'=>h'= .box b 214 [fv]::G∧r=bv (!v)):=by
 refine z6 Tryz.func188 rfl rfl rfl ?_;refine rn ?_;refine z8 rfl (w7 rfl rfl rfl fun b2=>?_);refine rn ?_;refine qv rfl rfl (y3 rfl rfl (y4.quiet (R:=fun x=>x=bv v) (h2:= [_,_]) (E9 (l₁:= [_,_])) hp)) ?_;refine rn ?_;exact u6 rfl (.drop1 _ _ _) ⟨rfl,rfl⟩
theorem yt6 {full:Bool} (l:List Mat) (fv:AV) (p:Mat→Bool) (G:List Res) (hone:fv.cellsOf=some [fv]) (hp:∀a∈l,y4 Tryz.prog fv [.agg (zck a)] G (fun r h'=>h'=G∧r=bv (p a))) (hlen:l.length≤4611686018427387904):y9 Tryz.prog 140 [.list full 4 (l.map zck),fv] G (fun r h'=>h'=G∧r=bv (l.all p)):=by
 refine z6 Tryz.func140 rfl rfl rfl ?_;refine rn ?_;refine z8 rfl (w7 rfl hone rfl fun b3=>?_);refine rn ?_;refine qv rfl rfl (y3 rfl rfl (y4.of_fun (zh6 l _ (fun a=> !p a) (.box b3 214 [fv]::G) (fun a ha=>y4.of_acall (fs:= []) (cs:= [pZ b3]) (yfc a fv (p a) b3 G (hp a ha))) hlen))) ?_;refine rn ?_;exact u6 rfl (.drop1 _ _ _) ⟨rfl,by simp only [←zjj p l];rfl⟩
theorem zs5 {full:Bool} (l:List Wan) (fv:AV) (p:Wan→Bool) (G:List Res) (hp:∀a∈l,y4 Tryz.prog fv [.agg (zar a)] G (fun r h'=>h'=G∧r=bv (p a))) (hlen:l.length≤4611686018427387904):y9 Tryz.prog 102 [.list full 2 (l.map zar),fv] G (fun r h'=>h'=G∧r=iv (zbe p 0 l)):=by
 refine z6 Tryz.func102 rfl rfl rfl ?_
 refine rn ?_;refine u4 (fun k:Nat=>k≤l.length∧zbe p 0 l=zbe p k (l.drop k)) (fun k=>⟨[(8,iv k),(7,iv (l.map zar).length),(0,.list full 2 (l.map zar)),(1,fv)],G,[]⟩) (fun k=>l.length - k) 0 ⟨G1 _,by simp⟩
  (w6 (.cons _ _ _ rfl (.cons _ _ _ rfl (.cons _ _ _ rfl (.cons _ _ _ rfl (.nil)))))) ?_
 rintro k ⟨hk,hnot⟩;refine rn ?_;refine z7 rfl (fun hc9=>?_) (fun hc9=>?_)
 ·have hk2:k < l.length:=by simpa using hc9
  have hrow:(l.map zar)[k]? =some (zar l[k]):=by simp [hk2]
  have hd:=A8 hk2;refine rn ?_;refine qv rfl rfl (y3 rfl rfl (hp l[k] (by simp))) ?_;refine rn ?_;refine z7 rfl (fun hc16=>?_) (fun hc16=>?_)
  ·refine rn ?_;exact u6 rfl (.refl _ _) ⟨rfl,by rw [hnot,hd,zbe,A6 hc16];rfl⟩
  refine rn ?_;exact ⟨k+1,⟨by omega,by rw [hnot,hd,zbe,A0 (by simp [hc16])]⟩,(w6 (.cons _ _ _ rfl (.cons _ _ _ rfl (.cons _ _ _ rfl (.cons _ _ _ rfl (.nil)))))),by omega⟩
 have hk3:k=l.length:=by
  have:l.length≤k:=by simpa using hc9
  omega
 refine rn ?_;exact u6 rfl (.refl _ _) ⟨rfl,by rw [hnot,hk3,E5,zbe];rfl⟩
theorem zh5 {full:Bool} (l:List Wan) (fv:AV) (p:Wan→Bool) (G:List Res) (hp:∀a∈l,y4 Tryz.prog fv [.agg (zar a)] G (fun r h'=>h'=G∧r=bv (p a))) (hlen:l.length≤4611686018427387904):y9 Tryz.prog 49 [.list full 2 (l.map zar),fv] G (fun r h'=>h'=G∧r=bv (l.any p)):=by
 refine z6 Tryz.func49 rfl rfl rfl ?_;refine rn ?_;refine qv rfl rfl (y3 rfl rfl (y4.of_fun (zs5 l _ p G hp hlen))) ?_;refine rn ?_;exact u6 rfl (.refl _ _) ⟨rfl,by simp only [←zeo p l 0];rfl⟩
theorem yfa (a:Wan) (fv:AV) (v:Bool) (b:Nat) (G:List Res) (hp:y4 Tryz.prog fv [.agg (zar a)] G (fun r h'=>h'=G∧r=bv v)):y9 Tryz.prog 189 [.agg (zar a),pZ b] (.box b 94 [fv]::G) (fun r h'=>h'= .box b 94 [fv]::G∧r=bv (!v)):=by
 refine z6 Tryz.func189 rfl rfl rfl ?_;refine rn ?_;refine z8 rfl (w7 rfl rfl rfl fun b2=>?_);refine rn ?_;refine qv rfl rfl (y3 rfl rfl (y4.quiet (R:=fun x=>x=bv v) (h2:= [_,_]) (E9 (l₁:= [_,_])) hp)) ?_;refine rn ?_;exact u6 rfl (.drop1 _ _ _) ⟨rfl,rfl⟩
theorem yt4 {full:Bool} (l:List Wan) (fv:AV) (p:Wan→Bool) (G:List Res) (hone:fv.cellsOf=some [fv]) (hp:∀a∈l,y4 Tryz.prog fv [.agg (zar a)] G (fun r h'=>h'=G∧r=bv (p a))) (hlen:l.length≤4611686018427387904):y9 Tryz.prog 142 [.list full 2 (l.map zar),fv] G (fun r h'=>h'=G∧r=bv (l.all p)):=by
 refine z6 Tryz.func142 rfl rfl rfl ?_;refine rn ?_;refine z8 rfl (w7 rfl hone rfl fun b3=>?_);refine rn ?_;refine qv rfl rfl (y3 rfl rfl (y4.of_fun (zh5 l _ (fun a=> !p a) (.box b3 94 [fv]::G) (fun a ha=>y4.of_acall (fs:= []) (cs:= [pZ b3]) (yfa a fv (p a) b3 G (hp a ha))) hlen))) ?_;refine rn ?_;exact u6 rfl (.drop1 _ _ _) ⟨rfl,by simp only [←zjj p l];rfl⟩
theorem zqp {full:Bool} (l:List Seen) (fv:AV) (p:Seen→Bool) (G:List Res) (hp:∀a∈l,y4 Tryz.prog fv [.agg (zav a)] G (fun r h'=>h'=G∧r=bv (p a))) (hlen:l.length≤4611686018427387904):y9 Tryz.prog 222 [.list full 3 (l.map zav),fv] G (fun r h'=>h'=G∧r=iv (zbe p 0 l)):=by
 refine z6 Tryz.func222 rfl rfl rfl ?_
 refine rn ?_;refine u4 (fun k:Nat=>k≤l.length∧zbe p 0 l=zbe p k (l.drop k)) (fun k=>⟨[(8,iv k),(7,iv (l.map zav).length),(0,.list full 3 (l.map zav)),(1,fv)],G,[]⟩) (fun k=>l.length - k) 0 ⟨G1 _,by simp⟩
  (w6 (.cons _ _ _ rfl (.cons _ _ _ rfl (.cons _ _ _ rfl (.cons _ _ _ rfl (.nil)))))) ?_
 rintro k ⟨hk,hnot⟩;refine rn ?_;refine z7 rfl (fun hc9=>?_) (fun hc9=>?_)
 ·have hk2:k < l.length:=by simpa using hc9
  have hrow:(l.map zav)[k]? =some (zav l[k]):=by simp [hk2]
  have hd:=A8 hk2;refine rn ?_;refine qv rfl rfl (y3 rfl rfl (hp l[k] (by simp))) ?_;refine rn ?_;refine z7 rfl (fun hc16=>?_) (fun hc16=>?_)
  ·refine rn ?_;exact u6 rfl (.refl _ _) ⟨rfl,by rw [hnot,hd,zbe,A6 hc16];rfl⟩
  refine rn ?_;exact ⟨k+1,⟨by omega,by rw [hnot,hd,zbe,A0 (by simp [hc16])]⟩,(w6 (.cons _ _ _ rfl (.cons _ _ _ rfl (.cons _ _ _ rfl (.cons _ _ _ rfl (.nil)))))),by omega⟩
 have hk3:k=l.length:=by
  have:l.length≤k:=by simpa using hc9
  omega
 refine rn ?_;exact u6 rfl (.refl _ _) ⟨rfl,by rw [hnot,hk3,E5,zbe];rfl⟩
theorem ze4 {full:Bool} (l:List Seen) (fv:AV) (p:Seen→Bool) (G:List Res) (hp:∀a∈l,y4 Tryz.prog fv [.agg (zav a)] G (fun r h'=>h'=G∧r=bv (p a))) (hlen:l.length≤4611686018427387904):y9 Tryz.prog 203 [.list full 3 (l.map zav),fv] G (fun r h'=>h'=G∧r=bv (l.any p)):=by
 refine z6 Tryz.func203 rfl rfl rfl ?_;refine rn ?_;refine qv rfl rfl (y3 rfl rfl (y4.of_fun (zqp l _ p G hp hlen))) ?_;refine rn ?_;exact u6 rfl (.refl _ _) ⟨rfl,by simp only [←zeo p l 0];rfl⟩
theorem yaf (a:Seen) (fv:AV) (v:Bool) (b:Nat) (G:List Res) (hp:y4 Tryz.prog fv [.agg (zav a)] G (fun r h'=>h'=G∧r=bv v)):y9 Tryz.prog 204 [.agg (zav a),pZ b] (.box b 248 [fv]::G) (fun r h'=>h'= .box b 248 [fv]::G∧r=bv (!v)):=by
 refine z6 Tryz.func204 rfl rfl rfl ?_;refine rn ?_;refine z8 rfl (w7 rfl rfl rfl fun b2=>?_);refine rn ?_;refine qv rfl rfl (y3 rfl rfl (y4.quiet (R:=fun x=>x=bv v) (h2:= [_,_]) (E9 (l₁:= [_,_])) hp)) ?_;refine rn ?_;exact u6 rfl (.drop1 _ _ _) ⟨rfl,rfl⟩
theorem ypk {full:Bool} (l:List Seen) (fv:AV) (p:Seen→Bool) (G:List Res) (hone:fv.cellsOf=some [fv]) (hp:∀a∈l,y4 Tryz.prog fv [.agg (zav a)] G (fun r h'=>h'=G∧r=bv (p a))) (hlen:l.length≤4611686018427387904):y9 Tryz.prog 182 [.list full 3 (l.map zav),fv] G (fun r h'=>h'=G∧r=bv (l.all p)):=by
 refine z6 Tryz.func182 rfl rfl rfl ?_;refine rn ?_;refine z8 rfl (w7 rfl hone rfl fun b3=>?_);refine rn ?_;refine qv rfl rfl (y3 rfl rfl (y4.of_fun (ze4 l _ (fun a=> !p a) (.box b3 248 [fv]::G) (fun a ha=>y4.of_acall (fs:= []) (cs:= [pZ b3]) (yaf a fv (p a) b3 G (hp a ha))) hlen))) ?_;refine rn ?_;exact u6 rfl (.drop1 _ _ _) ⟨rfl,by simp only [←zjj p l];rfl⟩
theorem yq5 (e:Ev):y9 Tryz.prog 263 [.agg (evR e)] [] (fun r h'=>h'= []∧r=zlb (u5 e)):=by
 refine z6 Tryz.func263 rfl rfl rfl ?_;refine rn ?_;refine z8 rfl (w7 rfl rfl rfl fun b1=>?_);refine rn ?_;refine z7 rfl (fun hc5=>?_) (fun hc5=>?_)
 ·refine rn ?_;refine qv rfl rfl (q8 rfl rfl) ?_;refine rn ?_;exact u6 rfl (.trans (.drop [_] _ _) (.le Sb.unfull.le)) ⟨rfl,by rw [u5,A6 (by simpa using hc5)];rfl⟩
 refine rn ?_;refine rq 1 ?_;exact ⟨rfl,by rw [u5,A0 (by simpa using hc5)];rfl⟩
theorem yna (e:Ev) (bl bp:Nat) (h:Hist) (p:List Ev) (r1 r2 r3 r4 r5:Nat):y9 Tryz.prog 259 [.agg (evR e),pZ bp] (zdi bl h p r1 r2 r3 r4 r5 [.box bp 198 [pZ bl]]) (fun r h'=>h'=(zdi bl h p r1 r2 r3 r4 r5 [.box bp 198 [pZ bl]])∧r=bv (zbi 1 e p)):=by
 refine z6 Tryz.func259 rfl rfl rfl ?_;refine rn ?_;refine z8 rfl (w7 rfl rfl rfl fun b2=>?_);refine rn ?_;refine j5 10 rfl ?_;refine dq rfl rfl qrA ?_;refine dq rfl rfl qrA ?_;refine dq rfl rfl qrA ?_;refine dq rfl rfl qrA ?_;refine dq rfl rfl qrA ?_;refine dq rfl rfl qrA ?_;refine dq rfl rfl (zc0 (enc:=zcm) (k:=e.t) false rfl rfl) ?_;refine rn ?_;refine rq 1 ?_;exact ⟨rfl,A4 bv (by rw [yje];simp only [zbi];cases zhn p e.t <;> rfl)⟩
theorem yvh (e:Ev) (bl bp:Nat) (h:Hist) (p:List Ev) (r1 r2 r3 r4 r5:Nat):y9 Tryz.prog 260 [.agg (evR e),pZ bp] (zdi bl h p r1 r2 r3 r4 r5 [.box bp 198 [pZ bl]]) (fun r h'=>h'=(zdi bl h p r1 r2 r3 r4 r5 [.box bp 198 [pZ bl]])∧r=bv (zbi 2 e p)):=by
 refine z6 Tryz.func260 rfl rfl rfl ?_;refine rn ?_;refine z8 rfl (w7 rfl rfl rfl fun b2=>?_);refine rn ?_;refine j5 6 rfl ?_;refine rn2 ?_;refine qq rfl rfl (zc0 (enc:=zcm) (k:=e.t) false rfl rfl) ?_;refine rn ?_;refine rq 1 ?_;exact ⟨rfl,A4 bv (by rw [yhj];simp only [zbi];cases zsr p e.t <;> rfl)⟩
theorem ym9 (e:Ev) (bl bp:Nat) (h:Hist) (p:List Ev) (r1 r2 r3 r4 r5:Nat) (hl:p.length≤1000000):y9 Tryz.prog 261 [.agg (evR e),pZ bp] (zdi bl h p r1 r2 r3 r4 r5 [.box bp 198 [pZ bl]]) (fun r h'=>h'=(zdi bl h p r1 r2 r3 r4 r5 [.box bp 198 [pZ bl]])∧r=bv (zbi 3 e p)):=by
 refine z6 Tryz.func261 rfl rfl rfl ?_;have hw:=zho p e.t e.o;refine rn ?_;refine z8 rfl (w7 rfl rfl rfl fun b2=>?_);refine rn ?_;refine j5 18 rfl ?_;refine rn ?_;refine ze6 (fun hg1_3=>?_) (fun hg1_3=>?_)
 ·refine dq rfl rfl qrA ?_;refine dq rfl rfl qrA ?_;refine dq rfl rfl qrA ?_;refine dq rfl rfl qrA ?_;refine dq rfl rfl qrA ?_;refine dq rfl rfl qrA ?_;refine dq rfl rfl qrA ?_;refine dq rfl rfl qrA ?_;refine dq rfl rfl qrA ?_;refine dq rfl rfl qrA ?_;refine dq rfl rfl qrA ?_;refine dq rfl rfl (zal (out:= [iv e.t,iv e.o]) rfl (by rfl)) ?_;refine dq rfl rfl (zc0 (enc:=zen) (k:=(e.t,e.o)) 0 rfl rfl) ?_;refine dq rfl rfl (zai rfl rfl rfl (by rw [zlv];omega)) ?_;refine rn ?_;refine rq 1 ?_;exact ⟨rfl,A4 bv (by simp only [zbi];rw [←zlv];simp_all [bne])⟩
 refine rn ?_;refine rq 1 ?_;exact ⟨rfl,A4 bv (by simp only [zbi];rw [←zlv];simp_all [bne])⟩
theorem zzn (s:Seen) (bl bp:Nat) (h:Hist) (p:List Ev) (r1 r2 r3 r4 r5:Nat):y9 Tryz.prog 264 [.agg (zav s),pZ bp] (zdi bl h p r1 r2 r3 r4 r5 [.box bp 198 [pZ bl]]) (fun r h'=>h'=(zdi bl h p r1 r2 r3 r4 r5 [.box bp 198 [pZ bl]])∧r=bv (decide (s.v.k > 0) && !zfh p s.o s.v)):=by
 refine z6 Tryz.func264 rfl rfl rfl ?_;refine rn ?_;refine z8 rfl (w7 rfl rfl rfl fun b2=>?_);refine rn ?_;refine j5 14 rfl ?_;refine rn ?_;refine ze6 (fun hg1_4=>?_) (fun hg1_4=>?_)
 ·refine dq rfl rfl qrA ?_;refine dq rfl rfl qrA ?_;refine dq rfl rfl qrA ?_;refine dq rfl rfl qrA ?_;refine dq rfl rfl qrA ?_;refine dq rfl rfl qrA ?_;refine dq rfl rfl qrA ?_;refine dq rfl rfl qrA ?_;refine dq rfl rfl (zal (out:= [iv s.o,iv s.v.t,iv s.v.k]) rfl (by rfl)) ?_;refine rn2 ?_;refine qq rfl rfl (zc0 (enc:=zgb) (k:=(s.o,s.v.t,s.v.k)) false rfl rfl) ?_;refine rn ?_;refine rq 1 ?_;exact ⟨rfl,A4 bv (by first|(rw [zwq];cases zfh p s.o s.v <;> simp_all;done)|(simp_all;done)|(simp_all <;> (intros;omega)))⟩
 refine rn ?_;refine rq 1 ?_;exact ⟨rfl,A4 bv (by first|(rw [zwq];cases zfh p s.o s.v <;> simp_all;done)|(simp_all;done)|(simp_all <;> (intros;omega)))⟩
theorem yb7 (e:Ev) (bl bp:Nat) (h:Hist) (p:List Ev) (r1 r2 r3 r4 r5:Nat) (hl:e.scan.length≤4611686018427387904):y9 Tryz.prog 262 [.agg (evR e),pZ bp] (zdi bl h p r1 r2 r3 r4 r5 [.box bp 198 [pZ bl]]) (fun r h'=>h'=(zdi bl h p r1 r2 r3 r4 r5 [.box bp 198 [pZ bl]])∧r=bv (zbi 4 e p)):=by
 refine z6 Tryz.func262 rfl rfl rfl ?_;refine rn ?_;refine z8 rfl (w7 rfl rfl rfl fun b2=>?_);refine rn ?_;refine qv rfl rfl (y3 rfl rfl (u0 (yq5 _) (Sbs.refl _))) ?_;refine rn ?_;refine qv rfl rfl (y3 rfl rfl (y4.quiet (R:=fun r=>r=bv _) (h2:= [_]) (E9 (l₁:= [_])) (y4.of_fun (ze4 (u5 e) _ _ (zdi bl h p r1 r2 r3 r4 r5 [.box bp 198 [pZ bl]]) (fun s _=>y4.of_acall (fs:= []) (cs:= [pZ bp]) (zzn s bl bp h p r1 r2 r3 r4 r5)) (zkn hl))))) ?_;refine rn ?_;refine rq 1 ?_;exact ⟨rfl,rfl⟩
theorem yq7 (s:Seen) (e:Ev) (be:Nat) (bl bp:Nat) (h:Hist) (p:List Ev) (r1 r2 r3 r4 r5:Nat):y9 Tryz.prog 266 [.agg (zav s),pZ bp,pZ be] (.box be 66 (evR e)::(zdi bl h p r1 r2 r3 r4 r5 [.box bp 198 [pZ bl]])) (fun r h'=>h'=(.box be 66 (evR e)::(zdi bl h p r1 r2 r3 r4 r5 [.box bp 198 [pZ bl]]))∧r=bv (match zvv p e.t s.o with|some v=>v !=s.v|none=>false)):=by
 refine z6 Tryz.func266 rfl rfl rfl ?_;refine rn ?_;refine z8 rfl (w7 rfl rfl rfl fun b3=>?_);refine rn0 ?_;refine x7 ?_;refine zml 15 [13,14] [] (fun he=>he= .box b3 139 (zav s)::(.box be 66 (evR e)::(zdi bl h p r1 r2 r3 r4 r5 [.box bp 198 [pZ bl]]))∨∃b c,he= .box b 63 c:: .box b3 139 (zav s)::(.box be 66 (evR e)::(zdi bl h p r1 r2 r3 r4 r5 [.box bp 198 [pZ bl]]))) rfl rfl (.inl rfl) ?_;refine jq rfl (fun he hC=>by rcases hC with rfl|⟨b,c,rfl⟩ <;> exact qrA) ?_;refine jq rfl (fun he hC=>by rcases hC with rfl|⟨b,c,rfl⟩ <;> exact qrA) ?_;refine jq rfl (fun he hC=>by rcases hC with rfl|⟨b,c,rfl⟩ <;> exact qrA) ?_;refine jq rfl (fun he hC=>by rcases hC with rfl|⟨b,c,rfl⟩ <;> exact qrA) ?_;refine jq rfl (fun he hC=>by rcases hC with rfl|⟨b,c,rfl⟩ <;> exact qrA) ?_;refine jq rfl (fun he hC=>by rcases hC with rfl|⟨b,c,rfl⟩ <;> exact qrA) ?_;refine jq rfl (fun he hC=>by rcases hC with rfl|⟨b,c,rfl⟩ <;> exact qrA) ?_;refine jq rfl (fun he hC=>by rcases hC with rfl|⟨b,c,rfl⟩ <;> exact qrA) ?_;refine jq rfl (fun he hC=>by rcases hC with rfl|⟨b,c,rfl⟩ <;> exact (by exact zal (out:= [iv e.t,iv s.o]) rfl (by rfl))) ?_;refine jq rfl (fun he hC=>by rcases hC with rfl|⟨b,c,rfl⟩ <;> exact (by exact zsm (enc:=zen) (k:=(e.t,s.o)) (⟨0,0⟩:Ver) rfl rfl rfl)) ?_;refine jq rfl (fun he hC=>by rcases hC with rfl|⟨b,c,rfl⟩ <;> exact qrA) ?_;refine jq rfl (fun he hC=>by rcases hC with rfl|⟨b,c,rfl⟩ <;> exact qrA) ?_;refine jq rfl (fun he hC=>by rcases hC with rfl|⟨b,c,rfl⟩ <;> exact qrA) ?_;refine je rfl ?_;refine je rfl ?_;refine yig ?_;refine jce rfl fun u=>?_;refine y6 rfl fun b5=>⟨_,_,rfl,.inr ⟨_,_,rfl⟩,?_⟩;refine jce rfl fun u=>?_;refine zak rfl rfl rfl ⟨.any,_,rfl,.inr ⟨_,_,rfl⟩,?_⟩;refine jcn ?_;refine ln ?_;refine rn ?_;refine x5 (fun hg2_1=>?_) (fun hg2_1=>?_)
 ·refine rn ?_;refine rq 2 ?_;exact ⟨rfl,A4 bv (by rw [zmc] at hg2_1;(try rw [zmc]);cases hv:zvv p e.t s.o <;> simp_all [yf2,bne,yax])⟩
 refine rn ?_;refine rq 2 ?_;exact ⟨rfl,A4 bv (by rw [zmc] at hg2_1;(try rw [zmc]);cases hv:zvv p e.t s.o <;> simp_all [yf2,bne,yax])⟩
theorem yvd (e:Ev) (bl bp:Nat) (h:Hist) (p:List Ev) (r1 r2 r3 r4 r5:Nat) (hl:e.scan.length≤4611686018427387904):y9 Tryz.prog 265 [.agg (evR e),pZ bp] (zdi bl h p r1 r2 r3 r4 r5 [.box bp 198 [pZ bl]]) (fun r h'=>h'=(zdi bl h p r1 r2 r3 r4 r5 [.box bp 198 [pZ bl]])∧r=bv (zbi 5 e p)):=by
 refine z6 Tryz.func265 rfl rfl rfl ?_;refine rn ?_;refine z8 rfl (w7 rfl rfl rfl fun b2=>?_);refine rn ?_;refine qv rfl rfl (y3 rfl rfl (u0 (yq5 _) (Sbs.refl _))) ?_;refine rn ?_;refine qv rfl rfl (y3 rfl rfl (y4.of_fun (ze4 (u5 e) _ _ (.box b2 66 (evR e)::(zdi bl h p r1 r2 r3 r4 r5 [.box bp 198 [pZ bl]])) (fun s _=>y4.of_acall (fs:= []) (cs:= [pZ bp,pZ b2]) (yq7 s e b2 bl bp h p r1 r2 r3 r4 r5)) (zkn hl)))) ?_;refine rn ?_;refine rq 1 ?_;exact ⟨rfl,rfl⟩
theorem yq6 (e:Ev) (hl:e.scan.length≤4611686018427387904):y9 Tryz.prog 267 [.agg (evR e)] [] (fun r h'=>h'= []∧r=bv (zbi 6 e [])):=by
 refine z6 Tryz.func267 rfl rfl rfl ?_;refine rn ?_;refine z8 rfl (w7 rfl rfl rfl fun b1=>?_);refine rn ?_;refine zke ?_;refine rn ?_;refine z8 rfl (zbm (enc:=zcm) rfl fun b6=>?_);refine rn ?_;refine zbv e.scan.length (fun k=>((e.scan.take k).map Seen.o).Nodup) (fun k=>⟨[(10,iv k),(1,pZ b1),(3,.v (.map (some b6))),(8,zlb e.scan),(9,iv (e.scan.map zav).length)],[.map b6 (zan zcm (zce bv (zxq (e.scan.take k)))),.box b1 66 (evR e)],[]⟩) (by simp) es ?_;intro k lk nk;refine rn ?_;refine z7 rfl (fun hc11=>?_) (fun hc11=>?_)
 ·have hk:=zaw hc11;have rk:=zam (f:=zav) hk;refine rn ?_;refine z8 rfl (y6 rfl fun b5=>?_);first|refine z8 rfl (zak rfl rfl rfl ?_)|refine z8 rfl (za6 rfl rfl rfl rfl (A7 rfl) ?_)
  refine u1 (j8 ?_);refine x7 ?_;refine x7 (y5 ?_);refine q1 ?_;refine q1 ?_;refine q1 ?_;refine qq rfl rfl (zc0 (enc:=zcm) (k:=e.scan[k].o) false rfl rfl) ?_;refine rn ?_;refine z7 rfl (fun hc17=>?_) (fun hc17=>?_)
  ·refine zes ?_;refine ze2 ?_;refine zkz rfl ?_;refine ze2 ?_;refine ze2 ?_;refine zcg ?_;refine j8 ?_;refine x7 (y5 ?_);refine q1 ?_;refine qq rfl rfl (zo1 (enc:=zcm) rfl) ?_;refine rn ?_;refine ⟨fun l h=>(by cases h),?_⟩;first|(refine rq 3 ?_;exact ⟨rfl,A4 bv (yj4 hk nk (by simpa using hc17))⟩)|(refine rq 2 ?_;exact ⟨rfl,A4 bv (yj5 nk)⟩)
  have hx:=yrt (by simpa using hc17);refine rn ?_;refine z8 rfl (zby (g:=bv) (enc:=zcm) (k:=e.scan[k].o) (v:=true) rfl rfl rfl ?_);refine rn ?_;exact ⟨hk,yhu hk nk hx,by rw [yct hk];exact eA⟩
 have qk:=zaz hc11 lk;subst qk;refine zes ?_;refine ze2 ?_;refine ze2 ?_;refine zcg ?_;refine j8 ?_;refine x7 (y5 ?_);refine q1 ?_;refine qq rfl rfl (zo1 (enc:=zcm) rfl) ?_;refine rn ?_;refine ⟨fun l h=>(by cases h),?_⟩;first|(refine rq 3 ?_;exact ⟨rfl,A4 bv (yj4 hk nk (by simpa using hc17))⟩)|(refine rq 2 ?_;exact ⟨rfl,A4 bv (yj5 nk)⟩)
end Go.Proofs
namespace Go.Ab
open Go
def isM (i:Nat):Bool:=Nat.blt i 10
def mkE (L:List Nat) (ρ:Nat→Nat):Fr:=(L.filter isM).map fun i=>(i+6,.v (.map (some (ρ i))))
def mkH (L:List Nat) (ρ:Nat→Nat):List Res:=(L.filter isM).map fun i=> .map (ρ i) []
def cel (L:List Nat) (ρ:Nat→Nat) (s m:Nat):AV:=if s∈L then .v (.map (some (ρ m))) else .v (.map none)
def zt5 (L:List Nat) (ρ:Nat→Nat):List AV:= [cel L ρ 12 5,cel L ρ 15 6,cel L ρ 18 7,cel L ρ 21 8,.v (.map none)]
def eff5:List Nat:= [5,6,7,8,9,12,15,18,21]
def J5 (bl:Nat) (T:TypeId) (c0:List AV) (R:List Res) (L:List Nat) (ee:Fr) (he:List Res):Prop:=
 L.Nodup∧(∀i∈L,i∈eff5)∧((12∈L→5∈L)∧(15∈L→6∈L)∧(18∈L→7∈L)∧(21∈L→8∈L))∧∃ρ,ee=mkE L ρ∧he=mkH L ρ++ .box bl T (c0++zt5 L ρ)::R
theorem J5.start {bl:Nat} {T:TypeId} {c0:List AV} {R:List Res}:J5 bl T c0 R [] [] (.box bl T (c0++ [.v (.map none),.v (.map none),.v (.map none),.v (.map none),.v (.map none)])::R):=
 ⟨.nil,fun i h=>by simp at h,⟨fun h=>by simp at h,fun h=>by simp at h,fun h=>by simp at h,fun h=>by simp at h⟩,fun _=>0,rfl,by simp [mkH,zt5,cel]⟩
theorem yht {L:List Nat} {ρ ρ':Nat→Nat} (h:∀i∈L,ρ i=ρ' i):mkE L ρ=mkE L ρ'∧mkH L ρ=mkH L ρ':=
 ⟨Q3 fun i hi=>by rw [h i (L1.1 hi).1],Q3 fun i hi=>by rw [h i (L1.1 hi).1]⟩
theorem J5.make {bl:Nat} {T:TypeId} {c0:List AV} {R:List Res} {L:List Nat} {ee:Fr} {he:List Res} {i:Nat} (h:J5 bl T c0 R L ee he) (hi:i ∉ L) (hm:isM i=true) (hie:i∈eff5) (r:Nat):J5 bl T c0 R (i::L) ((i+6,.v (.map (some r)))::ee) (.map r []::he):=by
 obtain ⟨h1,h2,⟨p1,p2,p3,p4⟩,ρ,rfl,rfl⟩:=h;have hlt:i < 10:=A7 hm
 have hne:∀j∈L,ρ j=(fun j=>if j=i then r else ρ j) j:=fun j hj=>by
  have:j≠i:=fun e=>hi (e ▸ hj);simp [this]
 obtain ⟨e1,e2⟩:=yht hne;refine ⟨K9.2 ⟨hi,h1⟩,fun j hj=>(C9.1 hj).elim (fun e=>e ▸ hie) (h2 j),⟨?_,?_,?_,?_⟩,fun j=>if j=i then r else ρ j,?_,?_⟩
 iterate 4 (· intro hx;rcases C9.1 hx with e|hx;omega;first|exact G3 _ (p1 hx)|exact G3 _ (p2 hx)|exact G3 _ (p3 hx)|exact G3 _ (p4 hx))
 ·rw [e1];simp [mkE,I0,hm]
 have hc:∀s m,10≤s→(s∈L→m∈L)→cel L ρ s m=cel (i::L) (fun j=>if j=i then r else ρ j) s m:=fun s m hs hsm=>by
  unfold cel;by_cases hx:s∈L
  ·rw [A6 hx,A6 (G3 _ hx),←hne m (hsm hx)]
  rw [A0 hx,A0 (fun q=>(C9.1 q).elim (by omega) hx)]
 rw [e2];have:zt5 L ρ=zt5 (i::L) (fun j=>if j=i then r else ρ j):=by
  unfold zt5;rw [hc 12 5 (by omega) p1,hc 15 6 (by omega) p2,hc 18 7 (by omega) p3,hc 21 8 (by omega) p4]
 rw [this];simp [mkH,I0,hm]
theorem zjb {ρ:Nat→Nat} {m:Nat} (hm:isM m=true):∀{L:List Nat},m∈L→lk (mkE L ρ) (m+6)=some (.v (.map (some (ρ m))))
 | [],h=>by simp at h
 |j::L,h=>by
  unfold mkE;rw [I0];by_cases hj:isM j=true
  ·rw [A6 hj,F6,lk];by_cases e:j=m
   ·subst e;simp
   have:Nat.beq (j+6) (m+6)=false:=by
    cases hb:Nat.beq (j+6) (m+6) with
    |false=>rfl
    |true=>have:=C3 hb;omega
   rw [this];exact zjb hm ((C9.1 h).resolve_left (fun q=>e q.symm))
  rw [A0 hj];refine zjb hm ((C9.1 h).resolve_left (fun q=>hj (q ▸ hm)))
theorem zl8 {ρ:Nat→Nat} {d:Nat} (hd:d < 6):∀{L:List Nat},lk (mkE L ρ) d=none
 | []=>rfl
 |j::L=>by
  unfold mkE;rw [I0];split
  ·rw [F6,lk];have:Nat.beq (j+6) d=false:=by
    cases hb:Nat.beq (j+6) d with
    |false=>rfl
    |true=>have:=C3 hb;omega
   rw [this];exact zl8 hd
  exact zl8 hd
theorem yrz {E ee t:Fr} {d:Nat} {a:AV} (h1:lk E d=none) (h2:lk ee d=none) (h3:lk t d=some a):lk ((E++ee)++t) d=some a:=by
 rw [u9,u9,h1];simp only;rw [h2];exact h3
theorem yvs {E ee t:Fr} {d:Nat} {a:AV} (h1:lk E d=none) (h2:lk ee d=some a):lk ((E++ee)++t) d=some a:=by
 rw [u9,u9,h1];simp only;rw [h2]
theorem yh4 {A ee B:Fr} {ds:List Tmp} {d:Nat} {a:AV} (h1:lk A d=none) (h2:ds.any (Nat.beq d)=true) (h3:lk ee d=some a):lk (A++(zir ds ee++B)) d=some a:=by
 rw [u9,h1];simp only;rw [u9,zir,zeh (q:=fun d=>ds.any (Nat.beq d)) h2,h3]
section
variable {bl:Nat} {T:TypeId} {c0:List AV} {R:List Res} {L:List Nat} {ρ:Nat→Nat}
theorem yus:HasBox (mkH L ρ++ .box bl T (c0++zt5 L ρ)::R) bl (mkH L ρ).length T (c0++zt5 L ρ):=⟨by simp⟩
theorem yuh (x:Res):SetAt (mkH L ρ++ .box bl T (c0++zt5 L ρ)::R) (mkH L ρ).length x (mkH L ρ++x::R):=⟨by simp⟩
theorem J5.put {s m:Nat} {cs':List AV} (h:J5 bl T c0 R L (mkE L ρ) (mkH L ρ++ .box bl T (c0++zt5 L ρ)::R)) (hs:s ∉ L) (hse:s∈eff5) (hsm:isM s=false) (hmL:(s,m)∈ [(12,5),(15,6),(18,7),(21,8)]) (hm:m∈L)
 (hc:cs'=c0++(zt5 L ρ).set ((m - 5)) (.v (.map (some (ρ m))))):J5 bl T c0 R (s::L) (mkE L ρ) (mkH L ρ++ .box bl T cs'::R):=by
 obtain ⟨h1,h2,⟨p1,p2,p3,p4⟩,_⟩:=h;refine ⟨K9.2 ⟨hs,h1⟩,fun j hj=>(C9.1 hj).elim (fun e=>e ▸ hse) (h2 j),⟨fun q=>?_,fun q=>?_,fun q=>?_,fun q=>?_⟩,ρ,?_,?_⟩
 iterate 4 (· rcases C9.1 q with e|q;(subst e;simp at hmL;subst hmL;exact G3 _ hm);first|exact G3 _ (p1 q)|exact G3 _ (p2 q)|exact G3 _ (p3 q)|exact G3 _ (p4 q))
 ·simp [mkE,I0,hsm]
 have e1:mkH (s::L) ρ=mkH L ρ:=by simp [mkH,I0,hsm]
 rw [e1,hc];have:(zt5 L ρ).set (m - 5) (.v (.map (some (ρ m))))=zt5 (s::L) ρ:=by
  simp only [C9,Y5,S0,Z6] at hmL;rcases hmL with ⟨rfl,rfl⟩|⟨rfl,rfl⟩|⟨rfl,rfl⟩|⟨rfl,rfl⟩ <;> simp [zt5,cel]
 rw [this]
theorem J5.last (h:J5 bl T c0 R L (mkE L ρ) (mkH L ρ++ .box bl T (c0++zt5 L ρ)::R)) (ha:∀i,i∈eff5→i∈L):
 (mkH L ρ++ .box bl T (c0++zt5 L ρ)::R).Perm (.box bl T (c0++ [.v (.map (some (ρ 5))),.v (.map (some (ρ 6))),.v (.map (some (ρ 7))),.v (.map (some (ρ 8))),.v (.map none)]):: .map (ρ 5) []:: .map (ρ 6) []:: .map (ρ 7) []:: .map (ρ 8) []:: .map (ρ 9) []::R):=by
 have hp:(L.filter isM).Perm [5,6,7,8,9]:=by
  rw [Y6 (h.1.filter _) (by decide)];intro a;rw [L1];constructor
  ·rintro ⟨q1,q2⟩;have:=h.2.1 a q1;have q3:a < 10:=A7 q2;simp [eff5] at this ⊢;omega
  intro q;have:a∈eff5:=by simp [eff5] at q ⊢;omega
  refine ⟨ha a this,?_⟩;simp at q;rcases q with rfl|rfl|rfl|rfl|rfl <;> rfl
 have hcs:zt5 L ρ= [.v (.map (some (ρ 5))),.v (.map (some (ρ 6))),.v (.map (some (ρ 7))),.v (.map (some (ρ 8))),.v (.map none)]:=by
  simp [zt5,cel,ha 12 (by simp [eff5]),ha 15 (by simp [eff5]),ha 18 (by simp [eff5]),ha 21 (by simp [eff5])]
 rw [hcs];have:=hp.map (fun i=>Res.map (ρ i) []);exact (this.append_right _).trans (U2 (l₁:= [Res.map (ρ 5) [],Res.map (ρ 6) [],Res.map (ρ 7) [],Res.map (ρ 8) [],Res.map (ρ 9) []]))
end
end Go.Ab
set_option maxRecDepth 10000
namespace Go.Proofs
open Go Go.Ab
attribute [local irreducible] QR QV OE zc9 aw zds zb0 zbp za8 thn zgc zem jch zfo
open Go.H
theorem yha (h:Hist) (la:h.evs.length≤1000000) (y:AV) (bl b1:Nat) (w:Nat→Ev→Bool) (I F:Nat→List Res) (hy:∀k (hk:k < h.evs.length) r1 r2 r3 r4 r5,y4 Tryz.prog y [iv k,.agg (evR h.evs[k])] (zdi bl h (h.evs.take k) r1 r2 r3 r4 r5 (.box b1 198 [pZ bl]::I k)) (fun r h'=>r=bv (!w k h.evs[k])∧h'=zdi bl h (h.evs.take k) r1 r2 r3 r4 r5 (.box b1 198 [pZ bl]::bif w k h.evs[k] then F k else I (k+1)))):y9 Tryz.prog 287 [y,pZ b1] (.box bl 203 (zcf h):: .box b1 198 [pZ bl]::I 0) (fun r h'=>h'=match zdl w 0 h.evs with|some k=>F k|none=>I h.evs.length):=by
 refine z6 Tryz.func287 rfl rfl rfl ?_;refine x7 ?_;refine yjh 22 eff5 [] (fun he=>HasB he b1 198 [pZ bl]) rfl ?_;refine jq rfl (fun he hC=>by haveI:=hC;exact qrA) ?_;refine jq rfl (fun he hC=>by haveI:=hC;exact qrA) ?_;refine jq rfl (fun he hC=>by haveI:=hC;exact qrA) ?_;refine jq rfl (fun he hC=>by haveI:=hC;exact qrA) ?_;refine jq rfl (fun he hC=>by haveI:=hC;exact qrA) ?_;refine je rfl ?_;refine je rfl ?_;refine je rfl ?_;refine je rfl ?_;refine je rfl ?_;refine jq rfl (fun he hC=>by haveI:=hC;exact qrA) ?_;refine jq rfl (fun he hC=>by haveI:=hC;exact qrA) ?_;refine je rfl ?_;refine jq rfl (fun he hC=>by haveI:=hC;exact qrA) ?_;refine jq rfl (fun he hC=>by haveI:=hC;exact qrA) ?_;refine je rfl ?_;refine jq rfl (fun he hC=>by haveI:=hC;exact qrA) ?_;refine jq rfl (fun he hC=>by haveI:=hC;exact qrA) ?_;refine je rfl ?_;refine jq rfl (fun he hC=>by haveI:=hC;exact qrA) ?_;refine jq rfl (fun he hC=>by haveI:=hC;exact qrA) ?_;refine je rfl ?_;refine yig ?_;refine ⟨J5 bl 203 (y8 h) (.box b1 198 [pZ bl]::I 0),.start,fun L ee he hJ=>?_,fun L ee he hJ i o hie hiL ho hpre u=>?_,fun L ee he hJ hall=>?_⟩
 ·obtain ⟨_,_,_,ρ,_,rfl⟩:=hJ;exact ⟨.inl (by simp)⟩
 ·simp only [eff5,C9,S0,Z6] at hie;rcases hie with rfl|rfl|rfl|rfl|rfl|rfl|rfl|rfl|rfl
  ·obtain rfl:=B6 ho;exact zbm (enc:=zcm) rfl fun r=>⟨_,_,rfl,hJ.make hiL rfl (by decide) r⟩
  ·obtain rfl:=B6 ho;exact zbm (enc:=zcm) rfl fun r=>⟨_,_,rfl,hJ.make hiL rfl (by decide) r⟩
  ·obtain rfl:=B6 ho;exact zbm (enc:=zcm) rfl fun r=>⟨_,_,rfl,hJ.make hiL rfl (by decide) r⟩
  ·obtain rfl:=B6 ho;exact zbm (enc:=zcm) rfl fun r=>⟨_,_,rfl,hJ.make hiL rfl (by decide) r⟩
  ·obtain rfl:=B6 ho;exact zbm (enc:=zcm) rfl fun r=>⟨_,_,rfl,hJ.make hiL rfl (by decide) r⟩
  ·obtain rfl:=B6 ho;have hJ2:=hJ;obtain ⟨_,_,_,ρ,rfl,rfl⟩:=hJ2;have hm:5∈L:=hpre 5 (mem?_iff.1 rfl) (by decide)
   haveI:=yus (bl:=bl) (T:=203) (c0:=y8 h) (R:=(.box b1 198 [pZ bl]::I 0)) (L:=L) (ρ:=ρ)
   haveI:=fun x=>yuh (bl:=bl) (T:=203) (c0:=y8 h) (R:=(.box b1 198 [pZ bl]::I 0)) (L:=L) (ρ:=ρ) x
   exact za6 (b:=bl) (off:=8) (n:=1) rfl (yh4 rfl rfl (zjb rfl hm)) rfl rfl (A7 rfl) ⟨.any,_,rfl,hJ.put hiL (by decide) rfl (by decide) hm rfl⟩
  ·obtain rfl:=B6 ho;have hJ2:=hJ;obtain ⟨_,_,_,ρ,rfl,rfl⟩:=hJ2;have hm:6∈L:=hpre 6 (mem?_iff.1 rfl) (by decide)
   haveI:=yus (bl:=bl) (T:=203) (c0:=y8 h) (R:=(.box b1 198 [pZ bl]::I 0)) (L:=L) (ρ:=ρ)
   haveI:=fun x=>yuh (bl:=bl) (T:=203) (c0:=y8 h) (R:=(.box b1 198 [pZ bl]::I 0)) (L:=L) (ρ:=ρ) x
   exact za6 (b:=bl) (off:=9) (n:=1) rfl (yh4 rfl rfl (zjb rfl hm)) rfl rfl (A7 rfl) ⟨.any,_,rfl,hJ.put hiL (by decide) rfl (by decide) hm rfl⟩
  ·obtain rfl:=B6 ho;have hJ2:=hJ;obtain ⟨_,_,_,ρ,rfl,rfl⟩:=hJ2;have hm:7∈L:=hpre 7 (mem?_iff.1 rfl) (by decide)
   haveI:=yus (bl:=bl) (T:=203) (c0:=y8 h) (R:=(.box b1 198 [pZ bl]::I 0)) (L:=L) (ρ:=ρ)
   haveI:=fun x=>yuh (bl:=bl) (T:=203) (c0:=y8 h) (R:=(.box b1 198 [pZ bl]::I 0)) (L:=L) (ρ:=ρ) x
   exact za6 (b:=bl) (off:=10) (n:=1) rfl (yh4 rfl rfl (zjb rfl hm)) rfl rfl (A7 rfl) ⟨.any,_,rfl,hJ.put hiL (by decide) rfl (by decide) hm rfl⟩
  obtain rfl:=B6 ho;have hJ2:=hJ;obtain ⟨_,_,_,ρ,rfl,rfl⟩:=hJ2;have hm:8∈L:=hpre 8 (mem?_iff.1 rfl) (by decide)
  haveI:=yus (bl:=bl) (T:=203) (c0:=y8 h) (R:=(.box b1 198 [pZ bl]::I 0)) (L:=L) (ρ:=ρ)
  haveI:=fun x=>yuh (bl:=bl) (T:=203) (c0:=y8 h) (R:=(.box b1 198 [pZ bl]::I 0)) (L:=L) (ρ:=ρ) x
  exact za6 (b:=bl) (off:=11) (n:=1) rfl (yh4 rfl rfl (zjb rfl hm)) rfl rfl (A7 rfl) ⟨.any,_,rfl,hJ.put hiL (by decide) rfl (by decide) hm rfl⟩
 have hJ2:=hJ;obtain ⟨_,_,_,ρ,rfl,rfl⟩:=hJ2;have hal:∀i,i∈eff5→i∈L:=fun i hi=>hall i hi (by simp [eff5] at hi;omega);refine ln ?_;refine zrf (s':=⟨[(0,y),(1,pZ b1),(10,pZ bl),(15,mpv (ρ 9))],.box bl 203 (y8 h++ [mpv (ρ 5),mpv (ρ 6),mpv (ρ 7),mpv (ρ 8),nmp]):: .map (ρ 5) []:: .map (ρ 6) []:: .map (ρ 7) []:: .map (ρ 8) []:: .map (ρ 9) []::(.box b1 198 [pZ bl]::I 0),[]⟩) (w8 (zau (hJ.last hal)) (w6 (.cons _ _ _ (yrz rfl (zl8 (by decide)) rfl) (.cons _ _ _ (yrz rfl (zl8 (by decide)) rfl) (.cons _ _ _ rfl (.cons _ _ _ (yvs rfl (zjb (m:=9) rfl (hal 9 (by decide)))) .nil)))))) ?_;generalize ρ 5=r1;generalize ρ 6=r2;generalize ρ 7=r3;generalize ρ 8=r4;generalize ρ 9=r5;refine rn ?_;refine zbv h.evs.length (fun k=>zdl w 0 h.evs=zdl w k (h.evs.drop k)) (fun k=>⟨[(32,iv k),(0,y),(1,pZ b1),(30,zll h.evs),(31,iv (h.evs.map evR).length)],(zdi bl h (h.evs.take k) r1 r2 r3 r4 r5 (.box b1 198 [pZ bl]::I k)),[]⟩) (by simp) es ?_;intro k lk zk;have hwl:=fun e:Ev=>zho (h.evs.take k) e.t e.o;have hle:(h.evs.take k).length≤h.evs.length:=by simp;omega
 refine rn ?_;refine z7 rfl (fun hc33=>?_) (fun hc33=>?_)
 ·have hk:=zaw hc33;have rk:=zam (f:=evR) hk;refine rn ?_;refine z8 rfl (y6 rfl fun b4=>?_);refine rn ?_;refine z8 rfl (q7 rfl rfl (y4.fr1 (hy k hk r1 r2 r3 r4 r5)) rfl ?_);rintro _ _ ⟨_,rfl,rfl,rfl⟩;refine rn ?_;refine z7 rfl (fun hc41=>?_) (fun hc41=>?_)
  ·have hw:w k h.evs[k]=true:=by simpa using hc41
   rw [hw];refine rn ?_;exact zdn .nil (.drop [_,_,_,_,_,_,_,_] _ _) (by rw [zhv hk zk hw])
  have hw:w k h.evs[k]=false:=by simpa using hc41
  rw [hw];refine rn ?_;refine z7 rfl (fun hc44=>?_) (fun hc44=>?_)
  ·refine j5 6 rfl ?_;refine rn ?_;refine z8 rfl (zby (g:=bv) (enc:=zcm) (k:=h.evs[k].t) (v:=true) rfl rfl rfl ?_);refine rn ?_;have et:=A5 hk;exact ⟨hk,zd6 hk zk hw,by rw [et];simp only [zdi,zh8,zhx,zhp,zex,zhs,kTO,kOV];first|(rw [A6 (by simp_all),A0 (by simp_all),A0 (by simp_all),A0 (by simp_all),A0 (by simp_all)];exact eA)|(rw [A0 (by simp_all),A6 (by simp_all),A0 (by simp_all),A0 (by simp_all),A0 (by simp_all)];exact eA)|(rw [A0 (by simp_all),A0 (by simp_all),A6 (by simp_all),A6 (by simp_all),A6 (by simp_all)];exact eA)|(rw [A0 (by simp_all),A0 (by simp_all),A0 (by simp_all),A0 (by simp_all),A0 (by simp_all)];exact eA)⟩
  refine rn ?_;refine z7 rfl (fun hc52=>?_) (fun hc52=>?_)
  ·refine rn ?_;refine z7 rfl (fun hc52=>?_) (fun hc52=>?_)
   ·refine j5 6 rfl ?_;refine rn ?_;refine z8 rfl (zby (g:=bv) (enc:=zcm) (k:=h.evs[k].t) (v:=true) rfl rfl rfl ?_);refine rn ?_;have et:=A5 hk;exact ⟨hk,zd6 hk zk hw,by rw [et];simp only [zdi,zh8,zhx,zhp,zex,zhs,kTO,kOV];first|(rw [A6 (by simp_all),A0 (by simp_all),A0 (by simp_all),A0 (by simp_all),A0 (by simp_all)];exact eA)|(rw [A0 (by simp_all),A6 (by simp_all),A0 (by simp_all),A0 (by simp_all),A0 (by simp_all)];exact eA)|(rw [A0 (by simp_all),A0 (by simp_all),A6 (by simp_all),A6 (by simp_all),A6 (by simp_all)];exact eA)|(rw [A0 (by simp_all),A0 (by simp_all),A0 (by simp_all),A0 (by simp_all),A0 (by simp_all)];exact eA)⟩
   first|cases hc52|exact absurd hc52 (by decide)|(exfalso;simp_all;done)
  refine rn ?_;refine z7 rfl (fun hc52=>?_) (fun hc52=>?_)
  ·refine j5 6 rfl ?_;refine rn ?_;refine z8 rfl (zby (g:=bv) (enc:=zcm) (k:=h.evs[k].t) (v:=true) rfl rfl rfl ?_);refine rn ?_;have et:=A5 hk;exact ⟨hk,zd6 hk zk hw,by rw [et];simp only [zdi,zh8,zhx,zhp,zex,zhs,kTO,kOV];first|(rw [A6 (by simp_all),A0 (by simp_all),A0 (by simp_all),A0 (by simp_all),A0 (by simp_all)];exact eA)|(rw [A0 (by simp_all),A6 (by simp_all),A0 (by simp_all),A0 (by simp_all),A0 (by simp_all)];exact eA)|(rw [A0 (by simp_all),A0 (by simp_all),A6 (by simp_all),A6 (by simp_all),A6 (by simp_all)];exact eA)|(rw [A0 (by simp_all),A0 (by simp_all),A0 (by simp_all),A0 (by simp_all),A0 (by simp_all)];exact eA)⟩
  refine rn ?_;refine z7 rfl (fun hc61=>?_) (fun hc61=>?_)
  ·refine x7 (y5 ?_);refine q1 ?_;refine q1 ?_;refine q1 ?_;refine q1 ?_;refine qq rfl rfl (zal (out:= [iv h.evs[k].t,iv h.evs[k].o]) rfl (by rfl)) ?_;refine z8 rfl (y6 rfl fun b5=>?_);refine rn0 ?_;refine x7 ?_;refine zml 9 [7] [8] (fun he=>he= .box b5 297 [iv h.evs[k].t,iv h.evs[k].o]:: .box b4 66 (evR h.evs[k]):: .box bl 203 (yh2 h r1 r2 r3 r4 r5):: .map r1 (zan zcm (zce bv (yfq (h.evs.take k)))):: .map r2 (zan zcm (zce bv (yfn (h.evs.take k)))):: .map r3 (zan zen (zce iv (zyv (h.evs.take k)))):: .map r4 (zan zen (zce zyz (zrs (h.evs.take k)))):: .map r5 (zan zgb (zce bv (yfm (h.evs.take k)))):: .box b1 198 [pZ bl]::I (k+1)∨∃j st,he= .box b5 297 [iv h.evs[k].t,iv h.evs[k].o]:: .box b4 66 (evR h.evs[k]):: .box bl 203 (yh2 h r1 r2 r3 r4 r5):: .map r1 (zan zcm (zce bv (yfq (h.evs.take k)))):: .map r2 (zan zcm (zce bv (yfn (h.evs.take k)))):: .mape r3 (zan zen (zlm (h.evs[k].t,h.evs[k].o) (iv 0) (zce iv (zyv (h.evs.take k))))) j st:: .map r4 (zan zen (zce zyz (zrs (h.evs.take k)))):: .map r5 (zan zgb (zce bv (yfm (h.evs.take k)))):: .box b1 198 [pZ bl]::I (k+1)) rfl rfl (.inl rfl) ?_;refine jq rfl (fun he hC=>by rcases hC with rfl|⟨j,st,rfl⟩ <;> exact qrA) ?_;refine jq rfl (fun he hC=>by rcases hC with rfl|⟨j,st,rfl⟩ <;> exact qrA) ?_;refine jq rfl (fun he hC=>by rcases hC with rfl|⟨j,st,rfl⟩ <;> exact qrA) ?_;refine jq rfl (fun he hC=>by rcases hC with rfl|⟨j,st,rfl⟩ <;> exact qrA) ?_;refine jq rfl (fun he hC=>by rcases hC with rfl|⟨j,st,rfl⟩ <;> exact qrA) ?_;refine jq rfl (fun he hC=>by rcases hC with rfl|⟨j,st,rfl⟩ <;> exact (by first|exact zc0 (enc:=zen) (k:=(h.evs[k].t,h.evs[k].o)) (0:Int) rfl rfl|exact ycd (enc:=zen) (k:=(h.evs[k].t,h.evs[k].o)) (0:Int) rfl rfl)) ?_;refine jq rfl (fun he hC=>by rcases hC with rfl|⟨j,st,rfl⟩ <;> exact (by exact zai rfl rfl rfl (by rw [zlv];have:=zho (h.evs.take k) h.evs[k].t h.evs[k].o;omega))) ?_;refine je rfl ?_;refine je rfl ?_;refine yig ?_;refine jce rfl fun u=>?_;refine zkt (enc:=zen) (k:=(h.evs[k].t,h.evs[k].o)) rfl rfl rfl fun j st hj=>⟨_,_,rfl,.inr ⟨_,_,rfl⟩,?_⟩;refine jcn ?_;refine lq rfl rfl (by exact qrA) ?_;refine ln ?_;refine z8 rfl (znd (g:=iv) (enc:=zen) (k:=(h.evs[k].t,h.evs[k].o)) (v:=((zch (h.evs[k].t,h.evs[k].o) (zyv (h.evs.take k))).getD 0+1)) rfl rfl rfl (hj _) ?_);refine rn0 ?_;refine zml 19 [16,17,18] [] (fun he=>∃x:Res,he= .box b5 297 [iv h.evs[k].t,iv h.evs[k].o]:: .box b4 66 (evR h.evs[k]):: .box bl 203 (yh2 h r1 r2 r3 r4 r5):: .map r1 (zan zcm (zce bv (yfq (h.evs.take k)))):: .map r2 (zan zcm (zce bv (yfn (h.evs.take k)))):: .map r3 (zan zen (zce iv (zf2 (h.evs[k].t,h.evs[k].o) ((zch (h.evs[k].t,h.evs[k].o) (zyv (h.evs.take k))).getD 0+1) (zyv (h.evs.take k)))))::x:: .map r5 (zan zgb (zce bv (yfm (h.evs.take k)))):: .box b1 198 [pZ bl]::I (k+1)) rfl rfl ⟨_,rfl⟩ ?_;refine jq rfl (fun he hC=>by obtain ⟨x,rfl⟩:=hC <;> exact qrA) ?_;refine jq rfl (fun he hC=>by obtain ⟨x,rfl⟩:=hC <;> exact qrA) ?_;refine jq rfl (fun he hC=>by obtain ⟨x,rfl⟩:=hC <;> exact qrA) ?_;refine jq rfl (fun he hC=>by obtain ⟨x,rfl⟩:=hC <;> exact qrA) ?_;refine jq rfl (fun he hC=>by obtain ⟨x,rfl⟩:=hC <;> exact qrA) ?_;refine jq rfl (fun he hC=>by obtain ⟨x,rfl⟩:=hC <;> exact qrA) ?_;refine jq rfl (fun he hC=>by obtain ⟨x,rfl⟩:=hC <;> exact qrA) ?_;refine jq rfl (fun he hC=>by obtain ⟨x,rfl⟩:=hC <;> exact qrA) ?_;refine jq rfl (fun he hC=>by obtain ⟨x,rfl⟩:=hC <;> exact qrA) ?_;refine jq rfl (fun he hC=>by obtain ⟨x,rfl⟩:=hC <;> exact qrA) ?_;refine jq rfl (fun he hC=>by obtain ⟨x,rfl⟩:=hC <;> exact qrA) ?_;refine jq rfl (fun he hC=>by obtain ⟨x,rfl⟩:=hC <;> exact qrA) ?_;refine jq rfl (fun he hC=>by obtain ⟨x,rfl⟩:=hC <;> exact qrA) ?_;refine jq (av:= .agg [iv h.evs[k].o,iv h.evs[k].v.t,iv h.evs[k].v.k]) rfl (fun he hC=>by obtain ⟨x,rfl⟩:=hC <;> exact (by exact zal (out:= [iv (h.evs[k]'hk).o,iv (h.evs[k]'hk).v.t,iv (h.evs[k]'hk).v.k]) rfl (by rfl))) ?_;refine jq rfl (fun he hC=>by obtain ⟨x,rfl⟩:=hC <;> exact qrA) ?_;refine jq rfl (fun he hC=>by obtain ⟨x,rfl⟩:=hC <;> exact qrA) ?_;refine je rfl ?_;refine je rfl ?_;refine je rfl ?_;refine yig ?_;refine jce rfl fun u=>?_;refine zkt (enc:=zen) (k:=(h.evs[k].t,h.evs[k].o)) rfl rfl rfl fun j st hj=>⟨_,_,rfl,⟨_,rfl⟩,?_⟩;refine jce rfl fun u=>?_;refine yxj qrA ⟨_,_,rfl,⟨_,rfl⟩,?_⟩;refine jce rfl fun u=>?_;refine znd (g:=zyz) (enc:=zen) (k:=(h.evs[k].t,h.evs[k].o)) (v:=h.evs[k].v) rfl rfl rfl (hj _) ⟨.any,_,rfl,⟨_,rfl⟩,?_⟩;refine jcn ?_;refine ln ?_;refine z8 rfl (zkt (enc:=zgb) (k:=(h.evs[k].o,h.evs[k].v.t,h.evs[k].v.k)) rfl rfl rfl fun j2 st2 hj2=>?_);refine rn ?_;refine z8 rfl (znd (g:=bv) (enc:=zgb) (k:=(h.evs[k].o,h.evs[k].v.t,h.evs[k].v.k)) (v:=true) rfl rfl rfl (hj2 _) ?_);refine rn ?_;have et:=A5 hk;exact ⟨hk,zd6 hk zk hw,by rw [et];simp only [zdi,zh8,zhx,zhp,zex,zhs,kTO,kOV];first|(rw [A6 (by simp_all),A0 (by simp_all),A0 (by simp_all),A0 (by simp_all),A0 (by simp_all)];exact eA)|(rw [A0 (by simp_all),A6 (by simp_all),A0 (by simp_all),A0 (by simp_all),A0 (by simp_all)];exact eA)|(rw [A0 (by simp_all),A0 (by simp_all),A6 (by simp_all),A6 (by simp_all),A6 (by simp_all)];exact eA)|(rw [A0 (by simp_all),A0 (by simp_all),A0 (by simp_all),A0 (by simp_all),A0 (by simp_all)];exact eA)⟩
  refine rn ?_;have et:=A5 hk;exact ⟨hk,zd6 hk zk hw,by rw [et];simp only [zdi,zh8,zhx,zhp,zex,zhs,kTO,kOV];first|(rw [A6 (by simp_all),A0 (by simp_all),A0 (by simp_all),A0 (by simp_all),A0 (by simp_all)];exact eA)|(rw [A0 (by simp_all),A6 (by simp_all),A0 (by simp_all),A0 (by simp_all),A0 (by simp_all)];exact eA)|(rw [A0 (by simp_all),A0 (by simp_all),A6 (by simp_all),A6 (by simp_all),A6 (by simp_all)];exact eA)|(rw [A0 (by simp_all),A0 (by simp_all),A0 (by simp_all),A0 (by simp_all),A0 (by simp_all)];exact eA)⟩
 have qk:=zaz hc33 lk;refine rn ?_;exact zfi .nil (.drop [_,_,_,_,_,_,_] _ _) (by rw [zjv qk zk,qk])
theorem ym8 (bl:Nat) (W:List Res):y9 Tryz.prog 283 [pZ bl] W (fun r h'=>∃b1,h'= .box b1 198 [pZ bl]::W∧r= .fn (.func 287) [] [pZ b1]):=by
 refine z6 Tryz.func283 rfl rfl rfl ?_;refine rn ?_;refine z8 rfl (w7 rfl rfl rfl fun b1=>?_);refine rn ?_;exact u6 rfl (.refl _ _) ⟨_,rfl,rfl⟩
theorem rAt (h:Hist) (la:h.evs.length≤1000000) (bl:Nat) (fv:AV) (hone:fv.cellsOf=some [fv]) (W:List Res) (w:Nat→Ev→Bool) (hp:∀k (hk:k < h.evs.length) r1 r2 r3 r4 r5,y4 Tryz.prog fv [.agg (evR h.evs[k])] (zdi bl h (h.evs.take k) r1 r2 r3 r4 r5 W) (fun r h'=>h'=zdi bl h (h.evs.take k) r1 r2 r3 r4 r5 W∧r=bv (w k h.evs[k]))):y9 Tryz.prog 258 [pZ bl,fv] (.box bl 203 (zcf h)::W) (fun r h'=>h'=W∧r=zbo (zdl w 0 h.evs)):=by
 refine z6 Tryz.func258 rfl rfl rfl ?_;refine rn ?_;refine z8 rfl (w7 rfl hone rfl fun b3=>?_);refine z8 rfl (y6 rfl fun b4=>?_);refine z8 rfl (y6 rfl fun b5=>?_);refine rn ?_;refine z8 rfl (q7 rfl rfl (y4.of_fun (ym8 bl _)) rfl ?_);rintro _ _ ⟨b1,rfl,rfl⟩;refine rn ?_;refine zoi (fun pend h''=>(pend=none∧zdl w 0 h.evs=none∧h''= .box b5 4 [bv false]:: .box b4 3 [iv 0]:: .box b3 210 [fv]::W)∨(pend=some .ret∧∃k:Nat,zdl w 0 h.evs=some k∧h''= .box b5 4 [bv true]:: .box b4 3 [iv (k:Nat)]:: .box b3 210 [fv]::W)) rfl (fun fn l q lp hlp=>?_) (fun q h'' hK=>?_) (fun q h'' c hK=>?_)
 ·suffices hy:∀k (hk:k < h.evs.length) r1 r2 r3 r4 r5,y4 Tryz.prog (yv l) [iv k,.agg (evR h.evs[k])] (zdi bl h (h.evs.take k) r1 r2 r3 r4 r5 (.box b1 198 [pZ bl]::(fun _=>lp .ready none:: .defs q:: .box b5 4 [bv false]:: .box b4 3 [iv 0]:: .box b3 210 [fv]::W) k)) (fun r h'=>r=bv (!w k h.evs[k])∧h'=zdi bl h (h.evs.take k) r1 r2 r3 r4 r5 (.box b1 198 [pZ bl]::bif w k h.evs[k] then (fun k=>lp .done (some .ret):: .defs q:: .box b5 4 [bv true]:: .box b4 3 [iv (k:Nat)]:: .box b3 210 [fv]::W) k else (fun _=>lp .ready none:: .defs q:: .box b5 4 [bv false]:: .box b4 3 [iv 0]:: .box b3 210 [fv]::W) (k+1))) by
   refine y9.mono (y9.perm ((pt6 _ _ _ _ _ _ _ _).trans (.cons _ (pt2 _ _ _ _))) (yha h la (yv l) bl b1 w (fun _=>lp .ready none:: .defs q:: .box b5 4 [bv false]:: .box b4 3 [iv 0]:: .box b3 210 [fv]::W) (fun k=>lp .done (some .ret):: .defs q:: .box b5 4 [bv true]:: .box b4 3 [iv (k:Nat)]:: .box b3 210 [fv]::W) hy)) ?_;rintro _ _ rfl;cases hr:zdl w 0 h.evs with
   |none=>exact ⟨none,.ready,_,.refl _,by simp,.inl ⟨rfl,rfl,rfl⟩⟩
   |some k=>exact ⟨_,_,_,.refl _,by simp,.inr ⟨rfl,k,rfl,rfl⟩⟩
  intro k hk r1 r2 r3 r4 r5;refine y4.perm (pt7 _ _ _ _ _ _ _ _ _) (y4.permR ?_);refine zez hlp rfl rfl ?_;refine rn ?_;refine z8 rfl (y6 rfl fun b7=>?_);refine rn ?_;refine ⟨[(6,iv k),(7,pZ b7),(3,pZ b3),(4,pZ b4),(5,pZ b5)],.box b7 66 (evR h.evs[k])::zdi bl h (h.evs.take k) r1 r2 r3 r4 r5 (.box b1 198 [pZ bl]:: .defs q:: .box b5 4 [bv false]:: .box b4 3 [iv 0]:: .box b3 210 [fv]::W),w8 (zau (pt1 _ _ _)) es,?_⟩;refine rn ?_;refine qv rfl rfl (y3 rfl rfl (y4.qt (h2:= [_,_,_,_,_,_,_]) (hp k hk r1 r2 r3 r4 r5) (List.Perm.trans (.cons _ (.cons _ ((pt6 _ _ _ _ _ _ _ _).trans (.cons _ ((pt6 _ _ _ _ _ _ _ _).trans (.cons _ ((pt6 _ _ _ _ _ _ _ _).trans (.cons _ ((pt6 _ _ _ _ _ _ _ _).trans (.cons _ (pt6 _ _ _ _ _ _ _ _))))))))))) (zd8 [_,_,_,_,_,_,_] _)))) ?_;refine rn ?_;refine z7 rfl (fun hc14=>?_) (fun hc14=>?_)
  ·have hw:w k h.evs[k]=true:=by simpa using hc14
   refine zgv (s':=⟨[(6,iv k),(4,pZ b4),(5,pZ b5)],lp .busy none::zdi bl h (h.evs.take k) r1 r2 r3 r4 r5 (.box b1 198 [pZ bl]:: .defs q:: .box b5 4 [bv false]:: .box b4 3 [iv 0]:: .box b3 210 [fv]::W),[]⟩) (eD 1) ?_;refine rn ?_;exact zpz (.refl _) ⟨_,((pt1 _ _ _).trans (.cons _ ((pt1 _ _ _).trans (.cons _ ((pt1 _ _ _).trans (.cons _ ((pt1 _ _ _).trans (.cons _ ((pt1 _ _ _).trans (.cons _ ((pt1 _ _ _).trans (.cons _ (pt1 _ _ _))))))))))))),by rw [hw];rfl,by rw [hw];rfl⟩
  have hw:w k h.evs[k]=false:=by simpa using hc14
  refine zgv (s':=⟨[(6,iv k),(4,pZ b4),(5,pZ b5)],lp .busy none::zdi bl h (h.evs.take k) r1 r2 r3 r4 r5 (.box b1 198 [pZ bl]:: .defs q:: .box b5 4 [bv false]:: .box b4 3 [iv 0]:: .box b3 210 [fv]::W),[]⟩) (eD 1) ?_;refine rn ?_;exact zi6 (.refl _) ⟨_,((pt1 _ _ _).trans (.cons _ ((pt1 _ _ _).trans (.cons _ ((pt1 _ _ _).trans (.cons _ ((pt1 _ _ _).trans (.cons _ ((pt1 _ _ _).trans (.cons _ ((pt1 _ _ _).trans (.cons _ (pt1 _ _ _))))))))))))),by rw [hw];rfl,by rw [hw];rfl⟩
 ·obtain ⟨_,hr,rfl⟩|⟨hc,_⟩:=hK
  rotate_left
  ·cases hc
  refine rn ?_;exact zio (.refl _) (.cons _ _ _ _ (.one _ _ _ _ _ _ _ rfl inferInstance inferInstance rfl) (.cons _ _ _ _ (.one _ _ _ _ _ _ _ rfl inferInstance inferInstance rfl) .nil)) (.drop [_,_,_] _ _) ⟨rfl,by rw [hr];rfl⟩
 obtain ⟨hc,_⟩|⟨hc,k,hr,rfl⟩:=hK
 ·cases hc
 obtain rfl:c= .ret:=by simpa using hc
 refine rn ?_;exact zio (.refl _) (.cons _ _ _ _ (.one _ _ _ _ _ _ _ rfl inferInstance inferInstance rfl) (.cons _ _ _ _ (.one _ _ _ _ _ _ _ rfl inferInstance inferInstance rfl) .nil)) (.drop [_,_,_] _ _) ⟨rfl,by rw [hr];rfl⟩
theorem zd7 (o:Option Nat):∃i b,zbo o= .tup [iv i,bv b]:=by
 cases o with
 |none=>exact ⟨_,_,rfl⟩
 |some i=>exact ⟨_,_,rfl⟩
theorem yrf (h:Hist) (la:Lim 3000 h) (bl:Nat) (G:List Res):y9 Tryz.prog 245 [pZ bl] (.box bl 203 (zcf h)::G) (fun r h'=>h'=G∧r=zbo (zc1 h 1)):=by
 refine z6 Tryz.func245 rfl rfl rfl ?_;refine rn ?_;refine z8 rfl (w7 rfl rfl rfl fun b1=>?_);refine rn ?_;refine z8 rfl (q7 rfl rfl (y4.perm (pt1 _ _ _) (y4.of_fun (rAt h (B8 la.evs (by decide)) bl (.fn (.func 259) [] [pZ b1]) rfl (.box b1 198 [pZ bl]::G) (fun k e=>zbi 1 e (h.evs.take k)) (fun k hk r1 r2 r3 r4 r5=>y4.qt (h2:=G) (y4.of_acall (fs:= []) (cs:= [pZ b1]) (yna _ bl b1 h _ r1 r2 r3 r4 r5)) (.refl _))))) rfl ?_);rintro _ _ ⟨rfl,rfl⟩;obtain ⟨pi,pb,hpv⟩:∃i b,zbo (zdl (fun k e=>zbi 1 e (h.evs.take k)) 0 h.evs)= .tup [iv i,bv b]:=zd7 _;rw [hpv];refine rn ?_;refine rq 1 ?_;exact ⟨rfl,hpv.symm⟩
theorem yxi (h:Hist) (la:Lim 3000 h) (bl:Nat) (G:List Res):y9 Tryz.prog 249 [pZ bl] (.box bl 203 (zcf h)::G) (fun r h'=>h'=G∧r=zbo (zc1 h 2)):=by
 refine z6 Tryz.func249 rfl rfl rfl ?_;refine rn ?_;refine z8 rfl (w7 rfl rfl rfl fun b1=>?_);refine rn ?_;refine z8 rfl (q7 rfl rfl (y4.perm (pt1 _ _ _) (y4.of_fun (rAt h (B8 la.evs (by decide)) bl (.fn (.func 260) [] [pZ b1]) rfl (.box b1 198 [pZ bl]::G) (fun k e=>zbi 2 e (h.evs.take k)) (fun k hk r1 r2 r3 r4 r5=>y4.qt (h2:=G) (y4.of_acall (fs:= []) (cs:= [pZ b1]) (yvh _ bl b1 h _ r1 r2 r3 r4 r5)) (.refl _))))) rfl ?_);rintro _ _ ⟨rfl,rfl⟩;obtain ⟨pi,pb,hpv⟩:∃i b,zbo (zdl (fun k e=>zbi 2 e (h.evs.take k)) 0 h.evs)= .tup [iv i,bv b]:=zd7 _;rw [hpv];refine rn ?_;refine rq 1 ?_;exact ⟨rfl,hpv.symm⟩
theorem yre (h:Hist) (la:Lim 3000 h) (bl:Nat) (G:List Res):y9 Tryz.prog 250 [pZ bl] (.box bl 203 (zcf h)::G) (fun r h'=>h'=G∧r=zbo (zc1 h 3)):=by
 refine z6 Tryz.func250 rfl rfl rfl ?_;refine rn ?_;refine z8 rfl (w7 rfl rfl rfl fun b1=>?_);refine rn ?_;refine z8 rfl (q7 rfl rfl (y4.perm (pt1 _ _ _) (y4.of_fun (rAt h (B8 la.evs (by decide)) bl (.fn (.func 261) [] [pZ b1]) rfl (.box b1 198 [pZ bl]::G) (fun k e=>zbi 3 e (h.evs.take k)) (fun k hk r1 r2 r3 r4 r5=>y4.qt (h2:=G) (y4.of_acall (fs:= []) (cs:= [pZ b1]) (ym9 _ bl b1 h _ r1 r2 r3 r4 r5 (by have:=la.evs;simp;omega))) (.refl _))))) rfl ?_);rintro _ _ ⟨rfl,rfl⟩;obtain ⟨pi,pb,hpv⟩:∃i b,zbo (zdl (fun k e=>zbi 3 e (h.evs.take k)) 0 h.evs)= .tup [iv i,bv b]:=zd7 _;rw [hpv];refine rn ?_;refine rq 1 ?_;exact ⟨rfl,hpv.symm⟩
theorem yg5 (h:Hist) (la:Lim 3000 h) (bl:Nat) (G:List Res):y9 Tryz.prog 251 [pZ bl] (.box bl 203 (zcf h)::G) (fun r h'=>h'=G∧r=zbo (zc1 h 4)):=by
 refine z6 Tryz.func251 rfl rfl rfl ?_;refine rn ?_;refine z8 rfl (w7 rfl rfl rfl fun b1=>?_);refine rn ?_;refine z8 rfl (q7 rfl rfl (y4.perm (pt1 _ _ _) (y4.of_fun (rAt h (B8 la.evs (by decide)) bl (.fn (.func 262) [] [pZ b1]) rfl (.box b1 198 [pZ bl]::G) (fun k e=>zbi 4 e (h.evs.take k)) (fun k hk r1 r2 r3 r4 r5=>y4.qt (h2:=G) (y4.of_acall (fs:= []) (cs:= [pZ b1]) (yb7 _ bl b1 h _ r1 r2 r3 r4 r5 (B8 (la.scans _ (D0 hk)) (by decide)))) (.refl _))))) rfl ?_);rintro _ _ ⟨rfl,rfl⟩;obtain ⟨pi,pb,hpv⟩:∃i b,zbo (zdl (fun k e=>zbi 4 e (h.evs.take k)) 0 h.evs)= .tup [iv i,bv b]:=zd7 _;rw [hpv];refine rn ?_;refine rq 1 ?_;exact ⟨rfl,hpv.symm⟩
theorem yxe (h:Hist) (la:Lim 3000 h) (bl:Nat) (G:List Res):y9 Tryz.prog 252 [pZ bl] (.box bl 203 (zcf h)::G) (fun r h'=>h'=G∧r=zbo (zc1 h 5)):=by
 refine z6 Tryz.func252 rfl rfl rfl ?_;refine rn ?_;refine z8 rfl (w7 rfl rfl rfl fun b1=>?_);refine rn ?_;refine z8 rfl (q7 rfl rfl (y4.perm (pt1 _ _ _) (y4.of_fun (rAt h (B8 la.evs (by decide)) bl (.fn (.func 265) [] [pZ b1]) rfl (.box b1 198 [pZ bl]::G) (fun k e=>zbi 5 e (h.evs.take k)) (fun k hk r1 r2 r3 r4 r5=>y4.qt (h2:=G) (y4.of_acall (fs:= []) (cs:= [pZ b1]) (yvd _ bl b1 h _ r1 r2 r3 r4 r5 (B8 (la.scans _ (D0 hk)) (by decide)))) (.refl _))))) rfl ?_);rintro _ _ ⟨rfl,rfl⟩;obtain ⟨pi,pb,hpv⟩:∃i b,zbo (zdl (fun k e=>zbi 5 e (h.evs.take k)) 0 h.evs)= .tup [iv i,bv b]:=zd7 _;rw [hpv];refine rn ?_;refine rq 1 ?_;exact ⟨rfl,hpv.symm⟩
theorem yvc (h:Hist) (la:Lim 3000 h) (bl:Nat) (G:List Res):y9 Tryz.prog 253 [pZ bl] (.box bl 203 (zcf h)::G) (fun r h'=>h'=G∧r=zbo (zc1 h 6)):=by
 refine z6 Tryz.func253 rfl rfl rfl ?_;refine rn ?_;refine z8 rfl (q7 rfl rfl (id (y4.of_fun (rAt h (B8 la.evs (by decide)) bl (.fn (.func 267) [] []) rfl (G) (fun k e=>zbi 6 e (h.evs.take k)) (fun k hk r1 r2 r3 r4 r5=>y4.pure (R:=fun r=>r=bv _) (y4.of_acall (fs:= []) (cs:= []) (yq6 _ (B8 (la.scans _ (D0 hk)) (by decide)))))))) rfl ?_);rintro _ _ ⟨rfl,rfl⟩;obtain ⟨pi,pb,hpv⟩:∃i b,zbo (zdl (fun k e=>zbi 6 e (h.evs.take k)) 0 h.evs)= .tup [iv i,bv b]:=zd7 _;rw [hpv];refine rn ?_;refine rq 0 ?_;exact ⟨rfl,hpv.symm⟩
open Go.Shelf
def yl4:Go.Shelf.Ren:=⟨fun|125=>289|128=>299|129=>300|189=>284|215=>306|216=>296|257=>288|294=>290|295=>291|296=>292|297=>293|298=>294|299=>295|300=>297|301=>298|328=>301|329=>302|330=>303|331=>304|332=>305|343=>307|n=>n,fun|0=>0|3=>3|4=>4|5=>5|9=>9|28=>54|46=>49|51=>286|53=>325|131=>67|182=>317|183=>318|218=>326|222=>169|228=>331|229=>332|n=>n,fun n=>n⟩
theorem ygj:Lays.n189 Tryz.prog yl4:={
 mixed:=by kernel_rfl
 f125:=Tryz.func289.trans (A4 some (by kernel_rfl))
 f128:=Tryz.func299.trans (A4 some (by kernel_rfl))
 f129:=Tryz.func300.trans (A4 some (by kernel_rfl))
 f189:=Tryz.func284.trans (A4 some (by kernel_rfl))
 f215:=Tryz.func306.trans (A4 some (by kernel_rfl))
 f216:=Tryz.func296.trans (A4 some (by kernel_rfl))
 f257:=Tryz.func288.trans (A4 some (by kernel_rfl))
 f294:=Tryz.func290.trans (A4 some (by kernel_rfl))
 f295:=Tryz.func291.trans (A4 some (by kernel_rfl))
 f296:=Tryz.func292.trans (A4 some (by kernel_rfl))
 f297:=Tryz.func293.trans (A4 some (by kernel_rfl))
 f298:=Tryz.func294.trans (A4 some (by kernel_rfl))
 f299:=Tryz.func295.trans (A4 some (by kernel_rfl))
 f300:=Tryz.func297.trans (A4 some (by kernel_rfl))
 f301:=Tryz.func298.trans (A4 some (by kernel_rfl))
 f328:=Tryz.func301.trans (A4 some (by kernel_rfl))
 f329:=Tryz.func302.trans (A4 some (by kernel_rfl))
 f330:=Tryz.func303.trans (A4 some (by kernel_rfl))
 f331:=Tryz.func304.trans (A4 some (by kernel_rfl))
 f332:=Tryz.func305.trans (A4 some (by kernel_rfl))
 f343:=Tryz.func307.trans (A4 some (by kernel_rfl))
 t0:=Tryz.underlying0
 a0:=Tryz.isAgg0
 z0:=Tryz.sizeOf0
 v0:=Tryz.zeroValue0
 t3:=Tryz.underlying3
 a3:=Tryz.isAgg3
 z3:=Tryz.sizeOf3
 v3:=Tryz.zeroValue3
 t4:=Tryz.underlying4
 a4:=Tryz.isAgg4
 z4:=Tryz.sizeOf4
 v4:=Tryz.zeroValue4
 t5:=Tryz.underlying5
 a5:=Tryz.isAgg5
 z5:=Tryz.sizeOf5
 v5:=Tryz.zeroValue5
 t9:=Tryz.underlying9
 a9:=Tryz.isAgg9
 z9:=Tryz.sizeOf9
 v9:=Tryz.zeroValue9
 t28:=Tryz.underlying54
 a28:=Tryz.isAgg54
 z28:=Tryz.sizeOf54
 v28:=Tryz.zeroValue54
 t46:=Tryz.underlying49
 a46:=Tryz.isAgg49
 z46:=Tryz.sizeOf49
 v46:=Tryz.zeroValue49
 t51:=Tryz.underlying286
 a51:=Tryz.isAgg286
 z51:=Tryz.sizeOf286
 v51:=Tryz.zeroValue286
 t53:=Tryz.underlying325
 a53:=Tryz.isAgg325
 z53:=Tryz.sizeOf325
 v53:=Tryz.zeroValue325
 t131:=Tryz.underlying67
 a131:=Tryz.isAgg67
 z131:=Tryz.sizeOf67
 v131:=Tryz.zeroValue67
 t182:=Tryz.underlying317
 a182:=Tryz.isAgg317
 z182:=Tryz.sizeOf317
 v182:=Tryz.zeroValue317
 t183:=Tryz.underlying318
 a183:=Tryz.isAgg318
 z183:=Tryz.sizeOf318
 v183:=Tryz.zeroValue318
 t218:=Tryz.underlying326
 a218:=Tryz.isAgg326
 z218:=Tryz.sizeOf326
 v218:=Tryz.zeroValue326
 t222:=Tryz.underlying169
 a222:=Tryz.isAgg169
 z222:=Tryz.sizeOf169
 v222:=Tryz.zeroValue169
 t228:=Tryz.underlying331
 a228:=Tryz.isAgg331
 z228:=Tryz.sizeOf331
 v228:=Tryz.zeroValue331
 t229:=Tryz.underlying332
 a229:=Tryz.isAgg332
 z229:=Tryz.sizeOf332
 v229:=Tryz.zeroValue332}
def yo3:Go.Shelf.Ren:=⟨fun|20=>162|n=>n,fun|0=>0|3=>3|4=>4|22=>54|n=>n,fun n=>n⟩
theorem yi6:Lays2.n20 Tryz.prog yo3:={
 mixed:=by kernel_rfl
 f20:=Tryz.func162.trans (A4 some (by kernel_rfl))
 i3:=by kernel_rfl
 t0:=Tryz.underlying0
 a0:=Tryz.isAgg0
 z0:=Tryz.sizeOf0
 v0:=Tryz.zeroValue0
 t3:=Tryz.underlying3
 a3:=Tryz.isAgg3
 z3:=Tryz.sizeOf3
 v3:=Tryz.zeroValue3
 t4:=Tryz.underlying4
 a4:=Tryz.isAgg4
 z4:=Tryz.sizeOf4
 v4:=Tryz.zeroValue4
 t22:=Tryz.underlying54
 a22:=Tryz.isAgg54
 z22:=Tryz.sizeOf54
 v22:=Tryz.zeroValue54}
theorem yqh (s:SV) (xs:List Int) (hs:xs.length < 4611686018427387904):y9 Tryz.prog 284 [.v s.v] [.row s.v 1 3 (xs.map zag)] (fun r h'=>h'= [.row s.v 1 3 ((srt xs).map zag)]∧r= .v (.tuple #[])):=
 yag ygj s 3 xs hs
theorem yo4 (s:SV) (xs:List Int) (hs:xs.length≤4611686018427387904):y9 Tryz.prog 162 [.v s.v] [.row s.v 1 3 (xs.map zag)] (fun r h'=>∃s':SV,h'= [.row s'.v 1 3 ((zb4 xs).map zag)]∧r= .v s'.v):=by
 rw [←yab];exact zrk yi6 s 3 xs hs
theorem zp2 (h:Hist) (la:Lim 3000 h) (bl:Nat) (x:Int) (G:List Res):y9 Tryz.prog 270 [pZ bl,iv x] (.box bl 203 (zcf h)::G) (fun r h'=>h'= .box bl 203 (zcf h)::G∧r=zcs (za0 h.evs x)):=by
 refine z6 Tryz.func270 rfl rfl rfl ?_;have be:=la.evs;refine rn ?_;refine z8 rfl (zbm (enc:=zcm) rfl fun bm=>?_);refine rn ?_;refine zbv h.evs.length (fun k=>True) (fun k=>⟨[(18,iv k),(0,pZ bl),(1,iv x),(5,.v (.map (some bm))),(16,zll h.evs),(17,iv (h.evs.map evR).length)],.map bm (zan zcm (zce bv (yks (h.evs.take k)))):: .box bl 203 (zcf h)::G,[]⟩) trivial es ?_;intro k lk _;refine rn ?_;refine z7 rfl (fun hc19=>?_) (fun hc19=>?_)
 ·have hk:=zaw hc19;have rk:=zam (f:=evR) hk;refine rn ?_;refine z8 rfl (y6 rfl fun b7=>?_);first|refine z8 rfl (zak rfl rfl rfl ?_)|refine z8 rfl (za6 rfl rfl rfl rfl (A7 rfl) ?_)
  refine u1 (j8 ?_);refine y5 ?_;refine q1 ?_;refine q1 ?_;refine q1 ?_;refine q1 ?_;refine q1 ?_;refine q1 ?_;refine qq rfl rfl (zc0 (enc:=zcm) (k:=h.evs[k].t) false rfl rfl) ?_;refine rn ?_;refine x5 (fun hg5_7=>?_) (fun hg5_7=>?_)
  ·refine rn ?_;refine z8 rfl (zby (g:=bv) (enc:=zcm) (k:=h.evs[k].t) rfl rfl rfl ?_);refine rn ?_;exact ⟨hk,trivial,by first|(rw [zka hk,hg5_7,D1];exact eA)|(rw [zka hk,hg5_7,C4];exact eA)⟩
  refine rn ?_;refine z8 rfl (zby (g:=bv) (enc:=zcm) (k:=h.evs[k].t) rfl rfl rfl ?_);refine rn ?_;exact ⟨hk,trivial,by first|(rw [zka hk,hg5_7,D1];exact eA)|(rw [zka hk,hg5_7,C4];exact eA)⟩
 have qk:=zaz hc19 lk;subst qk;rw [C7];refine rn ?_;refine zer h.evs.length (fun k s=>⟨[(41,iv k),(8,.v s.v),(1,iv x),(5,.v (.map (some bm))),(39,zll h.evs),(40,iv (h.evs.map evR).length)],.row s.v 1 3 ((((h.evs.take k).filter (wrB h.evs x)).map Ev.t).map zag):: .map bm (zan zcm (zce bv (yks h.evs))):: .box bl 203 (zcf h)::G,[]⟩) ⟨none,0,0⟩ (w8 (zaf 1 3) es) ?_;intro k s lk;refine rn ?_;refine z7 rfl (fun hc42=>?_) (fun hc42=>?_)
 ·have hk:=zaw hc42;have rk:=zam (f:=evR) hk;refine rn ?_;refine z8 rfl (y6 rfl fun b10=>?_);refine rn ?_;refine x5 (fun hg11_3=>?_) (fun hg11_3=>?_)
  ·refine rn ?_;refine x5 (fun hg11_9=>?_) (fun hg11_9=>?_)
   ·refine q1 ?_;refine q1 ?_;refine q1 ?_;refine qq rfl rfl (zc0 (enc:=zcm) (k:=h.evs[k].t) false rfl rfl) ?_;refine rn ?_;refine z7 rfl (fun hc59=>?_) (fun hc59=>?_)
    ·have hx:wrB h.evs x h.evs[k]=true:=by unfold wrB;rw [←zmi];simp_all
     refine rn ?_;refine qv rfl rfl (q8 rfl rfl) ?_;refine z8 rfl (j3 rfl rfl (by simp only [oM,E6,F3];have:=ydy (l:=h.evs) (k:=k) (p:=wrB h.evs x);omega) rfl (fun s64=>?_) (zja [h.evs[k].t]));refine zac s64 fun sv hsv=>?_;subst hsv;refine rn ?_;exact ⟨hk,sv,by rw [yv6 hk hx,D9,D9];exact eA⟩
    have hx:wrB h.evs x h.evs[k]=false:=by unfold wrB;rw [←zmi];simp_all
    refine rn ?_;exact ⟨hk,s,by rw [yov hk hx];exact eA⟩
   refine rn ?_;refine zfd rfl ?_;have hx:wrB h.evs x h.evs[k]=false:=by unfold wrB;rw [←zmi];simp_all
   refine rn ?_;exact ⟨hk,s,by rw [yov hk hx];exact eA⟩
  refine rn ?_;refine zfd rfl ?_;have hx:wrB h.evs x h.evs[k]=false:=by unfold wrB;rw [←zmi];simp_all
  refine rn ?_;exact ⟨hk,s,by rw [yov hk hx];exact eA⟩
 have qk:=zaz hc42 lk;subst qk;refine rn ?_;refine z8 rfl (q7 rfl rfl (zik (y4.of_fun (yqh s _ (by have:=ydy (l:=h.evs) (k:=h.evs.length) (p:=wrB h.evs x);rw [oM];omega)))) rfl ?_);rintro _ _ ⟨rfl,rfl⟩;refine rn ?_;refine z8 rfl (q7 rfl rfl (za3 (y4.of_fun (yo4 s _ (by rw [(ze8 _).length_eq,oM];have:=ydy (l:=h.evs) (k:=h.evs.length) (p:=wrB h.evs x);omega)))) rfl ?_);rintro _ _ ⟨s',rfl,rfl⟩;refine rn ?_;exact u6 rfl (.trans zc5 (.drop1 _ _ _)) ⟨rfl,by rw [C7];rfl⟩
theorem ysi {f:Bool} (l:List Int) (n:Int) (hl:l.length≤4611686018427387904):y9 Tryz.prog 29 [.list f 1 (l.map zag),iv n] [] (fun r h'=>h'= []∧r=iv (zbe (fun a=>a==n) 0 l)):=by
 refine z6 Tryz.func29 rfl rfl rfl ?_;refine rn ?_;refine zc8 (l.length) (fun k:Nat=>zbe (fun a=>a==n) 0 l=zbe (fun a=>a==n) k (l.drop k)) (fun k=> [(8,iv k)]) [(0,_),(1,_),(7,_)] (by simp) ?_;intro k lk zk;refine rn ?_;refine z7 rfl (fun hc9=>?_) (fun hc9=>?_)
 ·have hk:=zaw hc9;have rk:=zam (f:=zag) hk;refine rn ?_;refine z7 rfl (fun hc16=>?_) (fun hc16=>?_)
  ·refine rn ?_;refine rq 0 ?_;exact ⟨rfl,A4 iv (by rw [zk,A8 hk,zbe,A6 (by rw [K7] at hc16 ⊢;exact hc16.symm)])⟩
  refine rn ?_;exact ⟨hk,by rw [zk,A8 hk,zbe,A0 (fun q=>by rw [K7] at q;rw [q] at hc16;simp at hc16)],eA⟩
 have qk:=zaz hc9 lk;refine rn ?_;refine rq 0 ?_;exact ⟨rfl,A4 iv (by rw [zk,qk,E5];rfl)⟩
theorem yei {f:Bool} (l:List Int) (n:Int) (hl:l.length≤4611686018427387904):y9 Tryz.prog 286 [.list f 1 (l.map zag),iv n] [] (fun r h'=>h'= []∧r=bv (l.contains n)):=by
 refine z6 Tryz.func286 rfl rfl rfl ?_;refine rn ?_;refine qv rfl rfl (y3 rfl rfl (u0 (ysi _ _ hl) (Sbs.refl _))) ?_;refine rn ?_;refine rq 0 ?_;exact ⟨rfl,A4 bv (by rw [zeo,zty])⟩
theorem yq9 (f:List Int) (t:Int) (b:Nat) (G:List Res) (hl:f.length≤4611686018427387904):y9 Tryz.prog 285 [iv t,pZ b] (.box b 54 [zcs f]::G) (fun r h'=>h'= .box b 54 [zcs f]::G∧r=bv (!f.contains t)):=by
 refine z6 Tryz.func285 rfl rfl rfl ?_;refine rn ?_;refine qv rfl rfl (y3 rfl rfl (u0 (yei _ _ hl) (Sbs.refl _))) ?_;refine rn ?_;refine rq 0 ?_;exact ⟨rfl,rfl⟩
theorem yra (ts f:List Int) (hl:ts.length≤1000000) (hf:f.length≤4611686018427387904):y9 Tryz.prog 272 [zcs ts,zcs f] [] (fun r h'=>h'= []∧r=bv (zvj ts f)):=by
 refine z6 Tryz.func272 rfl rfl rfl ?_;have hl':ts.length≤4611686018427387904:=B8 hl (by decide);refine rn ?_;refine z8 rfl (w7 rfl rfl rfl fun b3=>?_);refine rn ?_;refine z8 rfl (q7 rfl rfl (y4.new (y4.of_fun (zhe (ts.map zag) (by simp;omega) (fun r hr=>by obtain ⟨n,_,rfl⟩:=H2.1 hr;rfl)))) rfl ?_);rintro _ _ ⟨_,⟨s,rfl,rfl⟩,rfl⟩;show zc9 _ _ _ _ _ _ ⟨_,.row s 1 3 (ts.map zag):: [.box b3 54 [zcs f]],_⟩;refine zac s fun sv hsv=>?_;subst hsv;refine rn ?_;refine z8 rfl (q7 rfl rfl (zik (y4.of_fun (yqh sv ts (by omega)))) rfl ?_);rintro _ _ ⟨rfl,rfl⟩;refine rn ?_;refine z8 rfl (q7 rfl rfl (za3 (y4.of_fun (yo4 sv (srt ts) (by rw [(ze8 _).length_eq];omega)))) rfl ?_);rintro _ _ ⟨s',rfl,rfl⟩;refine rn ?_;refine x5 (fun hg3_6=>?_) (fun hg3_6=>?_)
 ·refine rn ?_;refine qv rfl rfl (y3 rfl rfl (y4.of_fun (zh7 ts _ _ [.row s'.v 1 3 ((zb4 (srt ts)).map zag),.box b3 54 [zcs f]] (fun t _=>y4.qt (h2:= [_]) (y4.of_acall (fs:= []) (cs:= [pZ b3]) (yq9 f t b3 [] hf)) (zd8 [_] [_])) hl'))) ?_;refine rn ?_;refine rq 2 ?_;exact ⟨rfl,A4 bv (by unfold zvj;by_cases e:(zb4 (srt ts)).length=ts.length <;> first|(simp_all;done)|(exfalso;simp at hg3_6;omega))⟩
 refine rn ?_;refine rq 2 ?_;exact ⟨rfl,A4 bv (by unfold zvj;by_cases e:(zb4 (srt ts)).length=ts.length <;> first|(simp_all;done)|(exfalso;simp at hg3_6;omega))⟩
theorem ym4 {f:Bool} (l:List H.Ord) (fv:AV) (w:Nat→H.Ord→Bool) (G:List Res) (hp:∀k (hk:k < l.length),y4 Tryz.prog fv [iv k,.agg (zb7 l[k])] G (fun r h'=>h'=G∧r=bv (w k l[k]))) (hl:l.length≤1000000):y9 Tryz.prog 268 [.list f 2 (l.map zb7),fv] G (fun r h'=>h'=G∧r=zbo (zdl w 0 l)):=by
 refine z6 Tryz.func268 rfl rfl rfl ?_;refine rn ?_;refine zbv l.length (fun k=>zdl w 0 l=zdl w k (l.drop k)) (fun k=>⟨[(10,iv k),(1,fv),(8,.list f 2 (l.map zb7)),(9,iv (l.map zb7).length)],G,[]⟩) (by simp) es ?_;intro k lk zk;refine rn ?_;refine z7 rfl (fun hc11=>?_) (fun hc11=>?_)
 ·have hk:=zaw hc11;have rk:=zam (f:=zb7) hk;refine rn ?_;refine z8 rfl (y6 rfl fun b7=>?_);refine rn ?_;refine qv rfl rfl (y3 rfl rfl (y4.qt (h2:= [_]) (hp k hk) (zd8 [_] _))) ?_;refine rn ?_;refine z7 rfl (fun hc18=>?_) (fun hc18=>?_)
  ·refine rn ?_;refine rq 1 ?_;exact ⟨rfl,by rw [zhv hk zk (by simpa using hc18)];rfl⟩
  refine rn ?_;exact ⟨hk,zd6 hk zk (by simpa using hc18),eA⟩
 have qk:=zaz hc11 lk;refine rn ?_;refine rq 0 ?_;exact ⟨rfl,by rw [zjv qk zk];rfl⟩
theorem ym3 {f:Bool} (l:List ByteArray) (fv:AV) (w:Nat→ByteArray→Bool) (G:List Res) (hp:∀k (hk:k < l.length),y4 Tryz.prog fv [iv k,sv l[k]] G (fun r h'=>h'=G∧r=bv (w k l[k]))) (hl:l.length≤1000000):y9 Tryz.prog 273 [.list f 1 (l.map zaq),fv] G (fun r h'=>h'=G∧r=zbo (zdl w 0 l)):=by
 refine z6 Tryz.func273 rfl rfl rfl ?_;refine rn ?_;refine zbv l.length (fun k=>zdl w 0 l=zdl w k (l.drop k)) (fun k=>⟨[(10,iv k),(1,fv),(8,.list f 1 (l.map zaq)),(9,iv (l.map zaq).length)],G,[]⟩) (by simp) es ?_;intro k lk zk;refine rn ?_;refine z7 rfl (fun hc11=>?_) (fun hc11=>?_)
 ·have hk:=zaw hc11;have rk:=zam (f:=zaq) hk;refine rn ?_;refine qv rfl rfl (y3 rfl rfl (hp k hk)) ?_;refine rn ?_;refine z7 rfl (fun hc18=>?_) (fun hc18=>?_)
  ·refine rn ?_;refine rq 0 ?_;exact ⟨rfl,by rw [zhv hk zk (by simpa using hc18)];rfl⟩
  refine rn ?_;exact ⟨hk,zd6 hk zk (by simpa using hc18),eA⟩
 have qk:=zaz hc11 lk;refine rn ?_;refine rq 0 ?_;exact ⟨rfl,by rw [zjv qk zk];rfl⟩
theorem ym5 {f:Bool} (l:List Mat) (fv:AV) (w:Nat→Mat→Bool) (G:List Res) (hp:∀k (hk:k < l.length),y4 Tryz.prog fv [iv k,.agg (zck l[k])] G (fun r h'=>h'=G∧r=bv (w k l[k]))) (hl:l.length≤1000000):y9 Tryz.prog 276 [.list f 4 (l.map zck),fv] G (fun r h'=>h'=G∧r=zbo (zdl w 0 l)):=by
 refine z6 Tryz.func276 rfl rfl rfl ?_;refine rn ?_;refine zbv l.length (fun k=>zdl w 0 l=zdl w k (l.drop k)) (fun k=>⟨[(10,iv k),(1,fv),(8,.list f 4 (l.map zck)),(9,iv (l.map zck).length)],G,[]⟩) (by simp) es ?_;intro k lk zk;refine rn ?_;refine z7 rfl (fun hc11=>?_) (fun hc11=>?_)
 ·have hk:=zaw hc11;have rk:=zam (f:=zck) hk;refine rn ?_;refine z8 rfl (y6 rfl fun b7=>?_);refine rn ?_;refine qv rfl rfl (y3 rfl rfl (y4.qt (h2:= [_]) (hp k hk) (zd8 [_] _))) ?_;refine rn ?_;refine z7 rfl (fun hc18=>?_) (fun hc18=>?_)
  ·refine rn ?_;refine rq 1 ?_;exact ⟨rfl,by rw [zhv hk zk (by simpa using hc18)];rfl⟩
  refine rn ?_;exact ⟨hk,zd6 hk zk (by simpa using hc18),eA⟩
 have qk:=zaz hc11 lk;refine rn ?_;refine rq 0 ?_;exact ⟨rfl,by rw [zjv qk zk];rfl⟩
theorem ym2 {f:Bool} (l:List Wan) (fv:AV) (w:Nat→Wan→Bool) (G:List Res) (hp:∀k (hk:k < l.length),y4 Tryz.prog fv [iv k,.agg (zar l[k])] G (fun r h'=>h'=G∧r=bv (w k l[k]))) (hl:l.length≤1000000):y9 Tryz.prog 279 [.list f 2 (l.map zar),fv] G (fun r h'=>h'=G∧r=zbo (zdl w 0 l)):=by
 refine z6 Tryz.func279 rfl rfl rfl ?_;refine rn ?_;refine zbv l.length (fun k=>zdl w 0 l=zdl w k (l.drop k)) (fun k=>⟨[(10,iv k),(1,fv),(8,.list f 2 (l.map zar)),(9,iv (l.map zar).length)],G,[]⟩) (by simp) es ?_;intro k lk zk;refine rn ?_;refine z7 rfl (fun hc11=>?_) (fun hc11=>?_)
 ·have hk:=zaw hc11;have rk:=zam (f:=zar) hk;refine rn ?_;refine z8 rfl (y6 rfl fun b7=>?_);refine rn ?_;refine qv rfl rfl (y3 rfl rfl (y4.qt (h2:= [_]) (hp k hk) (zd8 [_] _))) ?_;refine rn ?_;refine z7 rfl (fun hc18=>?_) (fun hc18=>?_)
  ·refine rn ?_;refine rq 1 ?_;exact ⟨rfl,by rw [zhv hk zk (by simpa using hc18)];rfl⟩
  refine rn ?_;exact ⟨hk,zd6 hk zk (by simpa using hc18),eA⟩
 have qk:=zaz hc11 lk;refine rn ?_;refine rq 0 ?_;exact ⟨rfl,by rw [zjv qk zk];rfl⟩
theorem yg7 (p r:H.Ord) (b:Nat) (G:List Res):y9 Tryz.prog 271 [.agg (zb7 p),pZ b] (.box b 99 (zb7 r)::G) (fun x h'=>h'= .box b 99 (zb7 r)::G∧x=bv (p.o==r.o)):=by
 refine z6 Tryz.func271 rfl rfl rfl ?_;refine rn ?_;refine z8 rfl (w7 rfl rfl rfl fun b2=>?_);refine rn ?_;refine rq 1 ?_;exact ⟨rfl,A4 bv (by first|rfl|(simp_all;done))⟩
theorem yg9 (p r:Mat) (b:Nat) (G:List Res):y9 Tryz.prog 278 [.agg (zck p),pZ b] (.box b 112 (zck r)::G) (fun x h'=>h'= .box b 112 (zck r)::G∧x=bv (p.p==r.p && p.o==r.o)):=by
 refine z6 Tryz.func278 rfl rfl rfl ?_;refine rn ?_;refine z8 rfl (w7 rfl rfl rfl fun b2=>?_);refine rn ?_;refine x5 (fun hg1_5=>?_) (fun hg1_5=>?_)
 ·refine rn ?_;refine rq 1 ?_;exact ⟨rfl,A4 bv (by first|rfl|(simp_all;done))⟩
 refine rn ?_;refine rq 1 ?_;exact ⟨rfl,A4 bv (by first|rfl|(simp_all;done))⟩
theorem ym0 (p r:Wan) (b:Nat) (G:List Res):y9 Tryz.prog 282 [.agg (zar p),pZ b] (.box b 51 (zar r)::G) (fun x h'=>h'= .box b 51 (zar r)::G∧x=bv (p.s==r.s)):=by
 refine z6 Tryz.func282 rfl rfl rfl ?_;refine rn ?_;refine z8 rfl (w7 rfl rfl rfl fun b2=>?_);refine rn ?_;refine rq 1 ?_;exact ⟨rfl,A4 bv (by first|rfl|(simp_all;done))⟩
theorem ym1 (e:Ev) (r:Wan) (b:Nat) (G:List Res):y9 Tryz.prog 281 [.agg (evR e),pZ b] (.box b 51 (zar r)::G) (fun x h'=>h'= .box b 51 (zar r)::G∧x=bv (e.kind==1 && e.s==r.s)):=by
 refine z6 Tryz.func281 rfl rfl rfl ?_;refine rn ?_;refine z8 rfl (w7 rfl rfl rfl fun b2=>?_);refine rn ?_;refine x5 (fun hg1_3=>?_) (fun hg1_3=>?_)
 ·refine rn ?_;refine rq 1 ?_;exact ⟨rfl,A4 bv (by first|(simp_all;done)|(simp only [*];done))⟩
 refine rn ?_;refine rq 1 ?_;exact ⟨rfl,A4 bv (by first|(simp_all;done)|(simp only [*];done))⟩
theorem zzo (r:H.Ord) (x:Int) (b:Nat) (G:List Res):y9 Tryz.prog 275 [.agg (zb7 r),pZ b] (.box b 3 [iv x]::G) (fun z h'=>h'= .box b 3 [iv x]::G∧z=bv (r.o==x)):=by
 refine z6 Tryz.func275 rfl rfl rfl ?_;refine rn ?_;refine z8 rfl (w7 rfl rfl rfl fun b2=>?_);refine rn ?_;refine rq 1 ?_;exact ⟨rfl,A4 bv (by first|rfl|(simp_all;done))⟩
theorem ym6 (h:Hist) (la:Lim 3000 h) (i:Nat) (hi:i≤h.ords.length) (r:H.Ord) (hr:r.ts.length≤3000) (bl bp:Nat) (G:List Res):y9 Tryz.prog 269 [iv i,.agg (zb7 r),pZ bp] (.box bp 198 [pZ bl]:: .box bl 203 (zcf h)::G) (fun x h'=>h'=(.box bp 198 [pZ bl]:: .box bl 203 (zcf h)::G)∧x=bv (zhy h i r)):=by
 refine z6 Tryz.func269 rfl rfl rfl ?_;have bo:=la.ords;refine rn ?_;refine z8 rfl (w7 rfl rfl rfl fun b4=>?_);refine rn ?_;refine qv rfl rfl (y3 rfl rfl (y4.qt (h2:= .box b4 99 (zb7 r):: .box bp 198 [pZ bl]::G) (y4.of_fun (zp2 h la bl r.o [])) (pt2 _ _ _ _))) ?_;refine q1 ?_;refine u1 (j8 ?_);refine x7 (y5 ?_);refine q1 ?_;refine q1 ?_;refine q1 ?_;refine q1 ?_;refine q1 ?_;refine q1 ?_;refine qq rfl rfl (zbl (k:=i) rfl rfl (by rw [oM];omega)) ?_;rw [←L6];refine rn ?_;refine qv rfl rfl (y3 rfl rfl (y4.of_fun (zfr (h.ords.take i) _ _ (.box b4 99 (zb7 r):: .box bp 198 [pZ bl]:: .box bl 203 (zcf h)::G) (fun p _=>y4.of_acall (fs:= []) (cs:= [pZ b4]) (yg7 p r b4 (.box bp 198 [pZ bl]:: .box bl 203 (zcf h)::G))) (by rw [D5];have:=la.ords;omega)))) ?_;refine rn ?_;refine x5 (fun hg2_9=>?_) (fun hg2_9=>?_)
 ·refine rn ?_;refine rq 1 ?_;exact ⟨rfl,A4 bv (by unfold zhy;first|(simp only [hg2_9,hg2_16,oM,zkx,D8,D3,D1,F1,C4];done)|(simp only [hg2_9,D1];done)|(simp_all [zkx];done))⟩
 refine rn ?_;refine qv rfl rfl (y3 rfl rfl (u0 (yra r.ts (za0 h.evs r.o) (B8 hr (by decide)) (B8 (zkh h.evs r.o) (B8 la.evs (by decide)))) (Sbs.refl _))) ?_;refine rn ?_;refine x5 (fun hg2_16=>?_) (fun hg2_16=>?_)
 ·refine rn ?_;refine rq 1 ?_;exact ⟨rfl,A4 bv (by unfold zhy;first|(simp only [hg2_9,hg2_16,oM,zkx,D8,D3,D1,F1,C4];done)|(simp only [hg2_9,D1];done)|(simp_all [zkx];done))⟩
 refine rn ?_;refine rq 1 ?_;exact ⟨rfl,A4 bv (by unfold zhy;first|(simp only [hg2_9,hg2_16,oM,zkx,D8,D3,D1,F1,C4];done)|(simp only [hg2_9,D1];done)|(simp_all [zkx];done))⟩
theorem ym7 (h:Hist) (la:Lim 3000 h) (i:Nat) (hi:i≤h.mats.length) (r:Mat) (hr:r.ts.length≤3000) (bl bp:Nat) (G:List Res):y9 Tryz.prog 277 [iv i,.agg (zck r),pZ bp] (.box bp 198 [pZ bl]:: .box bl 203 (zcf h)::G) (fun x h'=>h'=(.box bp 198 [pZ bl]:: .box bl 203 (zcf h)::G)∧x=bv (zlg h i r)):=by
 refine z6 Tryz.func277 rfl rfl rfl ?_;have bo:=la.mats;refine rn ?_;refine z8 rfl (w7 rfl rfl rfl fun b4=>?_);refine rn ?_;refine j5 16 rfl ?_;refine dq rfl rfl qrA ?_;refine dq rfl rfl qrA ?_;refine dq rfl rfl qrA ?_;refine dq rfl rfl qrA ?_;refine dq rfl rfl qrA ?_;refine dq rfl rfl qrA ?_;refine dq rfl rfl (zbl (k:=i) rfl rfl (by rw [oM];omega)) ?_;rw [←L6];refine rn ?_;refine dv rfl rfl (by exact y3 rfl rfl (y4.of_fun (zh6 (h.mats.take i) _ _ (.box b4 112 (zck r):: .box bp 198 [pZ bl]:: .box bl 203 (zcf h)::G) (fun p _=>y4.of_acall (fs:= []) (cs:= [pZ b4]) (yg9 p r b4 (.box bp 198 [pZ bl]:: .box bl 203 (zcf h)::G))) (by rw [D5];have:=la.mats;omega)))) ?_;refine rn ?_;refine ze6 (fun hg2_9=>?_) (fun hg2_9=>?_)
 ·refine rn ?_;refine rq 1 ?_;exact ⟨rfl,A4 bv (by unfold zlg;simp_all)⟩
 refine rn ?_;refine dv rfl rfl (by exact y3 rfl rfl (y4.qt (h2:= .box b4 112 (zck r):: .box bp 198 [pZ bl]::G) (y4.of_fun (zp2 h la bl r.o [])) (pt2 _ _ _ _))) ?_;refine rn ?_;refine qv rfl rfl (y3 rfl rfl (u0 (yra r.ts (za0 h.evs r.o) (B8 hr (by decide)) (B8 (zkh h.evs r.o) (B8 la.evs (by decide)))) (Sbs.refl _))) ?_;refine rn ?_;refine rq 1 ?_;exact ⟨rfl,A4 bv (by unfold zlg;simp_all)⟩
theorem yq2 (h:Hist) (la:Lim 3000 h) (i:Nat) (hi:i≤h.wants.length) (r:Wan) (bl bp:Nat) (G:List Res):y9 Tryz.prog 280 [iv i,.agg (zar r),pZ bp] (.box bp 198 [pZ bl]:: .box bl 203 (zcf h)::G) (fun x h'=>h'=(.box bp 198 [pZ bl]:: .box bl 203 (zcf h)::G)∧x=bv (zi5 h i r)):=by
 refine z6 Tryz.func280 rfl rfl rfl ?_;have bo:=la.wants;refine rn ?_;refine z8 rfl (w7 rfl rfl rfl fun b4=>?_);refine q1 ?_;refine u1 (j8 ?_);refine x7 (y5 ?_);refine q1 ?_;refine q1 ?_;refine u1 (j8 ?_);refine x7 (y5 ?_);refine q1 ?_;refine q1 ?_;refine q1 ?_;refine q1 ?_;refine q1 ?_;refine q1 ?_;refine qq rfl rfl (zbl (k:=i) rfl rfl (by rw [oM];omega)) ?_;rw [←L6];refine rn ?_;refine qv rfl rfl (y3 rfl rfl (y4.of_fun (zh5 (h.wants.take i) _ _ (.box b4 51 (zar r):: .box bp 198 [pZ bl]:: .box bl 203 (zcf h)::G) (fun p _=>y4.of_acall (fs:= []) (cs:= [pZ b4]) (ym0 p r b4 (.box bp 198 [pZ bl]:: .box bl 203 (zcf h)::G))) (by rw [D5];have:=la.wants;omega)))) ?_;refine rn ?_;refine x5 (fun hg2_9=>?_) (fun hg2_9=>?_)
 ·refine rn ?_;refine rq 1 ?_;exact ⟨rfl,A4 bv (by unfold zi5;simp_all)⟩
 refine rn ?_;refine qv rfl rfl (y3 rfl rfl (y4.of_fun (zi1 h.evs _ _ (.box b4 51 (zar r):: .box bp 198 [pZ bl]:: .box bl 203 (zcf h)::G) (fun e _=>y4.of_acall (fs:= []) (cs:= [pZ b4]) (ym1 e r b4 (.box bp 198 [pZ bl]:: .box bl 203 (zcf h)::G))) (B8 la.evs (by decide))))) ?_;refine rn ?_;refine rq 1 ?_;exact ⟨rfl,A4 bv (by unfold zi5;simp_all)⟩
theorem yb8 (h:Hist) (la:Lim 3000 h) (x:Int) (s:ByteArray) (bl bp:Nat) (G:List Res):y9 Tryz.prog 274 [iv x,sv s,pZ bp] (.box bp 198 [pZ bl]:: .box bl 203 (zcf h)::G) (fun z h'=>h'=(.box bp 198 [pZ bl]:: .box bl 203 (zcf h)::G)∧z=bv (zqa h x)):=by
 refine z6 Tryz.func274 rfl rfl rfl ?_;refine rn ?_;refine z8 rfl (w7 rfl rfl rfl fun b3=>?_);refine rn ?_;refine qv rfl rfl (y3 rfl rfl (y4.qt (h2:= .box b3 3 [iv x]:: .box bp 198 [pZ bl]::G) (y4.of_fun (zp2 h la bl x [])) (pt2 _ _ _ _))) ?_;refine rn ?_;refine x5 (fun hg1_5=>?_) (fun hg1_5=>?_)
 ·refine rn ?_;refine qv rfl rfl (y3 rfl rfl (y4.of_fun (zfr h.ords _ _ (.box b3 3 [iv x]:: .box bp 198 [pZ bl]:: .box bl 203 (zcf h)::G) (fun r _=>y4.of_acall (fs:= []) (cs:= [pZ b3]) (zzo r x b3 (.box bp 198 [pZ bl]:: .box bl 203 (zcf h)::G))) (B8 la.ords (by decide))))) ?_;refine rn ?_;refine rq 1 ?_;exact ⟨rfl,A4 bv (by unfold zqa;by_cases e:1 < (za0 h.evs x).length <;> first|(simp_all;done)|(simp [e];done)|(exfalso;simp at hg1_5;omega))⟩
 refine rn ?_;refine rq 1 ?_;exact ⟨rfl,A4 bv (by unfold zqa;by_cases e:1 < (za0 h.evs x).length <;> first|(simp_all;done)|(simp [e];done)|(exfalso;simp at hg1_5;omega))⟩
theorem yq8 (h:Hist) (la:Lim 3000 h) (bl:Nat) (G:List Res):y9 Tryz.prog 254 [pZ bl] (.box bl 203 (zcf h)::G) (fun r h'=>h'=G∧r=zbo (zc1 h 7)):=by
 refine z6 Tryz.func254 rfl rfl rfl ?_;refine rn ?_;refine z8 rfl (w7 rfl rfl rfl fun b1=>?_);refine rn ?_;refine qv rfl rfl (y3 rfl rfl (y4.of_fun (ym4 h.ords (.fn (.func 269) [] [pZ b1]) (zhy h) (.box b1 198 [pZ bl]:: .box bl 203 (zcf h)::G) (fun k hk=>y4.of_acall (fs:= []) (cs:= [pZ b1]) (ym6 h la k (Z9 hk) _ (la.ordts _ (D0 hk)) bl b1 G)) (B8 la.ords (by decide))))) ?_;obtain ⟨pi,pb,hpv⟩:∃i b,zbo (zdl (zhy h) 0 h.ords)= .tup [iv i,bv b]:=zd7 _;rw [hpv];refine rn ?_;refine rq 2 ?_;exact ⟨rfl,hpv.symm⟩
theorem yg8 (h:Hist) (la:Lim 3000 h) (bl:Nat) (G:List Res):y9 Tryz.prog 255 [pZ bl] (.box bl 203 (zcf h)::G) (fun r h'=>h'=G∧r=zbo (zc1 h 8)):=by
 refine z6 Tryz.func255 rfl rfl rfl ?_;refine rn ?_;refine z8 rfl (w7 rfl rfl rfl fun b1=>?_);refine rn ?_;refine qv rfl rfl (y3 rfl rfl (y4.of_fun (ym3 h.os (.fn (.func 274) [] [pZ b1]) (fun x _=>zqa h (x:Nat)) (.box b1 198 [pZ bl]:: .box bl 203 (zcf h)::G) (fun k hk=>y4.of_acall (fs:= []) (cs:= [pZ b1]) (yb8 h la k _ bl b1 G)) (B8 la.os (by decide))))) ?_;obtain ⟨pi,pb,hpv⟩:∃i b,zbo (zdl (fun x _=>zqa h (x:Nat)) 0 h.os)= .tup [iv i,bv b]:=zd7 _;rw [hpv];refine rn ?_;refine rq 2 ?_;exact ⟨rfl,hpv.symm⟩
theorem yrb (h:Hist) (la:Lim 3000 h) (bl:Nat) (G:List Res):y9 Tryz.prog 256 [pZ bl] (.box bl 203 (zcf h)::G) (fun r h'=>h'=G∧r=zbo (zc1 h 9)):=by
 refine z6 Tryz.func256 rfl rfl rfl ?_;refine rn ?_;refine z8 rfl (w7 rfl rfl rfl fun b1=>?_);refine rn ?_;refine qv rfl rfl (y3 rfl rfl (y4.of_fun (ym5 h.mats (.fn (.func 277) [] [pZ b1]) (zlg h) (.box b1 198 [pZ bl]:: .box bl 203 (zcf h)::G) (fun k hk=>y4.of_acall (fs:= []) (cs:= [pZ b1]) (ym7 h la k (Z9 hk) _ (la.matts _ (D0 hk)) bl b1 G)) (B8 la.mats (by decide))))) ?_;obtain ⟨pi,pb,hpv⟩:∃i b,zbo (zdl (zlg h) 0 h.mats)= .tup [iv i,bv b]:=zd7 _;rw [hpv];refine rn ?_;refine rq 2 ?_;exact ⟨rfl,hpv.symm⟩
theorem yva (h:Hist) (la:Lim 3000 h) (bl:Nat) (G:List Res):y9 Tryz.prog 257 [pZ bl] (.box bl 203 (zcf h)::G) (fun r h'=>h'=G∧r=zbo (zc1 h 10)):=by
 refine z6 Tryz.func257 rfl rfl rfl ?_;refine rn ?_;refine z8 rfl (w7 rfl rfl rfl fun b1=>?_);refine rn ?_;refine qv rfl rfl (y3 rfl rfl (y4.of_fun (ym2 h.wants (.fn (.func 280) [] [pZ b1]) (zi5 h) (.box b1 198 [pZ bl]:: .box bl 203 (zcf h)::G) (fun k hk=>y4.of_acall (fs:= []) (cs:= [pZ b1]) (yq2 h la k (Z9 hk) _ bl b1 G)) (B8 la.wants (by decide))))) ?_;obtain ⟨pi,pb,hpv⟩:∃i b,zbo (zdl (zi5 h) 0 h.wants)= .tup [iv i,bv b]:=zd7 _;rw [hpv];refine rn ?_;refine rq 2 ?_;exact ⟨rfl,hpv.symm⟩
theorem zq3 (s:ByteArray) (hx:zao (bt s 0).toNat=240):y9 Tryz.prog 227 [.v (.string s)] [.glob 5 276 x6,.glob 6 279 y7] (fun r h'=>h'= [.glob 5 276 x6,.glob 6 279 y7]∧r= .tup [.v (.int .i32 (x8 s).1),iv (x8 s).2]):=by
 refine z6 Tryz.func227 rfl rfl rfl ?_;refine rn ?_;refine z7 rfl (fun hc16=>?_) (fun hc16=>?_)
 ·refine rn ?_;have hd:x8 s=(65533,0):=by
   unfold x8;rw [A6 (by simp at hc16;omega)]
  exact zb9 rfl rfl (.refl _ _) ⟨rfl,by rw [hd];rfl⟩
 have h1:0 < s.size:=by simp at hc16;omega
 refine rn ?_;refine qq rfl rfl (j4 0 rfl rfl (by omega)) ?_;refine rn ?_;refine qq rfl rfl (x4 rfl rfl (zhh _ _) (zhg _ _)) ?_;refine qq rfl rfl (zab rfl (show _=some (.v (.int .u8 240)) from by rw [zde (zhh s 0) (zhg s 0),hx])) ?_;refine rn ?_;refine z7 rfl (fun hc23=>?_) (fun hc23=>?_)
 ·refine rn ?_;refine qq rfl rfl (j4 0 rfl rfl (by omega)) ?_;refine rn ?_;have hd:x8 s=(bI .or .i32 (bI .andNot .i32 (IntKind.i32.wrap (bt s 0)) (zk2 240)) (bI .and .i32 65533 (zk2 240)),1):=by
   unfold x8;rw [A0 (by omega)];simp only [hx];rw [A6 (by decide)]
  exact zb9 rfl rfl (.refl _ _) ⟨rfl,by rw [hd];rfl⟩
 first|cases hc23|exact absurd hc23 (by decide)|(exfalso;simp_all;done)
theorem zq2 (s:ByteArray) (hx:zao (bt s 0).toNat=241):y9 Tryz.prog 227 [.v (.string s)] [.glob 5 276 x6,.glob 6 279 y7] (fun r h'=>h'= [.glob 5 276 x6,.glob 6 279 y7]∧r= .tup [.v (.int .i32 (x8 s).1),iv (x8 s).2]):=by
 refine z6 Tryz.func227 rfl rfl rfl ?_;refine rn ?_;refine z7 rfl (fun hc16=>?_) (fun hc16=>?_)
 ·refine rn ?_;have hd:x8 s=(65533,0):=by
   unfold x8;rw [A6 (by simp at hc16;omega)]
  exact zb9 rfl rfl (.refl _ _) ⟨rfl,by rw [hd];rfl⟩
 have h1:0 < s.size:=by simp at hc16;omega
 refine rn ?_;refine qq rfl rfl (j4 0 rfl rfl (by omega)) ?_;refine rn ?_;refine qq rfl rfl (x4 rfl rfl (zhh _ _) (zhg _ _)) ?_;refine qq rfl rfl (zab rfl (show _=some (.v (.int .u8 241)) from by rw [zde (zhh s 0) (zhg s 0),hx])) ?_;refine rn ?_;refine z7 rfl (fun hc23=>?_) (fun hc23=>?_)
 ·refine rn ?_;refine qq rfl rfl (j4 0 rfl rfl (by omega)) ?_;refine rn ?_;have hd:x8 s=(bI .or .i32 (bI .andNot .i32 (IntKind.i32.wrap (bt s 0)) (zk2 241)) (bI .and .i32 65533 (zk2 241)),1):=by
   unfold x8;rw [A0 (by omega)];simp only [hx];rw [A6 (by decide)]
  exact zb9 rfl rfl (.refl _ _) ⟨rfl,by rw [hd];rfl⟩
 first|cases hc23|exact absurd hc23 (by decide)|(exfalso;simp_all;done)
theorem zwb (s:ByteArray) (hx:zao (bt s 0).toNat=2):y9 Tryz.prog 227 [.v (.string s)] [.glob 5 276 x6,.glob 6 279 y7] (fun r h'=>h'= [.glob 5 276 x6,.glob 6 279 y7]∧r= .tup [.v (.int .i32 (x8 s).1),iv (x8 s).2]):=by
 refine z6 Tryz.func227 rfl rfl rfl ?_;refine rn ?_;refine z7 rfl (fun hc16=>?_) (fun hc16=>?_)
 ·refine rn ?_;have hd:x8 s=(65533,0):=by
   unfold x8;rw [A6 (by simp at hc16;omega)]
  exact zb9 rfl rfl (.refl _ _) ⟨rfl,by rw [hd];rfl⟩
 have h1:0 < s.size:=by simp at hc16;omega
 refine rn ?_;refine qq rfl rfl (j4 0 rfl rfl (by omega)) ?_;refine rn ?_;refine qq rfl rfl (x4 rfl rfl (zhh _ _) (zhg _ _)) ?_;refine qq rfl rfl (zab rfl (show _=some (.v (.int .u8 2)) from by rw [zde (zhh s 0) (zhg s 0),hx])) ?_;refine rn ?_;refine z7 rfl (fun hc23=>?_) (fun hc23=>?_)
 ·first|cases hc23|exact absurd hc23 (by decide)|(exfalso;simp_all;done)
 refine rn ?_;refine qq rfl rfl (x4 rfl rfl (by decide) (by decide)) ?_;refine rn ?_;refine z8 rfl (y6 rfl fun b9=>?_);refine rn ?_;refine z7 rfl (fun hc45=>?_) (fun hc45=>?_)
 ·refine rn ?_;have hd:x8 s=(65533,1):=by
   unfold x8;rw [A0 (by omega)];simp only [hx];rw [A0 (by decide),A6 (show (s.size:Int) < (2:Int) % 8 from oT hc45)]
  exact zb9 rfl rfl (.drop1 _ _ _) ⟨rfl,by rw [hd];rfl⟩
 have h2:2≤s.size:=by
  have:¬((s.size:Int) < 2):=oF hc45;omega
 refine rn ?_;refine qq rfl rfl (j4 1 rfl rfl (by omega)) ?_;refine rn ?_;refine x5 (fun hg14_4=>?_) (fun hg14_4=>?_)
 ·refine rn ?_;refine z7 rfl (fun hc57=>?_) (fun hc57=>?_)
  ·refine rn ?_;have hd:x8 s=(65533,1):=by
    unfold x8;rw [A0 (by omega)];simp only [hx];rw [A0 (by decide),A0 (show ¬(s.size:Int) < (2:Int) % 8 from oF hc45),A6 (show bt s 1 < zbr ((2:Int) / 16).toNat∨zbs ((2:Int) / 16).toNat < bt s 1 from by first|exact .inl (oT hg14_4)|exact .inr (oT hc57))]
   exact zb9 rfl rfl (.drop1 _ _ _) ⟨rfl,by rw [hd];rfl⟩
  first|cases hc57|exact absurd hc57 (by decide)|(exfalso;simp_all;done)
 refine rn ?_;refine z7 rfl (fun hc57=>?_) (fun hc57=>?_)
 ·refine rn ?_;have hd:x8 s=(65533,1):=by
   unfold x8;rw [A0 (by omega)];simp only [hx];rw [A0 (by decide),A0 (show ¬(s.size:Int) < (2:Int) % 8 from oF hc45),A6 (show bt s 1 < zbr ((2:Int) / 16).toNat∨zbs ((2:Int) / 16).toNat < bt s 1 from by first|exact .inl (oT hg14_4)|exact .inr (oT hc57))]
  exact zb9 rfl rfl (.drop1 _ _ _) ⟨rfl,by rw [hd];rfl⟩
 refine rn ?_;refine z7 rfl (fun hc59=>?_) (fun hc59=>?_)
 ·refine rn ?_;have hd:x8 s=(bI .or .i32 (zdo (bt s 0) 31 6) (zdo (bt s 1) 63 0),2):=by
   unfold x8;rw [A0 (by omega)];simp only [hx];rw [A0 (by decide),A0 (show ¬(s.size:Int) < (2:Int) % 8 from oF hc45),A0 (show ¬(bt s 1 < zbr ((2:Int) / 16).toNat∨zbs ((2:Int) / 16).toNat < bt s 1) from fun q=>q.elim (oF hg14_4) (oF hc57)),A6 (by decide)]
  exact zb9 rfl rfl (.drop1 _ _ _) ⟨rfl,by rw [hd];rfl⟩
 first|cases hc59|exact absurd hc59 (by decide)|(exfalso;simp_all;done)
theorem ztu (s:ByteArray) (hx:zao (bt s 0).toNat=19):y9 Tryz.prog 227 [.v (.string s)] [.glob 5 276 x6,.glob 6 279 y7] (fun r h'=>h'= [.glob 5 276 x6,.glob 6 279 y7]∧r= .tup [.v (.int .i32 (x8 s).1),iv (x8 s).2]):=by
 refine z6 Tryz.func227 rfl rfl rfl ?_;refine rn ?_;refine z7 rfl (fun hc16=>?_) (fun hc16=>?_)
 ·refine rn ?_;have hd:x8 s=(65533,0):=by
   unfold x8;rw [A6 (by simp at hc16;omega)]
  exact zb9 rfl rfl (.refl _ _) ⟨rfl,by rw [hd];rfl⟩
 have h1:0 < s.size:=by simp at hc16;omega
 refine rn ?_;refine qq rfl rfl (j4 0 rfl rfl (by omega)) ?_;refine rn ?_;refine qq rfl rfl (x4 rfl rfl (zhh _ _) (zhg _ _)) ?_;refine qq rfl rfl (zab rfl (show _=some (.v (.int .u8 19)) from by rw [zde (zhh s 0) (zhg s 0),hx])) ?_;refine rn ?_;refine z7 rfl (fun hc23=>?_) (fun hc23=>?_)
 ·first|cases hc23|exact absurd hc23 (by decide)|(exfalso;simp_all;done)
 refine rn ?_;refine qq rfl rfl (x4 rfl rfl (by decide) (by decide)) ?_;refine rn ?_;refine z8 rfl (y6 rfl fun b9=>?_);refine rn ?_;refine z7 rfl (fun hc45=>?_) (fun hc45=>?_)
 ·refine rn ?_;have hd:x8 s=(65533,1):=by
   unfold x8;rw [A0 (by omega)];simp only [hx];rw [A0 (by decide),A6 (show (s.size:Int) < (19:Int) % 8 from oT hc45)]
  exact zb9 rfl rfl (.drop1 _ _ _) ⟨rfl,by rw [hd];rfl⟩
 have h2:3≤s.size:=by
  have:¬((s.size:Int) < 3):=oF hc45;omega
 refine rn ?_;refine qq rfl rfl (j4 1 rfl rfl (by omega)) ?_;refine rn ?_;refine x5 (fun hg14_4=>?_) (fun hg14_4=>?_)
 ·refine rn ?_;refine z7 rfl (fun hc57=>?_) (fun hc57=>?_)
  ·refine rn ?_;have hd:x8 s=(65533,1):=by
    unfold x8;rw [A0 (by omega)];simp only [hx];rw [A0 (by decide),A0 (show ¬(s.size:Int) < (19:Int) % 8 from oF hc45),A6 (show bt s 1 < zbr ((19:Int) / 16).toNat∨zbs ((19:Int) / 16).toNat < bt s 1 from by first|exact .inl (oT hg14_4)|exact .inr (oT hc57))]
   exact zb9 rfl rfl (.drop1 _ _ _) ⟨rfl,by rw [hd];rfl⟩
  first|cases hc57|exact absurd hc57 (by decide)|(exfalso;simp_all;done)
 refine rn ?_;refine z7 rfl (fun hc57=>?_) (fun hc57=>?_)
 ·refine rn ?_;have hd:x8 s=(65533,1):=by
   unfold x8;rw [A0 (by omega)];simp only [hx];rw [A0 (by decide),A0 (show ¬(s.size:Int) < (19:Int) % 8 from oF hc45),A6 (show bt s 1 < zbr ((19:Int) / 16).toNat∨zbs ((19:Int) / 16).toNat < bt s 1 from by first|exact .inl (oT hg14_4)|exact .inr (oT hc57))]
  exact zb9 rfl rfl (.drop1 _ _ _) ⟨rfl,by rw [hd];rfl⟩
 refine rn ?_;refine z7 rfl (fun hc59=>?_) (fun hc59=>?_)
 ·first|cases hc59|exact absurd hc59 (by decide)|(exfalso;simp_all;done)
 refine rn ?_;refine qq rfl rfl (j4 2 rfl rfl (by omega)) ?_;refine rn ?_;refine x5 (fun hg19_2=>?_) (fun hg19_2=>?_)
 ·refine rn ?_;refine z7 rfl (fun hc75=>?_) (fun hc75=>?_)
  ·refine rn ?_;have hd:x8 s=(65533,1):=by
    unfold x8;rw [A0 (by omega)];simp only [hx];rw [A0 (by decide),A0 (show ¬(s.size:Int) < (19:Int) % 8 from oF hc45),A0 (show ¬(bt s 1 < zbr ((19:Int) / 16).toNat∨zbs ((19:Int) / 16).toNat < bt s 1) from fun q=>q.elim (oF hg14_4) (oF hc57)),A0 (by decide),A6 (show bt s 2 < 128∨191 < bt s 2 from by first|exact .inl (oT hg19_2)|exact .inr (oT hc75))]
   exact zb9 rfl rfl (.drop1 _ _ _) ⟨rfl,by rw [hd];rfl⟩
  first|cases hc75|exact absurd hc75 (by decide)|(exfalso;simp_all;done)
 refine rn ?_;refine z7 rfl (fun hc75=>?_) (fun hc75=>?_)
 ·refine rn ?_;have hd:x8 s=(65533,1):=by
   unfold x8;rw [A0 (by omega)];simp only [hx];rw [A0 (by decide),A0 (show ¬(s.size:Int) < (19:Int) % 8 from oF hc45),A0 (show ¬(bt s 1 < zbr ((19:Int) / 16).toNat∨zbs ((19:Int) / 16).toNat < bt s 1) from fun q=>q.elim (oF hg14_4) (oF hc57)),A0 (by decide),A6 (show bt s 2 < 128∨191 < bt s 2 from by first|exact .inl (oT hg19_2)|exact .inr (oT hc75))]
  exact zb9 rfl rfl (.drop1 _ _ _) ⟨rfl,by rw [hd];rfl⟩
 refine rn ?_;refine z7 rfl (fun hc77=>?_) (fun hc77=>?_)
 ·refine rn ?_;have hd:x8 s=(bI .or .i32 (bI .or .i32 (zdo (bt s 0) 15 12) (zdo (bt s 1) 63 6)) (zdo (bt s 2) 63 0),3):=by
   unfold x8;rw [A0 (by omega)];simp only [hx];rw [A0 (by decide),A0 (show ¬(s.size:Int) < (19:Int) % 8 from oF hc45),A0 (show ¬(bt s 1 < zbr ((19:Int) / 16).toNat∨zbs ((19:Int) / 16).toNat < bt s 1) from fun q=>q.elim (oF hg14_4) (oF hc57)),A0 (by decide),A0 (show ¬(bt s 2 < 128∨191 < bt s 2) from fun q=>q.elim (oF hg19_2) (oF hc75)),A6 (by decide)]
  exact zb9 rfl rfl (.drop1 _ _ _) ⟨rfl,by rw [hd];rfl⟩
 first|cases hc77|exact absurd hc77 (by decide)|(exfalso;simp_all;done)
theorem zwa (s:ByteArray) (hx:zao (bt s 0).toNat=3):y9 Tryz.prog 227 [.v (.string s)] [.glob 5 276 x6,.glob 6 279 y7] (fun r h'=>h'= [.glob 5 276 x6,.glob 6 279 y7]∧r= .tup [.v (.int .i32 (x8 s).1),iv (x8 s).2]):=by
 refine z6 Tryz.func227 rfl rfl rfl ?_;refine rn ?_;refine z7 rfl (fun hc16=>?_) (fun hc16=>?_)
 ·refine rn ?_;have hd:x8 s=(65533,0):=by
   unfold x8;rw [A6 (by simp at hc16;omega)]
  exact zb9 rfl rfl (.refl _ _) ⟨rfl,by rw [hd];rfl⟩
 have h1:0 < s.size:=by simp at hc16;omega
 refine rn ?_;refine qq rfl rfl (j4 0 rfl rfl (by omega)) ?_;refine rn ?_;refine qq rfl rfl (x4 rfl rfl (zhh _ _) (zhg _ _)) ?_;refine qq rfl rfl (zab rfl (show _=some (.v (.int .u8 3)) from by rw [zde (zhh s 0) (zhg s 0),hx])) ?_;refine rn ?_;refine z7 rfl (fun hc23=>?_) (fun hc23=>?_)
 ·first|cases hc23|exact absurd hc23 (by decide)|(exfalso;simp_all;done)
 refine rn ?_;refine qq rfl rfl (x4 rfl rfl (by decide) (by decide)) ?_;refine rn ?_;refine z8 rfl (y6 rfl fun b9=>?_);refine rn ?_;refine z7 rfl (fun hc45=>?_) (fun hc45=>?_)
 ·refine rn ?_;have hd:x8 s=(65533,1):=by
   unfold x8;rw [A0 (by omega)];simp only [hx];rw [A0 (by decide),A6 (show (s.size:Int) < (3:Int) % 8 from oT hc45)]
  exact zb9 rfl rfl (.drop1 _ _ _) ⟨rfl,by rw [hd];rfl⟩
 have h2:3≤s.size:=by
  have:¬((s.size:Int) < 3):=oF hc45;omega
 refine rn ?_;refine qq rfl rfl (j4 1 rfl rfl (by omega)) ?_;refine rn ?_;refine x5 (fun hg14_4=>?_) (fun hg14_4=>?_)
 ·refine rn ?_;refine z7 rfl (fun hc57=>?_) (fun hc57=>?_)
  ·refine rn ?_;have hd:x8 s=(65533,1):=by
    unfold x8;rw [A0 (by omega)];simp only [hx];rw [A0 (by decide),A0 (show ¬(s.size:Int) < (3:Int) % 8 from oF hc45),A6 (show bt s 1 < zbr ((3:Int) / 16).toNat∨zbs ((3:Int) / 16).toNat < bt s 1 from by first|exact .inl (oT hg14_4)|exact .inr (oT hc57))]
   exact zb9 rfl rfl (.drop1 _ _ _) ⟨rfl,by rw [hd];rfl⟩
  first|cases hc57|exact absurd hc57 (by decide)|(exfalso;simp_all;done)
 refine rn ?_;refine z7 rfl (fun hc57=>?_) (fun hc57=>?_)
 ·refine rn ?_;have hd:x8 s=(65533,1):=by
   unfold x8;rw [A0 (by omega)];simp only [hx];rw [A0 (by decide),A0 (show ¬(s.size:Int) < (3:Int) % 8 from oF hc45),A6 (show bt s 1 < zbr ((3:Int) / 16).toNat∨zbs ((3:Int) / 16).toNat < bt s 1 from by first|exact .inl (oT hg14_4)|exact .inr (oT hc57))]
  exact zb9 rfl rfl (.drop1 _ _ _) ⟨rfl,by rw [hd];rfl⟩
 refine rn ?_;refine z7 rfl (fun hc59=>?_) (fun hc59=>?_)
 ·first|cases hc59|exact absurd hc59 (by decide)|(exfalso;simp_all;done)
 refine rn ?_;refine qq rfl rfl (j4 2 rfl rfl (by omega)) ?_;refine rn ?_;refine x5 (fun hg19_2=>?_) (fun hg19_2=>?_)
 ·refine rn ?_;refine z7 rfl (fun hc75=>?_) (fun hc75=>?_)
  ·refine rn ?_;have hd:x8 s=(65533,1):=by
    unfold x8;rw [A0 (by omega)];simp only [hx];rw [A0 (by decide),A0 (show ¬(s.size:Int) < (3:Int) % 8 from oF hc45),A0 (show ¬(bt s 1 < zbr ((3:Int) / 16).toNat∨zbs ((3:Int) / 16).toNat < bt s 1) from fun q=>q.elim (oF hg14_4) (oF hc57)),A0 (by decide),A6 (show bt s 2 < 128∨191 < bt s 2 from by first|exact .inl (oT hg19_2)|exact .inr (oT hc75))]
   exact zb9 rfl rfl (.drop1 _ _ _) ⟨rfl,by rw [hd];rfl⟩
  first|cases hc75|exact absurd hc75 (by decide)|(exfalso;simp_all;done)
 refine rn ?_;refine z7 rfl (fun hc75=>?_) (fun hc75=>?_)
 ·refine rn ?_;have hd:x8 s=(65533,1):=by
   unfold x8;rw [A0 (by omega)];simp only [hx];rw [A0 (by decide),A0 (show ¬(s.size:Int) < (3:Int) % 8 from oF hc45),A0 (show ¬(bt s 1 < zbr ((3:Int) / 16).toNat∨zbs ((3:Int) / 16).toNat < bt s 1) from fun q=>q.elim (oF hg14_4) (oF hc57)),A0 (by decide),A6 (show bt s 2 < 128∨191 < bt s 2 from by first|exact .inl (oT hg19_2)|exact .inr (oT hc75))]
  exact zb9 rfl rfl (.drop1 _ _ _) ⟨rfl,by rw [hd];rfl⟩
 refine rn ?_;refine z7 rfl (fun hc77=>?_) (fun hc77=>?_)
 ·refine rn ?_;have hd:x8 s=(bI .or .i32 (bI .or .i32 (zdo (bt s 0) 15 12) (zdo (bt s 1) 63 6)) (zdo (bt s 2) 63 0),3):=by
   unfold x8;rw [A0 (by omega)];simp only [hx];rw [A0 (by decide),A0 (show ¬(s.size:Int) < (3:Int) % 8 from oF hc45),A0 (show ¬(bt s 1 < zbr ((3:Int) / 16).toNat∨zbs ((3:Int) / 16).toNat < bt s 1) from fun q=>q.elim (oF hg14_4) (oF hc57)),A0 (by decide),A0 (show ¬(bt s 2 < 128∨191 < bt s 2) from fun q=>q.elim (oF hg19_2) (oF hc75)),A6 (by decide)]
  exact zb9 rfl rfl (.drop1 _ _ _) ⟨rfl,by rw [hd];rfl⟩
 first|cases hc77|exact absurd hc77 (by decide)|(exfalso;simp_all;done)
theorem ztt (s:ByteArray) (hx:zao (bt s 0).toNat=35):y9 Tryz.prog 227 [.v (.string s)] [.glob 5 276 x6,.glob 6 279 y7] (fun r h'=>h'= [.glob 5 276 x6,.glob 6 279 y7]∧r= .tup [.v (.int .i32 (x8 s).1),iv (x8 s).2]):=by
 refine z6 Tryz.func227 rfl rfl rfl ?_;refine rn ?_;refine z7 rfl (fun hc16=>?_) (fun hc16=>?_)
 ·refine rn ?_;have hd:x8 s=(65533,0):=by
   unfold x8;rw [A6 (by simp at hc16;omega)]
  exact zb9 rfl rfl (.refl _ _) ⟨rfl,by rw [hd];rfl⟩
 have h1:0 < s.size:=by simp at hc16;omega
 refine rn ?_;refine qq rfl rfl (j4 0 rfl rfl (by omega)) ?_;refine rn ?_;refine qq rfl rfl (x4 rfl rfl (zhh _ _) (zhg _ _)) ?_;refine qq rfl rfl (zab rfl (show _=some (.v (.int .u8 35)) from by rw [zde (zhh s 0) (zhg s 0),hx])) ?_;refine rn ?_;refine z7 rfl (fun hc23=>?_) (fun hc23=>?_)
 ·first|cases hc23|exact absurd hc23 (by decide)|(exfalso;simp_all;done)
 refine rn ?_;refine qq rfl rfl (x4 rfl rfl (by decide) (by decide)) ?_;refine rn ?_;refine z8 rfl (y6 rfl fun b9=>?_);refine rn ?_;refine z7 rfl (fun hc45=>?_) (fun hc45=>?_)
 ·refine rn ?_;have hd:x8 s=(65533,1):=by
   unfold x8;rw [A0 (by omega)];simp only [hx];rw [A0 (by decide),A6 (show (s.size:Int) < (35:Int) % 8 from oT hc45)]
  exact zb9 rfl rfl (.drop1 _ _ _) ⟨rfl,by rw [hd];rfl⟩
 have h2:3≤s.size:=by
  have:¬((s.size:Int) < 3):=oF hc45;omega
 refine rn ?_;refine qq rfl rfl (j4 1 rfl rfl (by omega)) ?_;refine rn ?_;refine x5 (fun hg14_4=>?_) (fun hg14_4=>?_)
 ·refine rn ?_;refine z7 rfl (fun hc57=>?_) (fun hc57=>?_)
  ·refine rn ?_;have hd:x8 s=(65533,1):=by
    unfold x8;rw [A0 (by omega)];simp only [hx];rw [A0 (by decide),A0 (show ¬(s.size:Int) < (35:Int) % 8 from oF hc45),A6 (show bt s 1 < zbr ((35:Int) / 16).toNat∨zbs ((35:Int) / 16).toNat < bt s 1 from by first|exact .inl (oT hg14_4)|exact .inr (oT hc57))]
   exact zb9 rfl rfl (.drop1 _ _ _) ⟨rfl,by rw [hd];rfl⟩
  first|cases hc57|exact absurd hc57 (by decide)|(exfalso;simp_all;done)
 refine rn ?_;refine z7 rfl (fun hc57=>?_) (fun hc57=>?_)
 ·refine rn ?_;have hd:x8 s=(65533,1):=by
   unfold x8;rw [A0 (by omega)];simp only [hx];rw [A0 (by decide),A0 (show ¬(s.size:Int) < (35:Int) % 8 from oF hc45),A6 (show bt s 1 < zbr ((35:Int) / 16).toNat∨zbs ((35:Int) / 16).toNat < bt s 1 from by first|exact .inl (oT hg14_4)|exact .inr (oT hc57))]
  exact zb9 rfl rfl (.drop1 _ _ _) ⟨rfl,by rw [hd];rfl⟩
 refine rn ?_;refine z7 rfl (fun hc59=>?_) (fun hc59=>?_)
 ·first|cases hc59|exact absurd hc59 (by decide)|(exfalso;simp_all;done)
 refine rn ?_;refine qq rfl rfl (j4 2 rfl rfl (by omega)) ?_;refine rn ?_;refine x5 (fun hg19_2=>?_) (fun hg19_2=>?_)
 ·refine rn ?_;refine z7 rfl (fun hc75=>?_) (fun hc75=>?_)
  ·refine rn ?_;have hd:x8 s=(65533,1):=by
    unfold x8;rw [A0 (by omega)];simp only [hx];rw [A0 (by decide),A0 (show ¬(s.size:Int) < (35:Int) % 8 from oF hc45),A0 (show ¬(bt s 1 < zbr ((35:Int) / 16).toNat∨zbs ((35:Int) / 16).toNat < bt s 1) from fun q=>q.elim (oF hg14_4) (oF hc57)),A0 (by decide),A6 (show bt s 2 < 128∨191 < bt s 2 from by first|exact .inl (oT hg19_2)|exact .inr (oT hc75))]
   exact zb9 rfl rfl (.drop1 _ _ _) ⟨rfl,by rw [hd];rfl⟩
  first|cases hc75|exact absurd hc75 (by decide)|(exfalso;simp_all;done)
 refine rn ?_;refine z7 rfl (fun hc75=>?_) (fun hc75=>?_)
 ·refine rn ?_;have hd:x8 s=(65533,1):=by
   unfold x8;rw [A0 (by omega)];simp only [hx];rw [A0 (by decide),A0 (show ¬(s.size:Int) < (35:Int) % 8 from oF hc45),A0 (show ¬(bt s 1 < zbr ((35:Int) / 16).toNat∨zbs ((35:Int) / 16).toNat < bt s 1) from fun q=>q.elim (oF hg14_4) (oF hc57)),A0 (by decide),A6 (show bt s 2 < 128∨191 < bt s 2 from by first|exact .inl (oT hg19_2)|exact .inr (oT hc75))]
  exact zb9 rfl rfl (.drop1 _ _ _) ⟨rfl,by rw [hd];rfl⟩
 refine rn ?_;refine z7 rfl (fun hc77=>?_) (fun hc77=>?_)
 ·refine rn ?_;have hd:x8 s=(bI .or .i32 (bI .or .i32 (zdo (bt s 0) 15 12) (zdo (bt s 1) 63 6)) (zdo (bt s 2) 63 0),3):=by
   unfold x8;rw [A0 (by omega)];simp only [hx];rw [A0 (by decide),A0 (show ¬(s.size:Int) < (35:Int) % 8 from oF hc45),A0 (show ¬(bt s 1 < zbr ((35:Int) / 16).toNat∨zbs ((35:Int) / 16).toNat < bt s 1) from fun q=>q.elim (oF hg14_4) (oF hc57)),A0 (by decide),A0 (show ¬(bt s 2 < 128∨191 < bt s 2) from fun q=>q.elim (oF hg19_2) (oF hc75)),A6 (by decide)]
  exact zb9 rfl rfl (.drop1 _ _ _) ⟨rfl,by rw [hd];rfl⟩
 first|cases hc77|exact absurd hc77 (by decide)|(exfalso;simp_all;done)
theorem zts (s:ByteArray) (hx:zao (bt s 0).toNat=52):y9 Tryz.prog 227 [.v (.string s)] [.glob 5 276 x6,.glob 6 279 y7] (fun r h'=>h'= [.glob 5 276 x6,.glob 6 279 y7]∧r= .tup [.v (.int .i32 (x8 s).1),iv (x8 s).2]):=by
 refine z6 Tryz.func227 rfl rfl rfl ?_;refine rn ?_;refine z7 rfl (fun hc16=>?_) (fun hc16=>?_)
 ·refine rn ?_;have hd:x8 s=(65533,0):=by
   unfold x8;rw [A6 (by simp at hc16;omega)]
  exact zb9 rfl rfl (.refl _ _) ⟨rfl,by rw [hd];rfl⟩
 have h1:0 < s.size:=by simp at hc16;omega
 refine rn ?_;refine qq rfl rfl (j4 0 rfl rfl (by omega)) ?_;refine rn ?_;refine qq rfl rfl (x4 rfl rfl (zhh _ _) (zhg _ _)) ?_;refine qq rfl rfl (zab rfl (show _=some (.v (.int .u8 52)) from by rw [zde (zhh s 0) (zhg s 0),hx])) ?_;refine rn ?_;refine z7 rfl (fun hc23=>?_) (fun hc23=>?_)
 ·first|cases hc23|exact absurd hc23 (by decide)|(exfalso;simp_all;done)
 refine rn ?_;refine qq rfl rfl (x4 rfl rfl (by decide) (by decide)) ?_;refine rn ?_;refine z8 rfl (y6 rfl fun b9=>?_);refine rn ?_;refine z7 rfl (fun hc45=>?_) (fun hc45=>?_)
 ·refine rn ?_;have hd:x8 s=(65533,1):=by
   unfold x8;rw [A0 (by omega)];simp only [hx];rw [A0 (by decide),A6 (show (s.size:Int) < (52:Int) % 8 from oT hc45)]
  exact zb9 rfl rfl (.drop1 _ _ _) ⟨rfl,by rw [hd];rfl⟩
 have h2:4≤s.size:=by
  have:¬((s.size:Int) < 4):=oF hc45;omega
 refine rn ?_;refine qq rfl rfl (j4 1 rfl rfl (by omega)) ?_;refine rn ?_;refine x5 (fun hg14_4=>?_) (fun hg14_4=>?_)
 ·refine rn ?_;refine z7 rfl (fun hc57=>?_) (fun hc57=>?_)
  ·refine rn ?_;have hd:x8 s=(65533,1):=by
    unfold x8;rw [A0 (by omega)];simp only [hx];rw [A0 (by decide),A0 (show ¬(s.size:Int) < (52:Int) % 8 from oF hc45),A6 (show bt s 1 < zbr ((52:Int) / 16).toNat∨zbs ((52:Int) / 16).toNat < bt s 1 from by first|exact .inl (oT hg14_4)|exact .inr (oT hc57))]
   exact zb9 rfl rfl (.drop1 _ _ _) ⟨rfl,by rw [hd];rfl⟩
  first|cases hc57|exact absurd hc57 (by decide)|(exfalso;simp_all;done)
 refine rn ?_;refine z7 rfl (fun hc57=>?_) (fun hc57=>?_)
 ·refine rn ?_;have hd:x8 s=(65533,1):=by
   unfold x8;rw [A0 (by omega)];simp only [hx];rw [A0 (by decide),A0 (show ¬(s.size:Int) < (52:Int) % 8 from oF hc45),A6 (show bt s 1 < zbr ((52:Int) / 16).toNat∨zbs ((52:Int) / 16).toNat < bt s 1 from by first|exact .inl (oT hg14_4)|exact .inr (oT hc57))]
  exact zb9 rfl rfl (.drop1 _ _ _) ⟨rfl,by rw [hd];rfl⟩
 refine rn ?_;refine z7 rfl (fun hc59=>?_) (fun hc59=>?_)
 ·first|cases hc59|exact absurd hc59 (by decide)|(exfalso;simp_all;done)
 refine rn ?_;refine qq rfl rfl (j4 2 rfl rfl (by omega)) ?_;refine rn ?_;refine x5 (fun hg19_2=>?_) (fun hg19_2=>?_)
 ·refine rn ?_;refine z7 rfl (fun hc75=>?_) (fun hc75=>?_)
  ·refine rn ?_;have hd:x8 s=(65533,1):=by
    unfold x8;rw [A0 (by omega)];simp only [hx];rw [A0 (by decide),A0 (show ¬(s.size:Int) < (52:Int) % 8 from oF hc45),A0 (show ¬(bt s 1 < zbr ((52:Int) / 16).toNat∨zbs ((52:Int) / 16).toNat < bt s 1) from fun q=>q.elim (oF hg14_4) (oF hc57)),A0 (by decide),A6 (show bt s 2 < 128∨191 < bt s 2 from by first|exact .inl (oT hg19_2)|exact .inr (oT hc75))]
   exact zb9 rfl rfl (.drop1 _ _ _) ⟨rfl,by rw [hd];rfl⟩
  first|cases hc75|exact absurd hc75 (by decide)|(exfalso;simp_all;done)
 refine rn ?_;refine z7 rfl (fun hc75=>?_) (fun hc75=>?_)
 ·refine rn ?_;have hd:x8 s=(65533,1):=by
   unfold x8;rw [A0 (by omega)];simp only [hx];rw [A0 (by decide),A0 (show ¬(s.size:Int) < (52:Int) % 8 from oF hc45),A0 (show ¬(bt s 1 < zbr ((52:Int) / 16).toNat∨zbs ((52:Int) / 16).toNat < bt s 1) from fun q=>q.elim (oF hg14_4) (oF hc57)),A0 (by decide),A6 (show bt s 2 < 128∨191 < bt s 2 from by first|exact .inl (oT hg19_2)|exact .inr (oT hc75))]
  exact zb9 rfl rfl (.drop1 _ _ _) ⟨rfl,by rw [hd];rfl⟩
 refine rn ?_;refine z7 rfl (fun hc77=>?_) (fun hc77=>?_)
 ·first|cases hc77|exact absurd hc77 (by decide)|(exfalso;simp_all;done)
 refine rn ?_;refine qq rfl rfl (j4 3 rfl rfl (by omega)) ?_;refine rn ?_;refine x5 (fun hg24_2=>?_) (fun hg24_2=>?_)
 ·refine rn ?_;refine z7 rfl (fun hc98=>?_) (fun hc98=>?_)
  ·refine rn ?_;have hd:x8 s=(65533,1):=by
    unfold x8;rw [A0 (by omega)];simp only [hx];rw [A0 (by decide),A0 (show ¬(s.size:Int) < (52:Int) % 8 from oF hc45),A0 (show ¬(bt s 1 < zbr ((52:Int) / 16).toNat∨zbs ((52:Int) / 16).toNat < bt s 1) from fun q=>q.elim (oF hg14_4) (oF hc57)),A0 (by decide),A0 (show ¬(bt s 2 < 128∨191 < bt s 2) from fun q=>q.elim (oF hg19_2) (oF hc75)),A0 (by decide),A6 (show bt s 3 < 128∨191 < bt s 3 from by first|exact .inl (oT hg24_2)|exact .inr (oT hc98))]
   exact zb9 rfl rfl (.drop1 _ _ _) ⟨rfl,by rw [hd];rfl⟩
  first|cases hc98|exact absurd hc98 (by decide)|(exfalso;simp_all;done)
 refine rn ?_;refine z7 rfl (fun hc98=>?_) (fun hc98=>?_)
 ·refine rn ?_;have hd:x8 s=(65533,1):=by
   unfold x8;rw [A0 (by omega)];simp only [hx];rw [A0 (by decide),A0 (show ¬(s.size:Int) < (52:Int) % 8 from oF hc45),A0 (show ¬(bt s 1 < zbr ((52:Int) / 16).toNat∨zbs ((52:Int) / 16).toNat < bt s 1) from fun q=>q.elim (oF hg14_4) (oF hc57)),A0 (by decide),A0 (show ¬(bt s 2 < 128∨191 < bt s 2) from fun q=>q.elim (oF hg19_2) (oF hc75)),A0 (by decide),A6 (show bt s 3 < 128∨191 < bt s 3 from by first|exact .inl (oT hg24_2)|exact .inr (oT hc98))]
  exact zb9 rfl rfl (.drop1 _ _ _) ⟨rfl,by rw [hd];rfl⟩
 refine rn ?_;have hd:x8 s=(bI .or .i32 (bI .or .i32 (bI .or .i32 (zdo (bt s 0) 7 18) (zdo (bt s 1) 63 12)) (zdo (bt s 2) 63 6)) (zdo (bt s 3) 63 0),4):=by
  unfold x8;rw [A0 (by omega)];simp only [hx];rw [A0 (by decide),A0 (show ¬(s.size:Int) < (52:Int) % 8 from oF hc45),A0 (show ¬(bt s 1 < zbr ((52:Int) / 16).toNat∨zbs ((52:Int) / 16).toNat < bt s 1) from fun q=>q.elim (oF hg14_4) (oF hc57)),A0 (by decide),A0 (show ¬(bt s 2 < 128∨191 < bt s 2) from fun q=>q.elim (oF hg19_2) (oF hc75)),A0 (by decide),A0 (show ¬(bt s 3 < 128∨191 < bt s 3) from fun q=>q.elim (oF hg24_2) (oF hc98))]
 exact zb9 rfl rfl (.drop1 _ _ _) ⟨rfl,by rw [hd];rfl⟩
theorem zv9 (s:ByteArray) (hx:zao (bt s 0).toNat=4):y9 Tryz.prog 227 [.v (.string s)] [.glob 5 276 x6,.glob 6 279 y7] (fun r h'=>h'= [.glob 5 276 x6,.glob 6 279 y7]∧r= .tup [.v (.int .i32 (x8 s).1),iv (x8 s).2]):=by
 refine z6 Tryz.func227 rfl rfl rfl ?_;refine rn ?_;refine z7 rfl (fun hc16=>?_) (fun hc16=>?_)
 ·refine rn ?_;have hd:x8 s=(65533,0):=by
   unfold x8;rw [A6 (by simp at hc16;omega)]
  exact zb9 rfl rfl (.refl _ _) ⟨rfl,by rw [hd];rfl⟩
 have h1:0 < s.size:=by simp at hc16;omega
 refine rn ?_;refine qq rfl rfl (j4 0 rfl rfl (by omega)) ?_;refine rn ?_;refine qq rfl rfl (x4 rfl rfl (zhh _ _) (zhg _ _)) ?_;refine qq rfl rfl (zab rfl (show _=some (.v (.int .u8 4)) from by rw [zde (zhh s 0) (zhg s 0),hx])) ?_;refine rn ?_;refine z7 rfl (fun hc23=>?_) (fun hc23=>?_)
 ·first|cases hc23|exact absurd hc23 (by decide)|(exfalso;simp_all;done)
 refine rn ?_;refine qq rfl rfl (x4 rfl rfl (by decide) (by decide)) ?_;refine rn ?_;refine z8 rfl (y6 rfl fun b9=>?_);refine rn ?_;refine z7 rfl (fun hc45=>?_) (fun hc45=>?_)
 ·refine rn ?_;have hd:x8 s=(65533,1):=by
   unfold x8;rw [A0 (by omega)];simp only [hx];rw [A0 (by decide),A6 (show (s.size:Int) < (4:Int) % 8 from oT hc45)]
  exact zb9 rfl rfl (.drop1 _ _ _) ⟨rfl,by rw [hd];rfl⟩
 have h2:4≤s.size:=by
  have:¬((s.size:Int) < 4):=oF hc45;omega
 refine rn ?_;refine qq rfl rfl (j4 1 rfl rfl (by omega)) ?_;refine rn ?_;refine x5 (fun hg14_4=>?_) (fun hg14_4=>?_)
 ·refine rn ?_;refine z7 rfl (fun hc57=>?_) (fun hc57=>?_)
  ·refine rn ?_;have hd:x8 s=(65533,1):=by
    unfold x8;rw [A0 (by omega)];simp only [hx];rw [A0 (by decide),A0 (show ¬(s.size:Int) < (4:Int) % 8 from oF hc45),A6 (show bt s 1 < zbr ((4:Int) / 16).toNat∨zbs ((4:Int) / 16).toNat < bt s 1 from by first|exact .inl (oT hg14_4)|exact .inr (oT hc57))]
   exact zb9 rfl rfl (.drop1 _ _ _) ⟨rfl,by rw [hd];rfl⟩
  first|cases hc57|exact absurd hc57 (by decide)|(exfalso;simp_all;done)
 refine rn ?_;refine z7 rfl (fun hc57=>?_) (fun hc57=>?_)
 ·refine rn ?_;have hd:x8 s=(65533,1):=by
   unfold x8;rw [A0 (by omega)];simp only [hx];rw [A0 (by decide),A0 (show ¬(s.size:Int) < (4:Int) % 8 from oF hc45),A6 (show bt s 1 < zbr ((4:Int) / 16).toNat∨zbs ((4:Int) / 16).toNat < bt s 1 from by first|exact .inl (oT hg14_4)|exact .inr (oT hc57))]
  exact zb9 rfl rfl (.drop1 _ _ _) ⟨rfl,by rw [hd];rfl⟩
 refine rn ?_;refine z7 rfl (fun hc59=>?_) (fun hc59=>?_)
 ·first|cases hc59|exact absurd hc59 (by decide)|(exfalso;simp_all;done)
 refine rn ?_;refine qq rfl rfl (j4 2 rfl rfl (by omega)) ?_;refine rn ?_;refine x5 (fun hg19_2=>?_) (fun hg19_2=>?_)
 ·refine rn ?_;refine z7 rfl (fun hc75=>?_) (fun hc75=>?_)
  ·refine rn ?_;have hd:x8 s=(65533,1):=by
    unfold x8;rw [A0 (by omega)];simp only [hx];rw [A0 (by decide),A0 (show ¬(s.size:Int) < (4:Int) % 8 from oF hc45),A0 (show ¬(bt s 1 < zbr ((4:Int) / 16).toNat∨zbs ((4:Int) / 16).toNat < bt s 1) from fun q=>q.elim (oF hg14_4) (oF hc57)),A0 (by decide),A6 (show bt s 2 < 128∨191 < bt s 2 from by first|exact .inl (oT hg19_2)|exact .inr (oT hc75))]
   exact zb9 rfl rfl (.drop1 _ _ _) ⟨rfl,by rw [hd];rfl⟩
  first|cases hc75|exact absurd hc75 (by decide)|(exfalso;simp_all;done)
 refine rn ?_;refine z7 rfl (fun hc75=>?_) (fun hc75=>?_)
 ·refine rn ?_;have hd:x8 s=(65533,1):=by
   unfold x8;rw [A0 (by omega)];simp only [hx];rw [A0 (by decide),A0 (show ¬(s.size:Int) < (4:Int) % 8 from oF hc45),A0 (show ¬(bt s 1 < zbr ((4:Int) / 16).toNat∨zbs ((4:Int) / 16).toNat < bt s 1) from fun q=>q.elim (oF hg14_4) (oF hc57)),A0 (by decide),A6 (show bt s 2 < 128∨191 < bt s 2 from by first|exact .inl (oT hg19_2)|exact .inr (oT hc75))]
  exact zb9 rfl rfl (.drop1 _ _ _) ⟨rfl,by rw [hd];rfl⟩
 refine rn ?_;refine z7 rfl (fun hc77=>?_) (fun hc77=>?_)
 ·first|cases hc77|exact absurd hc77 (by decide)|(exfalso;simp_all;done)
 refine rn ?_;refine qq rfl rfl (j4 3 rfl rfl (by omega)) ?_;refine rn ?_;refine x5 (fun hg24_2=>?_) (fun hg24_2=>?_)
 ·refine rn ?_;refine z7 rfl (fun hc98=>?_) (fun hc98=>?_)
  ·refine rn ?_;have hd:x8 s=(65533,1):=by
    unfold x8;rw [A0 (by omega)];simp only [hx];rw [A0 (by decide),A0 (show ¬(s.size:Int) < (4:Int) % 8 from oF hc45),A0 (show ¬(bt s 1 < zbr ((4:Int) / 16).toNat∨zbs ((4:Int) / 16).toNat < bt s 1) from fun q=>q.elim (oF hg14_4) (oF hc57)),A0 (by decide),A0 (show ¬(bt s 2 < 128∨191 < bt s 2) from fun q=>q.elim (oF hg19_2) (oF hc75)),A0 (by decide),A6 (show bt s 3 < 128∨191 < bt s 3 from by first|exact .inl (oT hg24_2)|exact .inr (oT hc98))]
   exact zb9 rfl rfl (.drop1 _ _ _) ⟨rfl,by rw [hd];rfl⟩
  first|cases hc98|exact absurd hc98 (by decide)|(exfalso;simp_all;done)
 refine rn ?_;refine z7 rfl (fun hc98=>?_) (fun hc98=>?_)
 ·refine rn ?_;have hd:x8 s=(65533,1):=by
   unfold x8;rw [A0 (by omega)];simp only [hx];rw [A0 (by decide),A0 (show ¬(s.size:Int) < (4:Int) % 8 from oF hc45),A0 (show ¬(bt s 1 < zbr ((4:Int) / 16).toNat∨zbs ((4:Int) / 16).toNat < bt s 1) from fun q=>q.elim (oF hg14_4) (oF hc57)),A0 (by decide),A0 (show ¬(bt s 2 < 128∨191 < bt s 2) from fun q=>q.elim (oF hg19_2) (oF hc75)),A0 (by decide),A6 (show bt s 3 < 128∨191 < bt s 3 from by first|exact .inl (oT hg24_2)|exact .inr (oT hc98))]
  exact zb9 rfl rfl (.drop1 _ _ _) ⟨rfl,by rw [hd];rfl⟩
 refine rn ?_;have hd:x8 s=(bI .or .i32 (bI .or .i32 (bI .or .i32 (zdo (bt s 0) 7 18) (zdo (bt s 1) 63 12)) (zdo (bt s 2) 63 6)) (zdo (bt s 3) 63 0),4):=by
  unfold x8;rw [A0 (by omega)];simp only [hx];rw [A0 (by decide),A0 (show ¬(s.size:Int) < (4:Int) % 8 from oF hc45),A0 (show ¬(bt s 1 < zbr ((4:Int) / 16).toNat∨zbs ((4:Int) / 16).toNat < bt s 1) from fun q=>q.elim (oF hg14_4) (oF hc57)),A0 (by decide),A0 (show ¬(bt s 2 < 128∨191 < bt s 2) from fun q=>q.elim (oF hg19_2) (oF hc75)),A0 (by decide),A0 (show ¬(bt s 3 < 128∨191 < bt s 3) from fun q=>q.elim (oF hg24_2) (oF hc98))]
 exact zb9 rfl rfl (.drop1 _ _ _) ⟨rfl,by rw [hd];rfl⟩
theorem ztr (s:ByteArray) (hx:zao (bt s 0).toNat=68):y9 Tryz.prog 227 [.v (.string s)] [.glob 5 276 x6,.glob 6 279 y7] (fun r h'=>h'= [.glob 5 276 x6,.glob 6 279 y7]∧r= .tup [.v (.int .i32 (x8 s).1),iv (x8 s).2]):=by
 refine z6 Tryz.func227 rfl rfl rfl ?_;refine rn ?_;refine z7 rfl (fun hc16=>?_) (fun hc16=>?_)
 ·refine rn ?_;have hd:x8 s=(65533,0):=by
   unfold x8;rw [A6 (by simp at hc16;omega)]
  exact zb9 rfl rfl (.refl _ _) ⟨rfl,by rw [hd];rfl⟩
 have h1:0 < s.size:=by simp at hc16;omega
 refine rn ?_;refine qq rfl rfl (j4 0 rfl rfl (by omega)) ?_;refine rn ?_;refine qq rfl rfl (x4 rfl rfl (zhh _ _) (zhg _ _)) ?_;refine qq rfl rfl (zab rfl (show _=some (.v (.int .u8 68)) from by rw [zde (zhh s 0) (zhg s 0),hx])) ?_;refine rn ?_;refine z7 rfl (fun hc23=>?_) (fun hc23=>?_)
 ·first|cases hc23|exact absurd hc23 (by decide)|(exfalso;simp_all;done)
 refine rn ?_;refine qq rfl rfl (x4 rfl rfl (by decide) (by decide)) ?_;refine rn ?_;refine z8 rfl (y6 rfl fun b9=>?_);refine rn ?_;refine z7 rfl (fun hc45=>?_) (fun hc45=>?_)
 ·refine rn ?_;have hd:x8 s=(65533,1):=by
   unfold x8;rw [A0 (by omega)];simp only [hx];rw [A0 (by decide),A6 (show (s.size:Int) < (68:Int) % 8 from oT hc45)]
  exact zb9 rfl rfl (.drop1 _ _ _) ⟨rfl,by rw [hd];rfl⟩
 have h2:4≤s.size:=by
  have:¬((s.size:Int) < 4):=oF hc45;omega
 refine rn ?_;refine qq rfl rfl (j4 1 rfl rfl (by omega)) ?_;refine rn ?_;refine x5 (fun hg14_4=>?_) (fun hg14_4=>?_)
 ·refine rn ?_;refine z7 rfl (fun hc57=>?_) (fun hc57=>?_)
  ·refine rn ?_;have hd:x8 s=(65533,1):=by
    unfold x8;rw [A0 (by omega)];simp only [hx];rw [A0 (by decide),A0 (show ¬(s.size:Int) < (68:Int) % 8 from oF hc45),A6 (show bt s 1 < zbr ((68:Int) / 16).toNat∨zbs ((68:Int) / 16).toNat < bt s 1 from by first|exact .inl (oT hg14_4)|exact .inr (oT hc57))]
   exact zb9 rfl rfl (.drop1 _ _ _) ⟨rfl,by rw [hd];rfl⟩
  first|cases hc57|exact absurd hc57 (by decide)|(exfalso;simp_all;done)
 refine rn ?_;refine z7 rfl (fun hc57=>?_) (fun hc57=>?_)
 ·refine rn ?_;have hd:x8 s=(65533,1):=by
   unfold x8;rw [A0 (by omega)];simp only [hx];rw [A0 (by decide),A0 (show ¬(s.size:Int) < (68:Int) % 8 from oF hc45),A6 (show bt s 1 < zbr ((68:Int) / 16).toNat∨zbs ((68:Int) / 16).toNat < bt s 1 from by first|exact .inl (oT hg14_4)|exact .inr (oT hc57))]
  exact zb9 rfl rfl (.drop1 _ _ _) ⟨rfl,by rw [hd];rfl⟩
 refine rn ?_;refine z7 rfl (fun hc59=>?_) (fun hc59=>?_)
 ·first|cases hc59|exact absurd hc59 (by decide)|(exfalso;simp_all;done)
 refine rn ?_;refine qq rfl rfl (j4 2 rfl rfl (by omega)) ?_;refine rn ?_;refine x5 (fun hg19_2=>?_) (fun hg19_2=>?_)
 ·refine rn ?_;refine z7 rfl (fun hc75=>?_) (fun hc75=>?_)
  ·refine rn ?_;have hd:x8 s=(65533,1):=by
    unfold x8;rw [A0 (by omega)];simp only [hx];rw [A0 (by decide),A0 (show ¬(s.size:Int) < (68:Int) % 8 from oF hc45),A0 (show ¬(bt s 1 < zbr ((68:Int) / 16).toNat∨zbs ((68:Int) / 16).toNat < bt s 1) from fun q=>q.elim (oF hg14_4) (oF hc57)),A0 (by decide),A6 (show bt s 2 < 128∨191 < bt s 2 from by first|exact .inl (oT hg19_2)|exact .inr (oT hc75))]
   exact zb9 rfl rfl (.drop1 _ _ _) ⟨rfl,by rw [hd];rfl⟩
  first|cases hc75|exact absurd hc75 (by decide)|(exfalso;simp_all;done)
 refine rn ?_;refine z7 rfl (fun hc75=>?_) (fun hc75=>?_)
 ·refine rn ?_;have hd:x8 s=(65533,1):=by
   unfold x8;rw [A0 (by omega)];simp only [hx];rw [A0 (by decide),A0 (show ¬(s.size:Int) < (68:Int) % 8 from oF hc45),A0 (show ¬(bt s 1 < zbr ((68:Int) / 16).toNat∨zbs ((68:Int) / 16).toNat < bt s 1) from fun q=>q.elim (oF hg14_4) (oF hc57)),A0 (by decide),A6 (show bt s 2 < 128∨191 < bt s 2 from by first|exact .inl (oT hg19_2)|exact .inr (oT hc75))]
  exact zb9 rfl rfl (.drop1 _ _ _) ⟨rfl,by rw [hd];rfl⟩
 refine rn ?_;refine z7 rfl (fun hc77=>?_) (fun hc77=>?_)
 ·first|cases hc77|exact absurd hc77 (by decide)|(exfalso;simp_all;done)
 refine rn ?_;refine qq rfl rfl (j4 3 rfl rfl (by omega)) ?_;refine rn ?_;refine x5 (fun hg24_2=>?_) (fun hg24_2=>?_)
 ·refine rn ?_;refine z7 rfl (fun hc98=>?_) (fun hc98=>?_)
  ·refine rn ?_;have hd:x8 s=(65533,1):=by
    unfold x8;rw [A0 (by omega)];simp only [hx];rw [A0 (by decide),A0 (show ¬(s.size:Int) < (68:Int) % 8 from oF hc45),A0 (show ¬(bt s 1 < zbr ((68:Int) / 16).toNat∨zbs ((68:Int) / 16).toNat < bt s 1) from fun q=>q.elim (oF hg14_4) (oF hc57)),A0 (by decide),A0 (show ¬(bt s 2 < 128∨191 < bt s 2) from fun q=>q.elim (oF hg19_2) (oF hc75)),A0 (by decide),A6 (show bt s 3 < 128∨191 < bt s 3 from by first|exact .inl (oT hg24_2)|exact .inr (oT hc98))]
   exact zb9 rfl rfl (.drop1 _ _ _) ⟨rfl,by rw [hd];rfl⟩
  first|cases hc98|exact absurd hc98 (by decide)|(exfalso;simp_all;done)
 refine rn ?_;refine z7 rfl (fun hc98=>?_) (fun hc98=>?_)
 ·refine rn ?_;have hd:x8 s=(65533,1):=by
   unfold x8;rw [A0 (by omega)];simp only [hx];rw [A0 (by decide),A0 (show ¬(s.size:Int) < (68:Int) % 8 from oF hc45),A0 (show ¬(bt s 1 < zbr ((68:Int) / 16).toNat∨zbs ((68:Int) / 16).toNat < bt s 1) from fun q=>q.elim (oF hg14_4) (oF hc57)),A0 (by decide),A0 (show ¬(bt s 2 < 128∨191 < bt s 2) from fun q=>q.elim (oF hg19_2) (oF hc75)),A0 (by decide),A6 (show bt s 3 < 128∨191 < bt s 3 from by first|exact .inl (oT hg24_2)|exact .inr (oT hc98))]
  exact zb9 rfl rfl (.drop1 _ _ _) ⟨rfl,by rw [hd];rfl⟩
 refine rn ?_;have hd:x8 s=(bI .or .i32 (bI .or .i32 (bI .or .i32 (zdo (bt s 0) 7 18) (zdo (bt s 1) 63 12)) (zdo (bt s 2) 63 6)) (zdo (bt s 3) 63 0),4):=by
  unfold x8;rw [A0 (by omega)];simp only [hx];rw [A0 (by decide),A0 (show ¬(s.size:Int) < (68:Int) % 8 from oF hc45),A0 (show ¬(bt s 1 < zbr ((68:Int) / 16).toNat∨zbs ((68:Int) / 16).toNat < bt s 1) from fun q=>q.elim (oF hg14_4) (oF hc57)),A0 (by decide),A0 (show ¬(bt s 2 < 128∨191 < bt s 2) from fun q=>q.elim (oF hg19_2) (oF hc75)),A0 (by decide),A0 (show ¬(bt s 3 < 128∨191 < bt s 3) from fun q=>q.elim (oF hg24_2) (oF hc98))]
 exact zb9 rfl rfl (.drop1 _ _ _) ⟨rfl,by rw [hd];rfl⟩
theorem zpc (s:ByteArray):y9 Tryz.prog 227 [.v (.string s)] [.glob 5 276 x6,.glob 6 279 y7] (fun r h'=>h'= [.glob 5 276 x6,.glob 6 279 y7]∧r= .tup [.v (.int .i32 (x8 s).1),iv (x8 s).2]):=by
 rcases zey (bt s 0).toNat with hx|hx|hx|hx|hx|hx|hx|hx|hx
 ·exact zq3 s hx
 ·exact zq2 s hx
 ·exact zwb s hx
 ·exact ztu s hx
 ·exact zwa s hx
 ·exact ztt s hx
 ·exact zts s hx
 ·exact zv9 s hx
 exact ztr s hx
theorem zz9 (s:ByteArray):y9 Tryz.prog 221 [.v (.string s)] [.glob 5 276 x6,.glob 6 279 y7] (fun r h'=>h'= [.glob 5 276 x6,.glob 6 279 y7]∧r= .tup [.v (.int .i32 (zfq s).1),iv (zfq s).2]):=by
 refine z6 Tryz.func221 rfl rfl rfl ?_;refine rn ?_;refine x5 (fun hg1_2=>?_) (fun hg1_2=>?_)
 ·refine rn ?_;have h1:0 < s.size:=ya8 hg1_2;refine qq rfl rfl (j4 0 rfl rfl (by omega)) ?_;refine rn ?_;refine z7 rfl (fun hc10=>?_) (fun hc10=>?_)
  ·refine rn ?_;refine qq rfl rfl (j4 0 rfl rfl (by omega)) ?_;refine rn ?_;have hd:zfq s=(bt s 0,1):=by
    unfold zfq;exact A6 ⟨ya8 hg1_2,oT hc10⟩
   exact zb9 rfl rfl (.refl _ _) ⟨rfl,by rw [hd];exact A4 (fun c=>AV.tup [.v (.int .i32 c),iv 1]) (yep s 0)⟩
  refine rn ?_;refine qv rfl rfl (y3 rfl rfl (y4.of_fun (zpc s))) ?_;refine rn ?_;have hd:zfq s=x8 s:=by
   unfold zfq;exact A0 fun q=>by first|exact yjz hg1_2 q.1|exact absurd q.2 (oF hc10)
  exact zb9 rfl rfl (.refl _ _) ⟨rfl,by rw [hd];rfl⟩
 refine rn ?_;refine zfd rfl ?_;refine rn ?_;refine qv rfl rfl (y3 rfl rfl (y4.of_fun (zpc s))) ?_;refine rn ?_;have hd:zfq s=x8 s:=by
  unfold zfq;exact A0 fun q=>by first|exact yjz hg1_2 q.1|exact absurd q.2 (oF hc10)
 exact zb9 rfl rfl (.refl _ _) ⟨rfl,by rw [hd];rfl⟩
theorem zq1 {f g:Bool} (l m:List Int) (hl:l.length≤4611686018427387904) (hm:m.length≤4611686018427387904):y9 Tryz.prog 39 [.list f 1 (l.map zag),.list g 1 (m.map zag)] [] (fun r h'=>h'= []∧r=bv (eqF zky l m)):=by
 refine z6 Tryz.func39 rfl rfl rfl ?_;refine rn ?_;refine z7 rfl (fun hc10=>?_) (fun hc10=>?_)
 ·refine rn ?_;have hne:(l.length==m.length)=false:=H1.2 fun q=>by simp [q] at hc10
  exact u6 rfl (.refl _ _) ⟨rfl,by rw [eqF,hne,B0];rfl⟩
 have hlm:l.length=m.length:=by simp at hc10;omega
 refine rn ?_;refine u4 (fun k:Nat=>k≤l.length∧zfu zky l m=zfu zky (l.drop k) (m.drop k)) (fun k=>⟨[(13,iv k),(12,iv (l.map zag).length),(0,.list f 1 (l.map zag)),(1,.list g 1 (m.map zag))],[],[]⟩) (fun k=>l.length - k) 0 ⟨G1 _,by simp⟩
  (w6 (.cons _ _ _ rfl (.cons _ _ _ rfl (.cons _ _ _ rfl (.cons _ _ _ rfl (.nil)))))) ?_
 rintro k ⟨hk,hz⟩;refine rn ?_;refine z7 rfl (fun hc14=>?_) (fun hc14=>?_)
 ·have hk2:k < l.length:=by simpa using hc14
  have hk3:k < m.length:=by omega
  have hrow1:(l.map zag)[k]? =some (zag l[k]):=by simp [hk2]
  have hrow2:(m.map zag)[k]? =some (zag m[k]):=by simp [hk3]
  have hd1:=A8 hk2;have hd2:=A8 hk3;refine rn ?_;refine j5 8 rfl ?_;refine rn ?_;refine z7 rfl (fun hc24=>?_) (fun hc24=>?_)
  ·refine rn ?_;exact u6 rfl (.refl _ _) ⟨rfl,by rw [eqF,hz,hd1,hd2,zfu,show zky l[k] m[k]=false from zj2 hc24,B0,C2];rfl⟩
  refine rn ?_;exact ⟨k+1,⟨by omega,by rw [hz,hd1,hd2,zfu,show zky l[k] m[k]=true from zj3 hc24,B9]⟩,(w6 (.cons _ _ _ rfl (.cons _ _ _ rfl (.cons _ _ _ rfl (.cons _ _ _ rfl (.nil)))))),by omega⟩
 have hk3:k=l.length:=by
  have:l.length≤k:=by simpa using hc14
  omega
 refine rn ?_;exact u6 rfl (.refl _ _) ⟨rfl,by rw [eqF,hz,hk3,E5,zet,hlm,N8];rfl⟩
theorem yi2 {f g:Bool} (l m:List ByteArray) (hl:l.length≤4611686018427387904) (hm:m.length≤4611686018427387904):y9 Tryz.prog 94 [.list f 1 (l.map zaq),.list g 1 (m.map zaq)] [] (fun r h'=>h'= []∧r=bv (eqF zkm l m)):=by
 refine z6 Tryz.func94 rfl rfl rfl ?_;refine rn ?_;refine z7 rfl (fun hc10=>?_) (fun hc10=>?_)
 ·refine rn ?_;have hne:(l.length==m.length)=false:=H1.2 fun q=>by simp [q] at hc10
  exact u6 rfl (.refl _ _) ⟨rfl,by rw [eqF,hne,B0];rfl⟩
 have hlm:l.length=m.length:=by simp at hc10;omega
 refine rn ?_;refine u4 (fun k:Nat=>k≤l.length∧zfu zkm l m=zfu zkm (l.drop k) (m.drop k)) (fun k=>⟨[(13,iv k),(12,iv (l.map zaq).length),(0,.list f 1 (l.map zaq)),(1,.list g 1 (m.map zaq))],[],[]⟩) (fun k=>l.length - k) 0 ⟨G1 _,by simp⟩
  (w6 (.cons _ _ _ rfl (.cons _ _ _ rfl (.cons _ _ _ rfl (.cons _ _ _ rfl (.nil)))))) ?_
 rintro k ⟨hk,hz⟩;refine rn ?_;refine z7 rfl (fun hc14=>?_) (fun hc14=>?_)
 ·have hk2:k < l.length:=by simpa using hc14
  have hk3:k < m.length:=by omega
  have hrow1:(l.map zaq)[k]? =some (zaq l[k]):=by simp [hk2]
  have hrow2:(m.map zaq)[k]? =some (zaq m[k]):=by simp [hk3]
  have hd1:=A8 hk2;have hd2:=A8 hk3;refine rn ?_;refine j5 8 rfl ?_;refine rn ?_;refine z7 rfl (fun hc24=>?_) (fun hc24=>?_)
  ·refine rn ?_;exact u6 rfl (.refl _ _) ⟨rfl,by rw [eqF,hz,hd1,hd2,zfu,show zkm l[k] m[k]=false from zj2 hc24,B0,C2];rfl⟩
  refine rn ?_;exact ⟨k+1,⟨by omega,by rw [hz,hd1,hd2,zfu,show zkm l[k] m[k]=true from zj3 hc24,B9]⟩,(w6 (.cons _ _ _ rfl (.cons _ _ _ rfl (.cons _ _ _ rfl (.cons _ _ _ rfl (.nil)))))),by omega⟩
 have hk3:k=l.length:=by
  have:l.length≤k:=by simpa using hc14
  omega
 refine rn ?_;exact u6 rfl (.refl _ _) ⟨rfl,by rw [eqF,hz,hk3,E5,zet,hlm,N8];rfl⟩
theorem yd8 {f g:Bool} (l m:List Seen) (hl:l.length≤4611686018427387904) (hm:m.length≤4611686018427387904):y9 Tryz.prog 129 [.list f 3 (l.map zav),.list g 3 (m.map zav)] [] (fun r h'=>h'= []∧r=bv (eqF zgj l m)):=by
 refine z6 Tryz.func129 rfl rfl rfl ?_;refine rn ?_;refine z7 rfl (fun hc10=>?_) (fun hc10=>?_)
 ·refine rn ?_;have hne:(l.length==m.length)=false:=H1.2 fun q=>by simp [q] at hc10
  exact u6 rfl (.refl _ _) ⟨rfl,by rw [eqF,hne,B0];rfl⟩
 have hlm:l.length=m.length:=by simp at hc10;omega
 refine rn ?_;refine u4 (fun k:Nat=>k≤l.length∧zfu zgj l m=zfu zgj (l.drop k) (m.drop k)) (fun k=>⟨[(13,iv k),(12,iv (l.map zav).length),(0,.list f 3 (l.map zav)),(1,.list g 3 (m.map zav))],[],[]⟩) (fun k=>l.length - k) 0 ⟨G1 _,by simp⟩
  (w6 (.cons _ _ _ rfl (.cons _ _ _ rfl (.cons _ _ _ rfl (.cons _ _ _ rfl (.nil)))))) ?_
 rintro k ⟨hk,hz⟩;refine rn ?_;refine z7 rfl (fun hc14=>?_) (fun hc14=>?_)
 ·have hk2:k < l.length:=by simpa using hc14
  have hk3:k < m.length:=by omega
  have hrow1:(l.map zav)[k]? =some (zav l[k]):=by simp [hk2]
  have hrow2:(m.map zav)[k]? =some (zav m[k]):=by simp [hk3]
  have hd1:=A8 hk2;have hd2:=A8 hk3;refine rn ?_;refine j5 8 rfl ?_;refine rn ?_;refine z7 rfl (fun hc24=>?_) (fun hc24=>?_)
  ·refine rn ?_;exact u6 rfl (.refl _ _) ⟨rfl,by rw [eqF,hz,hd1,hd2,zfu,show zgj l[k] m[k]=false from zj2 hc24,B0,C2];rfl⟩
  refine rn ?_;exact ⟨k+1,⟨by omega,by rw [hz,hd1,hd2,zfu,show zgj l[k] m[k]=true from zj3 hc24,B9]⟩,(w6 (.cons _ _ _ rfl (.cons _ _ _ rfl (.cons _ _ _ rfl (.cons _ _ _ rfl (.nil)))))),by omega⟩
 have hk3:k=l.length:=by
  have:l.length≤k:=by simpa using hc14
  omega
 refine rn ?_;exact u6 rfl (.refl _ _) ⟨rfl,by rw [eqF,hz,hk3,E5,zet,hlm,N8];rfl⟩
theorem yi1 {f g:Bool} (l m:List Wan) (hl:l.length≤4611686018427387904) (hm:m.length≤4611686018427387904):y9 Tryz.prog 99 [.list f 2 (l.map zar),.list g 2 (m.map zar)] [] (fun r h'=>h'= []∧r=bv (eqF zr1 l m)):=by
 refine z6 Tryz.func99 rfl rfl rfl ?_;refine rn ?_;refine z7 rfl (fun hc10=>?_) (fun hc10=>?_)
 ·refine rn ?_;have hne:(l.length==m.length)=false:=H1.2 fun q=>by simp [q] at hc10
  exact u6 rfl (.refl _ _) ⟨rfl,by rw [eqF,hne,B0];rfl⟩
 have hlm:l.length=m.length:=by simp at hc10;omega
 refine rn ?_;refine u4 (fun k:Nat=>k≤l.length∧zfu zr1 l m=zfu zr1 (l.drop k) (m.drop k)) (fun k=>⟨[(13,iv k),(12,iv (l.map zar).length),(0,.list f 2 (l.map zar)),(1,.list g 2 (m.map zar))],[],[]⟩) (fun k=>l.length - k) 0 ⟨G1 _,by simp⟩
  (w6 (.cons _ _ _ rfl (.cons _ _ _ rfl (.cons _ _ _ rfl (.cons _ _ _ rfl (.nil)))))) ?_
 rintro k ⟨hk,hz⟩;refine rn ?_;refine z7 rfl (fun hc14=>?_) (fun hc14=>?_)
 ·have hk2:k < l.length:=by simpa using hc14
  have hk3:k < m.length:=by omega
  have hrow1:(l.map zar)[k]? =some (zar l[k]):=by simp [hk2]
  have hrow2:(m.map zar)[k]? =some (zar m[k]):=by simp [hk3]
  have hd1:=A8 hk2;have hd2:=A8 hk3;refine rn ?_;refine j5 8 rfl ?_;refine rn ?_;refine z7 rfl (fun hc24=>?_) (fun hc24=>?_)
  ·refine rn ?_;exact u6 rfl (.refl _ _) ⟨rfl,by rw [eqF,hz,hd1,hd2,zfu,show zr1 l[k] m[k]=false from zj2 hc24,B0,C2];rfl⟩
  refine rn ?_;exact ⟨k+1,⟨by omega,by rw [hz,hd1,hd2,zfu,show zr1 l[k] m[k]=true from zj3 hc24,B9]⟩,(w6 (.cons _ _ _ rfl (.cons _ _ _ rfl (.cons _ _ _ rfl (.cons _ _ _ rfl (.nil)))))),by omega⟩
 have hk3:k=l.length:=by
  have:l.length≤k:=by simpa using hc14
  omega
 refine rn ?_;exact u6 rfl (.refl _ _) ⟨rfl,by rw [eqF,hz,hk3,E5,zet,hlm,N8];rfl⟩
end Go.Proofs
