/- The walk of RwJustified. Conditions: none. -/
import Derived.Test.YtfmcbdjnmlcacaaGreatDoorRJuK
set_option maxHeartbeats 4000000
set_option linter.unusedSectionVars false
set_option linter.unusedSimpArgs false
set_option linter.unusedVariables false
set_option maxRecDepth 10000
namespace Go.Proofs
open Go Go.Ab
attribute [local irreducible] QR QV OE zct aw zdf zch zbm za3 thn zfl zd0 jch zfc
open Go.H
def ypp (c:Conf):Conf:=⟨c.f,c.t,c.k,c.a,IntKind.i64.wrap (c.b+1),c.o,c.p⟩
def two (c d:Conf) (k:Nat):Conf:=if k=0 then c else d
theorem ypy {c d:Conf} {k:Nat} (hk:k < 2):((u0 c++u0 d).drop (k * 7)).take 7=u0 (two c d k):=by
 match k,hk with
 |0,_=>rfl
 |1,_=>rfl
theorem ydm (n:Nat) (hn:n≤3000000000000):y8 Tryz.prog 106 [.v (.slice none 0 0),iv n] [] (fun r h'=>∃s:SV,h'= [.row s.v 7 41 []]∧r= .v s.v):=by
 refine z6 Tryz.func106 rfl rfl rfl ?_
 refine rn ?_;refine z7 rfl (fun hc6=> ?_) (fun hc6=> ?_)
 ·exact absurd hc6 (by simp)
 ·refine zan ?_;refine zab ?_;refine w8 ?_;refine w8 (y3 ?_)
  refine zhg (zam 7 41) ?_
  refine q1 ?_;refine q1 ?_;refine qq rfl rfl (zpd rfl) ?_
  refine q1 ?_;refine q1 ?_;refine qq rfl rfl (zcb rfl rfl rfl (by have e:([]:List (List AV)).length=0:=rfl;omega)) ?_
  refine qq rfl rfl (zhx (zcb rfl rfl rfl (by have e:([]:List (List AV)).length=0:=rfl;omega)) (show AV.v (.int .i64 ((n:Int) - (0 - (([]:List (List AV)).length:Int))))=iv n by simp)) ?_
  refine rn ?_;refine z7 rfl (fun hc16=> ?_) (fun hc16=> ?_)
  ·refine y3 ?_;refine zhg (zam 7 41) ?_
   refine q1 ?_;refine q1 ?_;refine qq rfl rfl (zpd rfl) ?_
   refine qq rfl rfl (zsu rfl rfl) ?_
   refine rn ?_;refine z8 rfl (zl8 (n:=n) rfl rfl (by simp at hc16;omega) (by omega) (by omega) rfl (hk:=fun s22=> ?_))
   refine j3 s22 fun sv hsv=> ?_
   subst hsv
   refine q1 ?_;refine q1 ?_;refine qq rfl rfl (yb7 (k:=0) rfl rfl (Nat.zero_le _)) ?_
   refine zz7 sv.v 0 (Nat.zero_le _) ?_
   refine j3 (zg2 sv.v 0 0 7) fun s1 hs1=> ?_
   rw [hs1]
   refine rn ?_;first|exact k8 rfl (.trans (.perm (pt1 _ _ _) _) (.drop [_] _ _)) ⟨s1,rfl,rfl⟩|exact k8 rfl (.refl _ _) ⟨⟨none,0,0⟩,rfl,rfl⟩
  ·refine rn ?_;first|exact k8 rfl (.trans (.perm (pt1 _ _ _) _) (.drop [_] _ _)) ⟨s1,rfl,rfl⟩|exact k8 rfl (.refl _ _) ⟨⟨none,0,0⟩,rfl,rfl⟩
theorem zv5 {f:Bool} (ll:List (List Conf)) (hl:ll.flatten.length≤3000000000000) (hn:ll.length≤3000000000000):y8 Tryz.prog 45 [.list f 1 (zkb ll)] [] (fun r h'=>∃s:SV,h'= [.row s.v 7 41 (ll.flatten.map u0)]∧r= .v s.v):=by
 refine z6 Tryz.func45 rfl rfl rfl ?_
 refine rn ?_;refine zcl ll.length (fun k=>True) (fun k=>⟨[(11,iv k),(3,iv ((ll.take (k)).flatten.length:Nat)),(0,.list f 1 (zkb ll)),(9,.list f 1 (zkb ll)),(10,iv (zkb ll).length)],[],[]⟩) trivial es ?_
 intro k lk _
 refine rn ?_;refine z7 rfl (fun hc12=> ?_) (fun hc12=> ?_)
 ·have hk:k < ll.length:=by have q:=oT hc12;simp at q;omega
  have rk:(zkb ll)[k]? =some [.list false 7 (ll[k].map u0)]:=by rw [List.getElem?_map,List.getElem?_eq_getElem hk];rfl
  have hb:=zra ll k
  have hb1:=zra ll (k+1)
  have hs:=ysy hk
  refine zan ?_;refine zab ?_;refine w8 ?_;refine zb4 ?_;refine w8 (y3 ?_)
  refine qq rfl rfl (zca rfl rfl rk) ?_
  refine q1 ?_;refine q1 ?_;refine u6 (zab ?_)
  refine w8 (y3 ?_)
  refine q1 ?_;refine q1 ?_;refine q1 ?_;refine qq rfl rfl (zhx (zcb rfl rfl rfl (by simp only [oM];omega)) (show AV.v (.int .i64 (((ll.take k).flatten.length:Nat)+((ll[k].map u0).length:Nat)))=iv ((ll.take (k+1)).flatten.length:Nat) by rw [oM,←hs];rfl)) ?_
  refine rn ?_;refine z7 rfl (fun hc20=> ?_) (fun hc20=> ?_)
  ·exfalso
   have q:=oT hc20
   omega
  ·refine rn ?_;exact ⟨hk,trivial,eA⟩
 ·have qk:k=ll.length:=by have q:=oF hc12;simp at q;omega
  refine rn ?_;refine z8 rfl (v8 rfl rfl (y0.of_fun (ydm _ (by rw [qk,List.take_length];exact hl))) rfl ?_)
  rintro _ _ ⟨s,rfl,rfl⟩
  refine rn ?_;refine zem ll.length (fun k s=>⟨[(27,iv k),(6,.v s.v),(25,.list f 1 (zkb ll)),(26,iv (zkb ll).length)],.row s.v 7 41 ((ll.take k).flatten.map u0):: [],[]⟩) s es ?_
  intro k s lk
  refine rn ?_;refine z7 rfl (fun hc28=> ?_) (fun hc28=> ?_)
  ·have hk:k < ll.length:=by have q:=oT hc28;simp at q;omega
   have rk:(zkb ll)[k]? =some [.list false 7 (ll[k].map u0)]:=by rw [List.getElem?_map,List.getElem?_eq_getElem hk];rfl
   have hb:=zra ll k
   have hb1:=zra ll (k+1)
   have hs:=ysy hk
   refine zan ?_;refine zab ?_;refine w8 ?_;refine zb4 ?_;refine w8 (y3 ?_)
   refine qq rfl rfl (zca rfl rfl rk) ?_
   refine rn ?_;refine z8 rfl (zou rfl rfl (by simp only [oM];omega) rfl (fun s33=> ?_) (za8 _) (by simp only [oM];omega))
   refine j3 s33 fun sv hsv=> ?_
   subst hsv
   refine rn ?_;exact ⟨hk,sv,by rw [yv7 hk,List.map_append];exact eA⟩
  ·have qk:k=ll.length:=by have q:=oF hc28;simp at q;omega
   refine rn ?_;exact k8 rfl (.refl _ _) ⟨s,by rw [qk,List.take_length],rfl⟩
theorem yei {f:Bool} (ll:List (List Conf)) (hl:ll.flatten.length≤3000000000000) (hn:ll.length≤3000000000000):y8 Tryz.prog 45 [.list f 1 (zkb ll)] [] (fun r h'=>h'= []∧r=zej ll.flatten):=(zv5 ll hl hn).ventR (by rintro _ _ ⟨s,rfl,rfl⟩;exact ⟨_,_,zcw,rfl,rfl⟩)
theorem zuw (x:Hist) (zs:List Conf) (lb:Big x) (hz:zs.length≤2513169434916) (rO:Nat) (oK:Obj) (hK:KO oK):y8 Tryz.prog 8 [.agg (w6 x),zej zs] (.glob 2 156 y5:: .glob 4 305 y7:: .glob 5 308 y2:: .glob 3 246 u5:: .glob 1 175 zag:: .glob 0 171 [mpv rO]:: .obj rO oK:: []) (fun r h'=>h'= .glob 2 156 y5:: .glob 4 305 y7:: .glob 5 308 y2:: .glob 3 246 u5:: .glob 1 175 zag:: .glob 0 171 [mpv rO]:: .obj rO oK:: []∧r=bv true):=by
 refine z6 Tryz.func8 rfl rfl rfl ?_
 refine rn ?_;refine z8 rfl (w9 rfl rfl rfl fun b2=> ?_)
 refine rn ?_;refine qv rfl rfl (y1 rfl rfl (y0.qt (y0.of_fun (yld rO oK hK)) ((pt1 _ _ _).trans (.cons _ ((pt1 _ _ _).trans (.cons _ ((pt1 _ _ _).trans (.cons _ ((pt1 _ _ _).trans (.cons _ ((pt1 _ _ _).trans (.cons _ ((pt1 _ _ _).trans (.cons _ (pt1 _ _ _))))))))))))))) ?_
 refine rn ?_;refine z7 rfl (fun hc13=> ?_) (fun hc13=> ?_)
 ·exact absurd hc13 (by decide)
 ·refine rn ?_;refine qv rfl rfl (y1 rfl rfl (j4 (yus x lb) (Sbs.refl _))) ?_
  refine z8 rfl (y4 rfl fun b5=> ?_)
  refine rn ?_;refine qv rfl rfl (y1 rfl rfl (j4 (zy5 (za1 x) (zpg lb.lim)) (Sbs.refl _))) ?_
  refine rn0 ?_;refine zwd (fun L:List Conf=>L.length≤3000000000000) (fun L=>⟨[(1,zej L),(5,pZ b5),(6,bv (u9 (za1 x)==0))],.box b5 28 (w6 (za1 x)):: .box b2 28 (w6 x):: .glob 2 156 y5:: .glob 4 305 y7:: .glob 5 308 y2:: .glob 3 246 u5:: .glob 1 175 zag:: .glob 0 171 [mpv rO]:: .obj rO oK:: [],[]⟩) ?_ ?_
  ·refine rn ?_;refine z7 rfl (fun hc19=> ?_) (fun hc19=> ?_)
   ·have hcc:u9 (za1 x)=0:=eq_of_beq hc19
    have hE3:=zj9 hcc 3 (za1 x).evs.length (Nat.le_refl _)
    have hE4:=zj9 hcc 4 (za1 x).evs.length (Nat.le_refl _)
    have h60:=zkw x
    refine k9 5 rfl ?_
    refine rn ?_;refine dv rfl rfl (by exact y1 rfl rfl (y0.pure (R:=fun r=>r=zej (zdm (za1 x) 3 (za1 x).evs.length)) (y0.of_fun (zso (za1 x) ((zez hcc).mono (by decide):Lim 1000000 (za1 x)) hcc (zkw x) 3)))) ?_
    refine rn ?_;refine dv rfl rfl (by exact y1 rfl rfl (y0.pure (R:=fun r=>r=zej (zdm (za1 x) 4 (za1 x).evs.length)) (y0.of_fun (zso (za1 x) ((zez hcc).mono (by decide):Lim 1000000 (za1 x)) hcc (zkw x) 4)))) ?_
    refine rn ?_;refine qv rfl rfl (q6 rfl rfl) ?_
    refine qv rfl rfl (y1 rfl rfl (y0.pure (R:=fun r=>r=zej [(zdm (za1 x) 3 (za1 x).evs.length),(zdm (za1 x) 4 (za1 x).evs.length),zs].flatten) (y0.of_fun (yei [(zdm (za1 x) 3 (za1 x).evs.length),(zdm (za1 x) 4 (za1 x).evs.length),zs] (by simp only [List.flatten_cons,List.flatten_nil,List.length_append,List.length_nil];omega) (by show 3≤_;decide))))) ?_
    refine rn ?_;first|exact ⟨[(zdm (za1 x) 3 (za1 x).evs.length),(zdm (za1 x) 4 (za1 x).evs.length),zs].flatten,by simp only [List.flatten_cons,List.flatten_nil,List.length_append,List.length_nil];omega,eA⟩|exact ⟨zs,by omega,eA⟩
   ·refine rn ?_;first|exact ⟨[(zdm (za1 x) 3 (za1 x).evs.length),(zdm (za1 x) 4 (za1 x).evs.length),zs].flatten,by simp only [List.flatten_cons,List.flatten_nil,List.length_append,List.length_nil];omega,eA⟩|exact ⟨zs,by omega,eA⟩
  ·intro L hL
   refine rn ?_;refine zcu (L.length) (fun j:Nat=>True) (fun j=> [(29,iv j)]) [(5,_),(6,_),(27,_),(28,_)] trivial ?_
   intro j lj _
   refine rn ?_;refine z7 rfl (fun hc30=> ?_) (fun hc30=> ?_)
   ·have hj:=za4 hc30
    have rj:=zaj (f:=u0) hj
    refine rn ?_;refine z8 rfl (y4 rfl fun b8=> ?_)
    refine rn ?_;refine z7 rfl (fun hc35=> ?_) (fun hc35=> ?_)
    ·refine rn ?_;first|(refine rq 2 ?_;exact ⟨rfl,rfl⟩)|(refine rq 3 ?_;exact ⟨rfl,rfl⟩)|(refine rq 4 ?_;exact ⟨rfl,rfl⟩)
    ·refine rn ?_;refine z8 rfl (y4 rfl fun b9=> ?_)
     first|refine z8 rfl (j9 rfl rfl rfl ?_)|refine z8 rfl (zao rfl rfl rfl rfl (Nat.le_of_ble_eq_true rfl) ?_)
     refine u6 (zab ?_)
     refine w8 (y3 ?_)
     refine q1 ?_;refine q1 ?_;refine qq rfl rfl (ym6 rfl rfl) ?_
     refine rn0 ?_;refine w8 ?_;show aw _ _ _ _ _ ⟨_,.box b9 41 (u0 (ypp L[j]))::_,_⟩
     refine y3 ?_;refine q1 ?_;refine q1 ?_;refine qq rfl rfl (zcy (out:=u0 L[j]++u0 (ypp L[j])) rfl (by rfl)) ?_
     refine rn ?_;refine zcu (2) (fun k:Nat=>True) (fun k=> [(44,iv k)]) [(5,_),(6,_),(27,_),(28,_),(29,_),(43,_)] trivial ?_
     intro k lk _
     refine rn ?_;refine z7 rfl (fun hc45=> ?_) (fun hc45=> ?_)
     ·have hk:k < 2:=by have q:=oT hc45;omega
      refine zan ?_;refine zab ?_;refine w8 ?_;refine zb4 ?_;refine w8 (y3 ?_)
      refine qq rfl rfl (zl6 (out:=u0 (two L[j] (ypp L[j]) k)) rfl rfl hk (by show k * 7+7≤14;omega) (ypy hk)) ?_
      refine z8 rfl (y4 rfl fun b11=> ?_)
      refine rn ?_;refine qv rfl rfl (y1 rfl rfl (y0.qt (y0.of_fun (yj1 (za1 x) (zpg lb.lim) rO oK hK (two L[j] (ypp L[j]) k))) ((pt5 _ _ _ _ _ _ _).trans (.cons _ ((pt5 _ _ _ _ _ _ _).trans (.cons _ ((pt5 _ _ _ _ _ _ _).trans (.cons _ ((pt5 _ _ _ _ _ _ _).trans (.cons _ ((pt5 _ _ _ _ _ _ _).trans (.cons _ ((pt5 _ _ _ _ _ _ _).trans (.cons _ (pt5 _ _ _ _ _ _ _))))))))))))))) ?_
      refine rn ?_;refine w7 (fun hg16_4=> ?_) (fun hg16_4=> ?_)
      ·refine rn ?_;refine qv rfl rfl (y1 rfl rfl (y0.pure (R:=fun r=>r=bv (rwJ (za1 x) (two L[j] (ypp L[j]) k))) (y0.of_fun (yby (za1 x) ((zez (eq_of_beq hg16_4)).mono (by decide):Lim 1000000 (za1 x)) (eq_of_beq hg16_4) (two L[j] (ypp L[j]) k))))) ?_
       refine rn ?_;refine z7 rfl (fun hc56=> ?_) (fun hc56=> ?_)
       ·exact absurd hc56 (by first|(rw [zjr (ybi (by simpa using hg16_4))];decide)|simp)
       ·refine rn ?_;exact ⟨hk,trivial,eA⟩
      ·refine rn ?_;refine z7 rfl (fun hc56=> ?_) (fun hc56=> ?_)
       ·exact absurd hc56 (by first|(rw [zjr (ybi (by simpa using hg16_4))];decide)|simp)
       ·refine rn ?_;exact ⟨hk,trivial,eA⟩
     ·refine rn ?_;exact ⟨hj,trivial,eA⟩
   ·have qj:=za5 hc30 lj
    refine rn ?_;first|(refine rq 2 ?_;exact ⟨rfl,rfl⟩)|(refine rq 3 ?_;exact ⟨rfl,rfl⟩)|(refine rq 4 ?_;exact ⟨rfl,rfl⟩)
end Go.Proofs
