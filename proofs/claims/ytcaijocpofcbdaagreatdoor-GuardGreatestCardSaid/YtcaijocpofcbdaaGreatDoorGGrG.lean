/- The walk of symMergeCmpFunc. Conditions: none. -/
import Derived.Test.YtcaijocpofcbdaaGreatDoorGGrF
set_option maxHeartbeats 4000000
set_option linter.unusedSectionVars false
set_option linter.unusedSimpArgs false
set_option linter.unusedVariables false
set_option maxRecDepth 10000
namespace Go.Proofs
open Go Go.Ab
attribute [local irreducible] QR QV OE zcc aw zco za8 zav zah thn zez zdl jch zeb
open Go.H
theorem yn3 (s:SV) (P R Z:List zi3) (x:zi3) (a m b:Nat) (cv:AV) (hc:ydn cv) (hP:P.length=a) (hm:a+ [x].length=m) (hb:m+R.length=b) (hR:R.Pairwise (LeC zcb)) (hl:(P++([x]++(R++Z))).length≤1000000000):x3 Tryz.prog 216 [.v s.v,iv (a:Int),iv (m:Int),iv (b:Int),cv] [.row s.v 3 178 ((P++([x]++(R++Z))).map zby)] (fun r h'=>h'= [.row s.v 3 178 ((P++(mrg zcb [x] R++Z)).map zby)]∧r= .tup []):=by
 refine z6 Tryz.func216 rfl rfl rfl ?_
 simp only [List.length_append] at hl
 refine x9 ?_;refine x9 (y5 ?_)
 refine q1 ?_;refine q1 ?_;refine q1 ?_;refine qq rfl rfl (zed (c:=true) rfl rfl (congrArg some (beq_iff_eq.2 (by simp at hm;omega)))) ?_
 refine rn ?_;refine z8 rfl (fun hc28=> ?_) (fun hc28=> ?_)
 ·refine rn ?_;refine zde (fun z:Nat×Nat=>z.1≤z.2∧z.2≤R.length∧(1≤z.1→zcb (R.getD (z.1 - 1) zdf) x < 0)∧(z.2 < R.length→¬zcb (R.getD z.2 zdf) x < 0)) (fun z=>⟨[(10,iv ((m+z.1:Nat):Int)),(11,iv ((m+z.2:Nat):Int)),(0,.v s.v),(1,iv (a:Int)),(2,iv (m:Int)),(3,iv (b:Int)),(4,cv)],.row s.v 3 178 ((P++([x]++(R++Z))).map zby):: [],[]⟩) (fun z=>z.2 - z.1) (0,R.length) ⟨Nat.zero_le _,Nat.le_refl _,fun h=>absurd h (by simp),fun h=>absurd h (by simp)⟩ (by simp only [Nat.add_zero,hb];exact es) ?_
  rintro ⟨u,v⟩ ⟨huv0,hu0,h1,h2⟩
  simp only at huv0 hu0 h1 h2
  show aw _ _ _ _ _ ⟨[(10,iv ((m+u:Nat):Int)),(11,iv ((m+v:Nat):Int)),(0,.v s.v),(1,iv (a:Int)),(2,iv (m:Int)),(3,iv (b:Int)),(4,cv)],.row s.v 3 178 ((P++([x]++(R++Z))).map zby):: [],[]⟩
  refine rn ?_;refine z8 rfl (fun hc33=> ?_) (fun hc33=> ?_)
  ·have huv:u < v:=by have q:((m+u:Nat):Int) < ((m+v:Nat):Int):=oT hc33;omega
   refine zab ?_;refine j8 ?_;refine zad ?_;refine x9 (y5 ?_)
   refine q1 ?_;refine q1 ?_;refine qq rfl rfl (za9 (k6 rfl rfl rfl (by omega)) (show iv _=iv (((m+u)+(m+v):Nat):Int) from congrArg iv (by omega))) ?_
   refine qq rfl rfl (zaz (m:=(((m+u)+(m+v):Nat):Int)) rfl (zhb (by omega))) ?_
   refine qq rfl rfl (ze5 (c:=((((m+u)+(m+v)) / 2:Nat):Int)) rfl rfl (zi9 (by omega)) (by decide)) ?_
   refine qq rfl rfl (zaz (m:=((((m+u)+(m+v)) / 2:Nat):Int)) rfl (zho (by omega))) ?_
   refine rn0 ?_;refine x9 ?_;rw [show (m+u+(m+v)) / 2=m+((u+v) / 2) by omega]
   refine j5 9 rfl ?_
   refine dq rfl rfl qrA ?_;refine dq rfl rfl qrA ?_;refine dq rfl rfl qrA ?_;refine dq rfl rfl (w8 (k:=(m+((u+v) / 2))) rfl rfl (by rw [oM];exact (zdv (yg7 (L:= [x]) hP hm zdf (by omega) (by omega))))) ?_
   refine dq rfl rfl (u5 (row:=zby (R.getD (m+((u+v) / 2) - m) zdf)) rfl (zb0 (yg7 (L:= [x]) hP hm zdf (by omega) (by omega))) rfl) ?_
   refine dq rfl rfl qrA ?_;refine dq rfl rfl qrA ?_;refine dq rfl rfl (w8 (k:=a) rfl rfl (by rw [oM];exact (zdv (yg8 (L:= [x]) (R:=R) (Z:=Z) hP zdf (Nat.le_refl a) (by simp))))) ?_
   refine dq rfl rfl (u5 (row:=zby ([x].getD (a - a) zdf)) rfl (zb0 (yg8 (L:= [x]) (R:=R) (Z:=Z) hP zdf (Nat.le_refl a) (by simp))) rfl) ?_
   refine rn ?_;refine qv rfl rfl (y6 rfl rfl (y3.pure (R:=fun r=>r=iv (zcb (R.getD (m+((u+v) / 2) - m) zdf) ([x].getD (a - a) zdf))) (hc (R.getD (m+((u+v) / 2) - m) zdf) ([x].getD (a - a) zdf)))) ?_
   refine rn ?_;refine z8 rfl (fun hc50=> ?_) (fun hc50=> ?_)
   ·have hlt:zcb (R.getD (m+((u+v) / 2) - m) zdf) ([x].getD (a - a) zdf) < 0:=oT hc50
    rw [show m+((u+v) / 2) - m=((u+v) / 2) by omega,show [x].getD (a - a) zdf=x by rw [Nat.sub_self];rfl] at hlt
    refine y5 ?_;refine q1 ?_;refine qq rfl rfl (za9 (k6 rfl rfl rfl (by omega)) (show iv _=iv ((m+(((u+v) / 2)+1):Nat):Int) from congrArg iv (by omega))) ?_
    refine rn ?_;exact ⟨(((u+v) / 2)+1,v),⟨by simp only;omega,hu0,fun _=>by simp only;rw [Nat.add_sub_cancel];exact hlt,h2⟩,eA,by simp only;omega⟩
   ·have hlt:¬zcb (R.getD (m+((u+v) / 2) - m) zdf) ([x].getD (a - a) zdf) < 0:=oF hc50
    rw [show m+((u+v) / 2) - m=((u+v) / 2) by omega,show [x].getD (a - a) zdf=x by rw [Nat.sub_self];rfl] at hlt
    refine rn ?_;exact ⟨(u,((u+v) / 2)),⟨by simp only;omega,by simp only;omega,h1,fun _=>hlt⟩,eA,by simp only;omega⟩
  ·have huv:u=v:=by have q:¬((m+u:Nat):Int) < ((m+v:Nat):Int):=oF hc33;omega
   subst huv
   refine rn ?_;have hu:u≤R.length:=hu0
   refine za5 u (fun _=>True) (fun q=>⟨[(13,iv ((a+q:Nat):Int)),(10,iv ((m+u:Nat):Int)),(0,.v s.v),(1,iv (a:Int)),(2,iv (m:Int)),(3,iv (b:Int)),(4,cv)],.row s.v 3 178 ((P++(R.take q++x::(R.drop q++Z))).map zby):: [],[]⟩) trivial es ?_
   intro q lq _
   refine x9 ?_;refine x9 (y5 ?_)
   refine q1 ?_;refine q1 ?_;refine qq rfl rfl (za9 (k6 rfl rfl rfl (by omega)) (show iv _=iv ((a+u:Nat):Int) from congrArg iv (by simp at hm;omega))) ?_
   refine rn ?_;refine z8 rfl (fun hc58=> ?_) (fun hc58=> ?_)
   ·have hq:q < u:=by have q0:((a+q:Nat):Int) < ((a+u:Nat):Int):=oT hc58;omega
    have hx:=yjp (S:=R) (Z:=Z) (x:=x) hP (Nat.le_of_lt (Nat.lt_of_lt_of_le hq hu))
    have hy:=yom (S:=R) (Z:=Z) (x:=x) hP (Nat.lt_of_lt_of_le hq hu) zdf
    obtain ⟨v2,hv2⟩:∃v,R.getD q zdf=v:=⟨_,rfl⟩
    rw [hv2] at hy
    have hxy:a+q≠a+q+1:=by omega
    refine zab ?_;refine rn0 ?_;refine x9 ?_;refine zad ?_;refine zju 16 [15] [] [8,9,12,13,14] (fun he=>True) rfl rfl rfl trivial ?_
    refine jq rfl (fun he hC=>by replace hC:=hC.2;exact qrA) ?_
    refine jq rfl (fun he hC=>by replace hC:=hC.2;exact qrA) ?_
    refine jq rfl (fun he hC=>by replace hC:=hC.2;exact qrA) ?_
    refine jq rfl (fun he hC=>by replace hC:=hC.2;exact qrA) ?_
    refine jq rfl (fun he hC=>by replace hC:=hC.2;exact za9 (k6 rfl rfl rfl (by omega)) (show iv _=iv ((a+q+1:Nat):Int) from congrArg iv (by omega))) ?_
    refine jq rfl (fun he hC=>by replace hC:=hC.2;exact qrA) ?_
    refine jq rfl (fun he hC=>by replace hC:=hC.2;exact qrA) ?_
    refine jq rfl (fun he hC=>by replace hC:=hC.2;exact za9 (k6 rfl rfl rfl (by omega)) (show iv _=iv ((a+q+1:Nat):Int) from congrArg iv (by omega))) ?_
    refine jq rfl (fun he hC=>by obtain rfl:=hC.1 rfl;exact w8 (k:=(a+q+1)) rfl rfl (by rw [oM];exact (zdv hy))) ?_
    refine jq rfl (fun he hC=>by obtain rfl:=hC.1 rfl;exact u5 (row:=zby v2) rfl (zb0 hy) rfl) ?_
    refine jq rfl (fun he hC=>by replace hC:=hC.2;exact qrA) ?_
    refine jq rfl (fun he hC=>by replace hC:=hC.2;exact qrA) ?_
    refine jq rfl (fun he hC=>by obtain rfl:=hC.1 rfl;exact w8 (k:=(a+q)) rfl rfl (by rw [oM];exact (zdv hx))) ?_
    refine jq rfl (fun he hC=>by obtain rfl:=hC.1 rfl;exact u5 (row:=zby x) rfl (zb0 hx) rfl) ?_
    refine jq rfl (fun he hC=>by obtain rfl:=hC.1 rfl;exact w8 (k:=(a+q)) rfl rfl (by rw [oM];exact (zdv hx))) ?_
    refine je rfl ?_;refine ya9 ?_;refine jce rfl fun u=> ?_
    refine zae (k:=(a+q)) rfl rfl rfl (zb0 hx) rfl (Nat.le_of_ble_eq_true rfl) ⟨.any,_,rfl,trivial,?_⟩
    refine jcn ?_;refine ln ?_;refine qq rfl rfl (w8 (k:=(a+q+1)) rfl rfl (by rw [List.length_set,oM];exact zdv hy)) ?_
    refine z7 rfl (zae (k:=(a+q+1)) rfl rfl rfl (row:=zby v2) (by rw [List.getElem?_set_ne hxy];exact zb0 hy) rfl (Nat.le_of_ble_eq_true rfl) ?_)
    have hsw:=zja (f:=zby) hx hy
    refine u3 ?_;refine zkk ?_;refine j8 ?_;refine y5 ?_;refine q1 ?_;refine qq rfl rfl (za9 (k6 rfl rfl rfl (by omega)) (show iv _=iv ((a+(q+1):Nat):Int) from congrArg iv (by omega))) ?_
    refine rn ?_;exact ⟨hq,trivial,by rw [←ymw hP (Nat.lt_of_lt_of_le hq hu),←hsw];exact eA⟩
   ·have hq:q=u:=by have q0:¬((a+q:Nat):Int) < ((a+u:Nat):Int):=oF hc58;omega
    subst hq
    refine rn ?_;refine rqz ?_;rw [yal zkz hR hu h1 h2];exact ⟨rfl,rfl⟩
 ·first|cases hc28|exact absurd hc28 (by decide)|(exfalso;simp_all;done)
theorem yn2 (s:SV) (P L Z:List zi3) (y:zi3) (a m b:Nat) (cv:AV) (hc:ydn cv) (hP:P.length=a) (hm:a+L.length=m) (hb:m+ [y].length=b) (h1L:L.length≠1) (hL:L.Pairwise (LeC zcb)) (hl:(P++(L++([y]++Z))).length≤1000000000):x3 Tryz.prog 216 [.v s.v,iv (a:Int),iv (m:Int),iv (b:Int),cv] [.row s.v 3 178 ((P++(L++([y]++Z))).map zby)] (fun r h'=>h'= [.row s.v 3 178 ((P++(mrg zcb L [y]++Z)).map zby)]∧r= .tup []):=by
 refine z6 Tryz.func216 rfl rfl rfl ?_
 simp only [List.length_append] at hl
 refine x9 ?_;refine x9 (y5 ?_)
 refine q1 ?_;refine q1 ?_;refine q1 ?_;refine qq rfl rfl (zed (c:=false) rfl rfl (congrArg some (beq_eq_false_iff_ne.2 (by omega)))) ?_
 refine rn ?_;refine z8 rfl (fun hc28=> ?_) (fun hc28=> ?_)
 ·first|cases hc28|exact absurd hc28 (by decide)|(exfalso;simp_all;done)
 ·refine zab ?_;refine j8 ?_;refine x9 ?_;refine x9 (y5 ?_)
  refine q1 ?_;refine q1 ?_;refine q1 ?_;refine qq rfl rfl (zed (c:=true) rfl rfl (congrArg some (beq_iff_eq.2 (by simp at hb;omega)))) ?_
  refine rn ?_;refine z8 rfl (fun hc80=> ?_) (fun hc80=> ?_)
  ·refine rn ?_;refine zde (fun z:Nat×Nat=>z.1≤z.2∧z.2≤L.length∧(1≤z.1→¬zcb y (L.getD (z.1 - 1) zdf) < 0)∧(z.2 < L.length→zcb y (L.getD z.2 zdf) < 0)) (fun z=>⟨[(14,iv ((a+z.1:Nat):Int)),(15,iv ((a+z.2:Nat):Int)),(0,.v s.v),(1,iv (a:Int)),(2,iv (m:Int)),(3,iv (b:Int)),(4,cv)],.row s.v 3 178 ((P++(L++([y]++Z))).map zby):: [],[]⟩) (fun z=>z.2 - z.1) (0,L.length) ⟨Nat.zero_le _,Nat.le_refl _,fun h=>absurd h (by simp),fun h=>absurd h (by simp)⟩ (by simp only [Nat.add_zero,hm];exact es) ?_
   rintro ⟨u,v⟩ ⟨huv0,hu0,h1,h2⟩
   simp only at huv0 hu0 h1 h2
   show aw _ _ _ _ _ ⟨[(14,iv ((a+u:Nat):Int)),(15,iv ((a+v:Nat):Int)),(0,.v s.v),(1,iv (a:Int)),(2,iv (m:Int)),(3,iv (b:Int)),(4,cv)],.row s.v 3 178 ((P++(L++([y]++Z))).map zby):: [],[]⟩
   refine rn ?_;refine z8 rfl (fun hc85=> ?_) (fun hc85=> ?_)
   ·have huv:u < v:=by have q:((a+u:Nat):Int) < ((a+v:Nat):Int):=oT hc85;omega
    refine zab ?_;refine j8 ?_;refine zad ?_;refine x9 (y5 ?_)
    refine q1 ?_;refine q1 ?_;refine qq rfl rfl (za9 (k6 rfl rfl rfl (by omega)) (show iv _=iv (((a+u)+(a+v):Nat):Int) from congrArg iv (by omega))) ?_
    refine qq rfl rfl (zaz (m:=(((a+u)+(a+v):Nat):Int)) rfl (zhb (by omega))) ?_
    refine qq rfl rfl (ze5 (c:=((((a+u)+(a+v)) / 2:Nat):Int)) rfl rfl (zi9 (by omega)) (by decide)) ?_
    refine qq rfl rfl (zaz (m:=((((a+u)+(a+v)) / 2:Nat):Int)) rfl (zho (by omega))) ?_
    refine rn0 ?_;refine x9 ?_;rw [show (a+u+(a+v)) / 2=a+((u+v) / 2) by omega]
    refine j5 9 rfl ?_
    refine dq rfl rfl qrA ?_;refine dq rfl rfl qrA ?_;refine dq rfl rfl qrA ?_;refine dq rfl rfl (w8 (k:=m) rfl rfl (by rw [oM];exact (zdv (yg7 (L:=L) (R:= [y]) (Z:=Z) hP hm zdf (Nat.le_refl m) (by simp))))) ?_
    refine dq rfl rfl (u5 (row:=zby ([y].getD (m - m) zdf)) rfl (zb0 (yg7 (L:=L) (R:= [y]) (Z:=Z) hP hm zdf (Nat.le_refl m) (by simp))) rfl) ?_
    refine dq rfl rfl qrA ?_;refine dq rfl rfl qrA ?_;refine dq rfl rfl (w8 (k:=(a+((u+v) / 2))) rfl rfl (by rw [oM];exact (zdv (yg8 (L:=L) (R:= [y]) (Z:=Z) hP zdf (by omega) (by omega))))) ?_
    refine dq rfl rfl (u5 (row:=zby (L.getD (a+((u+v) / 2) - a) zdf)) rfl (zb0 (yg8 (L:=L) (R:= [y]) (Z:=Z) hP zdf (by omega) (by omega))) rfl) ?_
    refine rn ?_;refine qv rfl rfl (y6 rfl rfl (y3.pure (R:=fun r=>r=iv (zcb ([y].getD (m - m) zdf) (L.getD (a+((u+v) / 2) - a) zdf))) (hc ([y].getD (m - m) zdf) (L.getD (a+((u+v) / 2) - a) zdf)))) ?_
    refine rn ?_;refine z8 rfl (fun hc103=> ?_) (fun hc103=> ?_)
    ·have hlt:¬zcb ([y].getD (m - m) zdf) (L.getD (a+((u+v) / 2) - a) zdf) < 0:=oF (by simpa using hc103)
     rw [show a+((u+v) / 2) - a=((u+v) / 2) by omega,show [y].getD (m - m) zdf=y by rw [Nat.sub_self];rfl] at hlt
     refine y5 ?_;refine q1 ?_;refine qq rfl rfl (za9 (k6 rfl rfl rfl (by omega)) (show iv _=iv ((a+(((u+v) / 2)+1):Nat):Int) from congrArg iv (by omega))) ?_
     refine rn ?_;exact ⟨(((u+v) / 2)+1,v),⟨by simp only;omega,hu0,fun _=>by simp only;rw [Nat.add_sub_cancel];exact hlt,h2⟩,eA,by simp only;omega⟩
    ·have hlt:zcb ([y].getD (m - m) zdf) (L.getD (a+((u+v) / 2) - a) zdf) < 0:=oT (by simpa using hc103)
     rw [show a+((u+v) / 2) - a=((u+v) / 2) by omega,show [y].getD (m - m) zdf=y by rw [Nat.sub_self];rfl] at hlt
     refine rn ?_;exact ⟨(u,((u+v) / 2)),⟨by simp only;omega,by simp only;omega,h1,fun _=>hlt⟩,eA,by simp only;omega⟩
   ·have huv:u=v:=by have q:¬((a+u:Nat):Int) < ((a+v:Nat):Int):=oF hc85;omega
    subst huv
    refine rn ?_;have hu:u≤L.length:=hu0
    refine zde (fun q:Nat=>u≤q∧q≤L.length) (fun q=>⟨[(17,iv ((a+q:Nat):Int)),(14,iv ((a+u:Nat):Int)),(0,.v s.v),(1,iv (a:Int)),(2,iv (m:Int)),(3,iv (b:Int)),(4,cv)],.row s.v 3 178 ((P++(L.take q++y::(L.drop q++Z))).map zby):: [],[]⟩) (fun q=>q) L.length ⟨hu,Nat.le_refl _⟩ (by rw [List.take_length,List.drop_length,hm];exact es) ?_
    rintro q ⟨hq1,hq2⟩
    refine rn ?_;refine z8 rfl (fun hc110=> ?_) (fun hc110=> ?_)
    ·have hq:u < q:=by have q0:((a+q:Nat):Int) > ((a+u:Nat):Int):=oT hc110;omega
     have hx:=yjp (S:=L) (Z:=Z) (x:=y) hP hq2
     have hy:=ylm (S:=L) (Z:=Z) (x:=y) hP hq2 (by omega)
     obtain ⟨v2,hv2⟩:∃v,L.getD (q - 1) y=v:=⟨_,rfl⟩
     rw [hv2] at hy
     have hxy:a+q≠a+q - 1:=by omega
     refine zab ?_;refine rn0 ?_;refine x9 ?_;refine zad ?_;refine zju 16 [15] [] [8,9,12,13,14] (fun he=>True) rfl rfl rfl trivial ?_
     refine jq rfl (fun he hC=>by replace hC:=hC.2;exact qrA) ?_
     refine jq rfl (fun he hC=>by replace hC:=hC.2;exact qrA) ?_
     refine jq rfl (fun he hC=>by replace hC:=hC.2;exact qrA) ?_
     refine jq rfl (fun he hC=>by replace hC:=hC.2;exact qrA) ?_
     refine jq rfl (fun he hC=>by replace hC:=hC.2;exact za9 (k6 rfl rfl rfl (by omega)) (show iv _=iv ((a+q - 1:Nat):Int) from congrArg iv (by omega))) ?_
     refine jq rfl (fun he hC=>by replace hC:=hC.2;exact qrA) ?_
     refine jq rfl (fun he hC=>by replace hC:=hC.2;exact qrA) ?_
     refine jq rfl (fun he hC=>by replace hC:=hC.2;exact za9 (k6 rfl rfl rfl (by omega)) (show iv _=iv ((a+q - 1:Nat):Int) from congrArg iv (by omega))) ?_
     refine jq rfl (fun he hC=>by obtain rfl:=hC.1 rfl;exact w8 (k:=(a+q - 1)) rfl rfl (by rw [oM];exact (zdv hy))) ?_
     refine jq rfl (fun he hC=>by obtain rfl:=hC.1 rfl;exact u5 (row:=zby v2) rfl (zb0 hy) rfl) ?_
     refine jq rfl (fun he hC=>by replace hC:=hC.2;exact qrA) ?_
     refine jq rfl (fun he hC=>by replace hC:=hC.2;exact qrA) ?_
     refine jq rfl (fun he hC=>by obtain rfl:=hC.1 rfl;exact w8 (k:=(a+q)) rfl rfl (by rw [oM];exact (zdv hx))) ?_
     refine jq rfl (fun he hC=>by obtain rfl:=hC.1 rfl;exact u5 (row:=zby y) rfl (zb0 hx) rfl) ?_
     refine jq rfl (fun he hC=>by obtain rfl:=hC.1 rfl;exact w8 (k:=(a+q)) rfl rfl (by rw [oM];exact (zdv hx))) ?_
     refine je rfl ?_;refine ya9 ?_;refine jce rfl fun u=> ?_
     refine zae (k:=(a+q)) rfl rfl rfl (zb0 hx) rfl (Nat.le_of_ble_eq_true rfl) ⟨.any,_,rfl,trivial,?_⟩
     refine jcn ?_;refine ln ?_;refine qq rfl rfl (w8 (k:=(a+q - 1)) rfl rfl (by rw [List.length_set,oM];exact zdv hy)) ?_
     refine z7 rfl (zae (k:=(a+q - 1)) rfl rfl rfl (row:=zby v2) (by rw [List.getElem?_set_ne hxy];exact zb0 hy) rfl (Nat.le_of_ble_eq_true rfl) ?_)
     have hsw:=zja (f:=zby) hx hy
     refine u3 ?_;refine zkk ?_;refine j8 ?_;refine y5 ?_;refine q1 ?_;refine qq rfl rfl (za9 (k6 rfl rfl rfl (by omega)) (show iv _=iv ((a+(q - 1):Nat):Int) from congrArg iv (by omega))) ?_
     refine rn ?_;exact ⟨q - 1,⟨by omega,by omega⟩,by rw [←zxb hP hq2 (by omega),←hsw];exact eA,by omega⟩
    ·have hq:q=u:=by have q0:¬((a+q:Nat):Int) > ((a+u:Nat):Int):=oF hc110;omega
     subst hq
     refine rn ?_;refine rqz ?_;rw [zw1 zkz hL hu h1 h2];exact ⟨rfl,rfl⟩
  ·first|cases hc80|exact absurd hc80 (by decide)|(exfalso;simp_all;done)
set_option maxHeartbeats 8000000 in
theorem yn1 (s:SV) (n:Nat) (P L R Z:List zi3) (a m b:Nat) (cv:AV) (hc:ydn cv) (hn:L.length+R.length=n) (hP:P.length=a) (hm:a+L.length=m) (hb:m+R.length=b) (hL1:1≤L.length) (hR1:1≤R.length) (h1L:L.length≠1) (h1R:R.length≠1) (hL:L.Pairwise (LeC zcb)) (hR:R.Pairwise (LeC zcb)) (hl:(P++(L++(R++Z))).length≤1000000000) (ih:∀(P L R Z:List zi3) (a m b:Nat),L.length+R.length < n→P.length=a→a+L.length=m→m+R.length=b→1≤L.length→1≤R.length→L.Pairwise (LeC zcb)→R.Pairwise (LeC zcb)→(P++(L++(R++Z))).length≤1000000000→
 x3 Tryz.prog 216 [.v s.v,iv (a:Int),iv (m:Int),iv (b:Int),cv] [.row s.v 3 178 ((P++(L++(R++Z))).map zby)] (fun r h'=>h'= [.row s.v 3 178 ((P++(mrg zcb L R++Z)).map zby)]∧r= .tup [])):x3 Tryz.prog 216 [.v s.v,iv (a:Int),iv (m:Int),iv (b:Int),cv] [.row s.v 3 178 ((P++(L++(R++Z))).map zby)] (fun r h'=>h'= [.row s.v 3 178 ((P++(mrg zcb L R++Z)).map zby)]∧r= .tup []):=by
 refine z6 Tryz.func216 rfl rfl rfl ?_
 simp only [List.length_append] at hl
 refine x9 ?_;refine x9 (y5 ?_)
 refine q1 ?_;refine q1 ?_;refine q1 ?_;refine qq rfl rfl (zed (c:=false) rfl rfl (congrArg some (beq_eq_false_iff_ne.2 (by omega)))) ?_
 refine rn ?_;refine z8 rfl (fun hc28=> ?_) (fun hc28=> ?_)
 ·first|cases hc28|exact absurd hc28 (by decide)|(exfalso;simp_all;done)
 ·refine zab ?_;refine j8 ?_;refine x9 ?_;refine x9 (y5 ?_)
  refine q1 ?_;refine q1 ?_;refine q1 ?_;refine qq rfl rfl (zed (c:=false) rfl rfl (congrArg some (beq_eq_false_iff_ne.2 (by omega)))) ?_
  refine rn ?_;refine z8 rfl (fun hc80=> ?_) (fun hc80=> ?_)
  ·first|cases hc80|exact absurd hc80 (by decide)|(exfalso;simp_all;done)
  ·refine zab ?_;refine j8 ?_;refine x9 (y5 ?_)
   refine q1 ?_;refine q1 ?_;refine qq rfl rfl (za9 (k6 rfl rfl rfl (by omega)) (show iv _=iv ((a+b:Nat):Int) from congrArg iv (by omega))) ?_
   refine qq rfl rfl (zaz (m:=((a+b:Nat):Int)) rfl (zhb (by omega))) ?_
   refine qq rfl rfl (ze5 (c:=(((a+b) / 2:Nat):Int)) rfl rfl (zi9 (by omega)) (by decide)) ?_
   refine qq rfl rfl (zaz (m:=(((a+b) / 2:Nat):Int)) rfl (zho (by omega))) ?_
   refine q1 ?_;refine u3 (j8 ?_)
   refine x9 (y5 ?_)
   refine q1 ?_;refine q1 ?_;refine qq rfl rfl (za9 (k6 rfl rfl rfl (by omega)) (show iv _=iv ((((a+b) / 2)+m:Nat):Int) from congrArg iv (by omega))) ?_
   refine rn0 ?_;refine x9 (y5 ?_)
   refine rn0 ?_;refine zig (fun z:Nat×Nat=>SmS L R a m b ((a+b) / 2) z.1 z.2) (fun z=>⟨[(20,iv (z.1:Int)),(21,iv (z.2:Int)),(18,iv ((((a+b) / 2):Nat):Int)),(19,iv ((((a+b) / 2)+m:Nat):Int)),(0,.v s.v),(1,iv (a:Int)),(2,iv (m:Int)),(3,iv (b:Int)),(4,cv)],.row s.v 3 178 ((P++(L++(R++Z))).map zby):: [],[]⟩) ?_ ?_
   ·refine rn ?_;refine z8 rfl (fun hc140=> ?_) (fun hc140=> ?_)
    ·have hS0:SmS L R a m b ((a+b) / 2) (((a+b) / 2)+m - b) ((a+b) / 2):=⟨hm,hb,rfl,.inl ⟨by have q:(m:Int) > ((((a+b) / 2):Nat):Int):=oT hc140;omega,rfl,rfl⟩⟩
     refine x9 (y5 ?_)
     refine q1 ?_;refine q1 ?_;refine qq rfl rfl (za9 (k6 rfl rfl rfl (by omega)) (show iv _=iv ((((a+b) / 2)+m - b:Nat):Int) from congrArg iv (by have q:(m:Int) > ((((a+b) / 2):Nat):Int):=oT hc140;omega))) ?_
     refine rn ?_;exact ⟨(_,_),hS0,eA⟩
    ·have hS0:SmS L R a m b ((a+b) / 2) a m:=⟨hm,hb,rfl,.inr ⟨by have q:¬(m:Int) > ((((a+b) / 2):Nat):Int):=oF hc140;omega,rfl,rfl⟩⟩
     refine rn ?_;exact ⟨(_,_),hS0,eA⟩
   ·rintro ⟨s0,r0⟩ hS
    replace hS:SmS L R a m b ((a+b) / 2) s0 r0:=hS
    show aw _ _ _ _ _ ⟨[(20,iv (s0:Int)),(21,iv (r0:Int)),(18,iv ((((a+b) / 2):Nat):Int)),(19,iv ((((a+b) / 2)+m:Nat):Int)),(0,.v s.v),(1,iv (a:Int)),(2,iv (m:Int)),(3,iv (b:Int)),(4,cv)],.row s.v 3 178 ((P++(L++(R++Z))).map zby):: [],[]⟩
    refine x9 (y5 ?_)
    refine q1 ?_;refine qq rfl rfl (za9 (k6 rfl rfl rfl (by omega)) (show iv _=iv ((((a+b) / 2)+m - 1:Nat):Int) from congrArg iv (by omega))) ?_
    refine rn ?_;refine zde (fun z:Nat×Nat=>SmI zcb L R a m b ((a+b) / 2) s0 r0 z.1 z.2) (fun z=>⟨[(20,iv (z.1:Int)),(21,iv (z.2:Int)),(22,iv (((((a+b) / 2)+m - 1):Nat):Int)),(18,iv ((((a+b) / 2):Nat):Int)),(19,iv ((((a+b) / 2)+m:Nat):Int)),(0,.v s.v),(1,iv (a:Int)),(2,iv (m:Int)),(3,iv (b:Int)),(4,cv)],.row s.v 3 178 ((P++(L++(R++Z))).map zby):: [],[]⟩) (fun z=>z.2 - z.1) (s0,r0) (yn6 hS) es ?_
    rintro ⟨st,rr⟩ hI
    replace hI:SmI zcb L R a m b ((a+b) / 2) s0 r0 st rr:=hI
    show aw _ _ _ _ _ ⟨[(20,iv (st:Int)),(21,iv (rr:Int)),(22,iv (((((a+b) / 2)+m - 1):Nat):Int)),(18,iv ((((a+b) / 2):Nat):Int)),(19,iv ((((a+b) / 2)+m:Nat):Int)),(0,.v s.v),(1,iv (a:Int)),(2,iv (m:Int)),(3,iv (b:Int)),(4,cv)],.row s.v 3 178 ((P++(L++(R++Z))).map zby):: [],[]⟩
    refine rn ?_;refine z8 rfl (fun hc151=> ?_) (fun hc151=> ?_)
    ·have hsr:st < rr:=by have q:(st:Int) < (rr:Int):=oT hc151;omega
     obtain ⟨b1,b2,b3,b4,b5,b6,b7,b8,b9,b10⟩:=yl5 hS hI hsr
     have hu:=getD_some b6 zdf
     have hv:=getD_some b5 zdf
     rw [b7] at hu
     refine zab ?_;refine j8 ?_;refine zad ?_;refine x9 (y5 ?_)
     refine q1 ?_;refine q1 ?_;refine qq rfl rfl (za9 (k6 rfl rfl rfl (by omega)) (show iv _=iv ((st+rr:Nat):Int) from congrArg iv (by omega))) ?_
     refine qq rfl rfl (zaz (m:=((st+rr:Nat):Int)) rfl (zhb (by omega))) ?_
     refine qq rfl rfl (ze5 (c:=(((st+rr) / 2:Nat):Int)) rfl rfl (zi9 (by omega)) (by decide)) ?_
     refine qq rfl rfl (zaz (m:=(((st+rr) / 2:Nat):Int)) rfl (zho (by omega))) ?_
     refine rn ?_;refine j5 11 rfl ?_
     refine dq rfl rfl qrA ?_;refine dq rfl rfl qrA ?_;refine dq rfl rfl qrA ?_;refine dq rfl rfl qrA ?_;refine dq rfl rfl (za9 (k6 rfl rfl rfl (by omega)) (show iv _=iv (((((a+b) / 2)+m - 1 - ((st+rr) / 2)):Nat):Int) from congrArg iv (by omega))) ?_
     refine dq rfl rfl (w8 (k:=(((a+b) / 2)+m - 1 - ((st+rr) / 2))) rfl rfl (by rw [oM];exact (zdv (yg7 (L:=L) (R:=R) (Z:=Z) hP hm zdf b3 (by omega))))) ?_
     refine dq rfl rfl (u5 (row:=zby (R.getD ((((a+b) / 2)+m - 1 - ((st+rr) / 2)) - m) zdf)) rfl (zb0 (yg7 (L:=L) (R:=R) (Z:=Z) hP hm zdf b3 (by omega))) rfl) ?_
     refine dq rfl rfl qrA ?_;refine dq rfl rfl qrA ?_;refine dq rfl rfl (w8 (k:=((st+rr) / 2)) rfl rfl (by rw [oM];exact (zdv (yg8 (L:=L) (R:=R) (Z:=Z) hP zdf b1 (by omega))))) ?_
     refine dq rfl rfl (u5 (row:=zby (L.getD (((st+rr) / 2) - a) zdf)) rfl (zb0 (yg8 (L:=L) (R:=R) (Z:=Z) hP zdf b1 (by omega))) rfl) ?_
     refine rn ?_;refine qv rfl rfl (y6 rfl rfl (y3.pure (R:=fun r=>r=iv (zcb (R.getD ((((a+b) / 2)+m - 1 - ((st+rr) / 2)) - m) zdf) (L.getD (((st+rr) / 2) - a) zdf))) (hc (R.getD ((((a+b) / 2)+m - 1 - ((st+rr) / 2)) - m) zdf) (L.getD (((st+rr) / 2) - a) zdf)))) ?_
     refine rn ?_;refine z8 rfl (fun hc171=> ?_) (fun hc171=> ?_)
     ·have hn:¬zcb (R.getD ((((a+b) / 2)+m - 1 - ((st+rr) / 2)) - m) zdf) (L.getD (((st+rr) / 2) - a) zdf) < 0:=oF (by simpa using hc171)
      rw [b7] at hn
      refine y5 ?_;refine q1 ?_;refine qq rfl rfl (za9 (k6 rfl rfl rfl (by omega)) (show iv _=iv ((((st+rr) / 2)+1:Nat):Int) from congrArg iv (by omega))) ?_
      refine rn ?_;exact ⟨(((st+rr) / 2)+1,rr),yn4 hS hI hsr rfl hu hv hn,eA,by simp only;omega⟩
     ·have hn:zcb (R.getD ((((a+b) / 2)+m - 1 - ((st+rr) / 2)) - m) zdf) (L.getD (((st+rr) / 2) - a) zdf) < 0:=oT (by simpa using hc171)
      rw [b7] at hn
      refine rn ?_;exact ⟨(st,((st+rr) / 2)),yn5 hS hI hsr rfl hu hv hn,eA,by simp only;omega⟩
    ·have hsr:st=rr:=by
      have q:¬(st:Int) < (rr:Int):=oF hc151
      have:=hI.2.1
      omega
     subst hsr
     obtain ⟨x,y,hs,hmid,hx,hy,hmg⟩:=yh3 zkz hL hR hS hI
     subst hs
     rw [hmid]
     refine zg4 ?_;refine zgv ?_;refine zgv ?_;refine zdm ?_;refine j8 ?_;refine x9 (y5 ?_)
     refine q1 ?_;refine q1 ?_;refine qq rfl rfl (za9 (k6 rfl rfl rfl (by omega)) (show iv _=iv ((m+y:Nat):Int) from congrArg iv (by omega))) ?_
     refine rn0 ?_;refine zgu (⟨[(20,iv (((a+x):Nat):Int)),(18,iv (((a+x+y):Nat):Int)),(24,iv (((m+y):Nat):Int)),(0,.v s.v),(1,iv (a:Int)),(2,iv (m:Int)),(3,iv (b:Int)),(4,cv)],.row s.v 3 178 ((P++((L.take x)++((R.take y)++((L.drop x)++((R.drop y)++Z))))).map zby):: [],[]⟩) ?_ ?_
     ·refine zgu (⟨[(185,bv (decide (((((a+x):Nat):Int)) < ((((m):Nat):Int))) && decide (((((m):Nat):Int)) < ((((m+y):Nat):Int))))),(20,iv (((a+x):Nat):Int)),(18,iv (((a+x+y):Nat):Int)),(24,iv (((m+y):Nat):Int)),(0,.v s.v),(1,iv (a:Int)),(2,iv (m:Int)),(3,iv (b:Int)),(4,cv)],.row s.v 3 178 ((P++(L++(R++Z))).map zby):: [],[]⟩) ?_ ?_
      ·refine rn ?_;refine q9 (fun hg39_3=> ?_) (fun hg39_3=> ?_)
       ·refine rn ?_;first|(rw [hg39_3,Bool.true_and];exact eA)|(rw [hg39_3,Bool.false_and];exact eA)
       ·refine rn ?_;first|(rw [hg39_3,Bool.true_and];exact eA)|(rw [hg39_3,Bool.false_and];exact eA)
      ·refine z8 rfl (fun hc185=> ?_) (fun hc185=> ?_)
       ·have hg:=hc185
        rw [Bool.and_eq_true,decide_eq_true_iff,decide_eq_true_iff] at hg
        refine rn ?_;refine z7 rfl (w7 rfl rfl (y3.of_fun (yeo s _ _ (a+x) m (m+y) cv (by rw [show m - (a+x)=L.length - x by omega,show m+y - m=y by omega];exact yh2 hP hm hx hy) (by omega) (by omega) (by simp only [List.length_append];omega) (by simp only [List.length_append];omega))) rfl ?_)
        rintro _ _ ⟨rfl,rfl⟩
        refine rn ?_;exact eA
       ·have hg:=hc185
        rw [Bool.and_eq_false_iff,decide_eq_false_iff_not,decide_eq_false_iff_not] at hg
        have hxy:x=L.length∨y=0:=by omega
        rw [yec (P:=P) (Z:=Z) hxy]
        refine rn ?_;exact eA
     ·refine zgu (⟨[(20,iv (((a+x):Nat):Int)),(18,iv (((a+x+y):Nat):Int)),(24,iv (((m+y):Nat):Int)),(0,.v s.v),(1,iv (a:Int)),(2,iv (m:Int)),(3,iv (b:Int)),(4,cv)],.row s.v 3 178 ((P++(mrg zcb (L.take x) (R.take y)++((L.drop x)++((R.drop y)++Z)))).map zby):: [],[]⟩) ?_ ?_
      ·refine zgu (⟨[(199,bv (decide (((((a):Nat):Int)) < ((((a+x):Nat):Int))) && decide (((((a+x):Nat):Int)) < ((((a+x+y):Nat):Int))))),(20,iv (((a+x):Nat):Int)),(18,iv (((a+x+y):Nat):Int)),(24,iv (((m+y):Nat):Int)),(0,.v s.v),(1,iv (a:Int)),(2,iv (m:Int)),(3,iv (b:Int)),(4,cv)],.row s.v 3 178 ((P++((L.take x)++((R.take y)++((L.drop x)++((R.drop y)++Z))))).map zby):: [],[]⟩) ?_ ?_
       ·refine rn ?_;refine q9 (fun hg41_3=> ?_) (fun hg41_3=> ?_)
        ·refine rn ?_;first|(rw [hg41_3,Bool.true_and];exact eA)|(rw [hg41_3,Bool.false_and];exact eA)
        ·refine rn ?_;first|(rw [hg41_3,Bool.true_and];exact eA)|(rw [hg41_3,Bool.false_and];exact eA)
       ·refine z8 rfl (fun hc199=> ?_) (fun hc199=> ?_)
        ·have hg:=hc199
         rw [Bool.and_eq_true,decide_eq_true_iff,decide_eq_true_iff] at hg
         refine rn ?_;refine z7 rfl (w7 rfl rfl (y3.of_fun (ih P (L.take x) (R.take y) ((L.drop x)++((R.drop y)++Z)) a (a+x) (a+x+y) (by simp only [List.length_take];omega) hP (by simp only [List.length_take];omega) (by simp only [List.length_take];omega) (by simp only [List.length_take];omega) (by simp only [List.length_take];omega) (zr8 hL x) (zr8 hR y) (by simp only [List.length_append,List.length_take,List.length_drop];omega))) rfl ?_)
         rintro _ _ ⟨rfl,rfl⟩
         refine rn ?_;exact eA
        ·have hg:=hc199
         rw [Bool.and_eq_false_iff,decide_eq_false_iff_not,decide_eq_false_iff_not] at hg
         have hxy:(L.take x)= []∨(R.take y)= []:=by
          by_cases h0:1≤x
          ·exact .inr (zr9 (by omega))
          ·exact .inl (zr9 h0)
         rw [zvt (cmp:=zcb) (P:=P) hxy]
         refine rn ?_;exact eA
      ·refine zgu (⟨[(213,bv (decide (((((a+x+y):Nat):Int)) < ((((m+y):Nat):Int))) && decide (((((m+y):Nat):Int)) < ((((b):Nat):Int))))),(20,iv (((a+x):Nat):Int)),(18,iv (((a+x+y):Nat):Int)),(24,iv (((m+y):Nat):Int)),(0,.v s.v),(1,iv (a:Int)),(2,iv (m:Int)),(3,iv (b:Int)),(4,cv)],.row s.v 3 178 ((P++(mrg zcb (L.take x) (R.take y)++((L.drop x)++((R.drop y)++Z)))).map zby):: [],[]⟩) ?_ ?_
       ·refine rn ?_;refine q9 (fun hg43_3=> ?_) (fun hg43_3=> ?_)
        ·refine rn ?_;first|(rw [hg43_3,Bool.true_and];exact eA)|(rw [hg43_3,Bool.false_and];exact eA)
        ·refine rn ?_;first|(rw [hg43_3,Bool.true_and];exact eA)|(rw [hg43_3,Bool.false_and];exact eA)
       ·refine z8 rfl (fun hc213=> ?_) (fun hc213=> ?_)
        ·have hg:=hc213
         rw [Bool.and_eq_true,decide_eq_true_iff,decide_eq_true_iff] at hg
         rw [←List.append_assoc P (mrg zcb (L.take x) (R.take y)) ((L.drop x)++((R.drop y)++Z))]
         refine rn ?_;refine z7 rfl (w7 rfl rfl (y3.of_fun (ih (P++mrg zcb (L.take x) (R.take y)) (L.drop x) (R.drop y) Z (a+x+y) (m+y) b (by simp only [List.length_drop];omega) (by simp only [List.length_append,zel,List.length_take];omega) (by simp only [List.length_drop];omega) (by simp only [List.length_drop];omega) (by simp only [List.length_drop];omega) (by simp only [List.length_drop];omega) (ztf hL x) (ztf hR y) (by simp only [List.length_append,zel,List.length_take,List.length_drop];omega))) rfl ?_)
         rintro _ _ ⟨rfl,rfl⟩
         refine rn ?_;refine yen ?_;exact ⟨by simp only [hmg,List.append_assoc],rfl⟩
        ·have hg:=hc213
         rw [Bool.and_eq_false_iff,decide_eq_false_iff_not,decide_eq_false_iff_not] at hg
         have hxy:(L.drop x)= []∨(R.drop y)= []:=by
          by_cases h0:x < L.length
          ·exact .inr (zpb (by omega))
          ·exact .inl (zpb h0)
         rw [←List.append_assoc P (mrg zcb (L.take x) (R.take y)) ((L.drop x)++((R.drop y)++Z)),zvt (cmp:=zcb) (P:=P++mrg zcb (L.take x) (R.take y)) hxy]
         refine rn ?_;refine yen ?_;exact ⟨by simp only [hmg,List.append_assoc],rfl⟩
theorem yl0 (s:SV) (cv:AV) (hc:ydn cv):∀(n:Nat) (P L R Z:List zi3) (a m b:Nat),L.length+R.length < n→P.length=a→a+L.length=m→m+R.length=b→1≤L.length→1≤R.length→L.Pairwise (LeC zcb)→R.Pairwise (LeC zcb)→(P++(L++(R++Z))).length≤1000000000→
 x3 Tryz.prog 216 [.v s.v,iv (a:Int),iv (m:Int),iv (b:Int),cv] [.row s.v 3 178 ((P++(L++(R++Z))).map zby)] (fun r h'=>h'= [.row s.v 3 178 ((P++(mrg zcb L R++Z)).map zby)]∧r= .tup [])
 |0,_,_,_,_,_,_,_,h,_,_,_,_,_,_,_,_=>absurd h (by omega)
 |n+1,P,L,R,Z,a,m,b,h,hP,hm,hb,hL1,hR1,hL,hR,hl=>by
  by_cases e1:L.length=1
  ·obtain ⟨x,rfl⟩:=List.length_eq_one_iff.1 e1
   exact yn3 s P R Z x a m b cv hc hP hm hb hR hl
  ·by_cases e2:R.length=1
   ·obtain ⟨y,rfl⟩:=List.length_eq_one_iff.1 e2
    exact yn2 s P L Z y a m b cv hc hP hm hb e1 hL hl
   ·exact yn1 s (L.length+R.length) P L R Z a m b cv hc rfl hP hm hb hL1 hR1 e1 e2 hL hR hl fun P' L' R' Z' a' m' b' q=>yl0 s cv hc n P' L' R' Z' a' m' b' (by omega)
theorem yd3 (s:SV) (l:List zi3) (cv:AV) (hc:ydn cv) (hl:l.length≤1000000000):x3 Tryz.prog 197 [.v s.v,iv (l.length:Int),cv] [.row s.v 3 178 ((l).map zby)] (fun r h'=>∃c,zn7 zy6 l c∧h'= [.row s.v 3 178 ((c).map zby)]∧r= .tup []):=by
 refine z6 Tryz.func197 rfl rfl rfl ?_
 refine rn ?_;refine zde (fun z:Nat×List zi3=>St1 zy6 20 l z.2 z.1∧z.2.length=l.length) (fun z=>⟨[(6,iv 20),(7,iv (z.1:Int)),(8,iv ((z.1+20:Nat):Int)),(0,.v s.v),(1,iv (l.length:Int)),(2,cv)],.row s.v 3 178 ((z.2).map zby):: [],[]⟩) (fun z=>l.length - z.1) (0,l) ⟨yl4 20 l,rfl⟩ es ?_
 rintro ⟨q,c⟩ ⟨hs,hcl⟩
 simp only at hs hcl
 show aw _ _ _ _ _ ⟨[(6,iv 20),(7,iv (q:Int)),(8,iv ((q+20:Nat):Int)),(0,.v s.v),(1,iv (l.length:Int)),(2,cv)],.row s.v 3 178 ((c).map zby):: [],[]⟩
 refine rn ?_;refine z8 rfl (fun hc13=> ?_) (fun hc13=> ?_)
 ·have hb:q+20≤c.length:=by have q0:((q+20:Nat):Int)≤(l.length:Int):=oT hc13;omega
  obtain ⟨P,M,Z,rfl,hP,hM,hs'⟩:=zzr hs hb
  have hcl2:=hcl
  simp only [List.length_append] at hcl2
  refine rn ?_;refine z7 rfl (w7 rfl rfl (y3.of_fun (zxc s P M Z q (q+20) cv hc hP (by omega) (by omega))) rfl ?_)
  rintro _ _ ⟨rfl,rfl⟩
  refine u3 (j8 ?_)
  refine x9 (y5 ?_)
  refine q1 ?_;refine q1 ?_;refine u3 (j8 ?_)
  refine y5 ?_;refine q1 ?_;refine q1 ?_;refine qq rfl rfl (za9 (k6 rfl rfl rfl (by omega)) (show iv _=iv ((q+20+20:Nat):Int) from congrArg iv (by omega))) ?_
  refine rn ?_;exact ⟨(q+20,P++(isL zcb M++Z)),⟨hs',by simp only [List.length_append,zg0];omega⟩,eA,by simp only;omega⟩
 ·have hb:c.length < q+20:=by have q0:¬((q+20:Nat):Int)≤(l.length:Int):=oF hc13;omega
  obtain ⟨P,M,rfl,hP,hs2⟩:=yd7 hs hb
  have hcl2:=hcl
  simp only [List.length_append] at hcl2
  rw [show P++M=P++(M++ []) by rw [List.append_nil]]
  refine rn ?_;refine z7 rfl (w7 rfl rfl (y3.of_fun (zxc s P M [] q l.length cv hc hP (by omega) (by simp only [List.length_append,List.length_nil];omega))) rfl ?_)
  rintro _ _ ⟨rfl,rfl⟩
  refine rn ?_;refine zde (fun z:Nat×List zi3=>1≤z.1∧St2 zy6 z.1 l z.2∧z.2.length=l.length) (fun z=>⟨[(6,iv (z.1:Int)),(0,.v s.v),(1,iv (l.length:Int)),(2,cv)],.row s.v 3 178 ((z.2).map zby):: [],[]⟩) (fun z=>l.length - z.1) (20,P++isL zcb M) ⟨by show 1≤20;decide,hs2,by simp only [List.length_append,zg0];omega⟩ (by rw [List.append_nil];exact es) ?_
  rintro ⟨bs,c⟩ ⟨h0,hs0,hcl⟩
  simp only at h0 hs0 hcl
  clear hs hb hs2 hcl2
  show aw _ _ _ _ _ ⟨[(6,iv (bs:Int)),(0,.v s.v),(1,iv (l.length:Int)),(2,cv)],.row s.v 3 178 ((c).map zby):: [],[]⟩
  refine rn ?_;refine z8 rfl (fun hc30=> ?_) (fun hc30=> ?_)
  ·have hbs:bs < l.length:=by have q0:(bs:Int) < (l.length:Int):=oT hc30;omega
   refine zab ?_;refine j8 ?_;refine zad ?_;refine x9 (y5 ?_)
   refine q1 ?_;refine qq rfl rfl (za9 (k6 rfl rfl rfl (by omega)) (show iv _=iv ((2 * bs:Nat):Int) from congrArg iv (by omega))) ?_
   refine rn ?_;refine zde (fun z:Nat×List zi3=>St3 zy6 bs l z.2 z.1∧z.2.length=l.length) (fun z=>⟨[(7,iv (z.1:Int)),(8,iv ((z.1+2 * bs:Nat):Int)),(6,iv (bs:Int)),(0,.v s.v),(1,iv (l.length:Int)),(2,cv)],.row s.v 3 178 ((z.2).map zby):: [],[]⟩) (fun z=>l.length - z.1) (0,c) ⟨yl3 hs0,hcl⟩ (by simp only [Nat.zero_add];exact es) ?_
   rintro ⟨q,d⟩ ⟨hs,hdl⟩
   simp only at hs hdl
   have hqd:=yd4 hs
   show aw _ _ _ _ _ ⟨[(7,iv (q:Int)),(8,iv ((q+2 * bs:Nat):Int)),(6,iv (bs:Int)),(0,.v s.v),(1,iv (l.length:Int)),(2,cv)],.row s.v 3 178 ((d).map zby):: [],[]⟩
   refine rn ?_;refine z8 rfl (fun hc35=> ?_) (fun hc35=> ?_)
   ·have hb:q+2 * bs≤d.length:=by have q0:((q+2 * bs:Nat):Int)≤(l.length:Int):=oT hc35;omega
    obtain ⟨P,L,R,Z,rfl,hP,hL,hR,sL,sR,hs'⟩:=zzq h0 hs hb
    have hdl2:=hdl
    simp only [List.length_append] at hdl2
    refine zab ?_;refine j8 ?_;refine zad ?_;refine x9 (y5 ?_)
    refine q1 ?_;refine q1 ?_;refine q1 ?_;refine q1 ?_;refine qq rfl rfl (za9 (k6 rfl rfl rfl (by omega)) (show iv _=iv ((q+bs:Nat):Int) from congrArg iv (by omega))) ?_
    refine rn ?_;refine z7 rfl (w7 rfl rfl (y3.of_fun (yl0 s cv hc (L.length+R.length+1) P L R Z q (q+bs) (q+2 * bs) (by omega) hP (by omega) (by omega) (by omega) (by omega) sL sR (by omega))) rfl ?_)
    rintro _ _ ⟨rfl,rfl⟩
    refine u3 (j8 ?_)
    refine x9 (y5 ?_)
    refine q1 ?_;refine q1 ?_;refine u3 (j8 ?_)
    refine y5 ?_;refine q1 ?_;refine q1 ?_;refine q1 ?_;refine qq rfl rfl (za9 (k6 rfl rfl rfl (by omega)) (show iv _=iv ((q+2 * bs+2 * bs:Nat):Int) from congrArg iv (by omega))) ?_
    refine rn ?_;exact ⟨(q+2 * bs,P++(mrg zcb L R++Z)),⟨hs',by simp only [List.length_append,zel];omega⟩,eA,by simp only;omega⟩
   ·have hb:d.length < q+2 * bs:=by have q0:¬((q+2 * bs:Nat):Int)≤(l.length:Int):=oF hc35;omega
    have hen:=yd5 hs hb
    refine zg4 ?_;refine zgv ?_;refine zgv ?_;refine zdm ?_;refine j8 ?_;refine x9 ?_;refine x9 (y5 ?_)
    refine q1 ?_;refine q1 ?_;refine qq rfl rfl (za9 (k6 rfl rfl rfl (by omega)) (show iv _=iv ((q+bs:Nat):Int) from congrArg iv (by omega))) ?_
    refine rn ?_;refine z8 rfl (fun hc54=> ?_) (fun hc54=> ?_)
    ·have hmn:q+bs < d.length:=by have q0:((q+bs:Nat):Int) < (l.length:Int):=oT hc54;omega
     obtain ⟨_,P,L,R,rfl,hP,hL,sL,sR,hs2⟩:=hen.resolve_left (fun h=>by omega)
     have hdl2:=hdl
     simp only [List.length_append] at hdl2 hmn
     rw [show P++(L++R)=P++(L++(R++ [])) by rw [List.append_nil]]
     refine rn ?_;refine z7 rfl (w7 rfl rfl (y3.of_fun (yl0 s cv hc (L.length+R.length+1) P L R [] q (q+bs) l.length (by omega) hP (by omega) (by omega) (by omega) (by omega) sL sR (by simp only [List.length_append,List.length_nil];omega))) rfl ?_)
     rintro _ _ ⟨rfl,rfl⟩
     refine u3 (j8 ?_)
     refine y5 ?_;refine q1 ?_;refine qq rfl rfl (za9 (k6 rfl rfl rfl (by omega)) (show iv _=iv ((2 * bs:Nat):Int) from congrArg iv (by omega))) ?_
     refine rn ?_;exact ⟨(2 * bs,P++mrg zcb L R),⟨by simp only;omega,hs2,by simp only [List.length_append,zel];omega⟩,by rw [List.append_nil];exact eA,by simp only;omega⟩
    ·have hmn:d.length≤q+bs:=by have q0:¬((q+bs:Nat):Int) < (l.length:Int):=oF hc54;omega
     obtain ⟨_,hs2⟩:=hen.resolve_right (fun h=>by have:=h.1;omega)
     refine zab ?_;refine j8 ?_;refine y5 ?_;refine q1 ?_;refine qq rfl rfl (za9 (k6 rfl rfl rfl (by omega)) (show iv _=iv ((2 * bs:Nat):Int) from congrArg iv (by omega))) ?_
     refine rn ?_;exact ⟨(2 * bs,d),⟨by simp only;omega,hs2,hdl⟩,eA,by simp only;omega⟩
  ·have hbs:c.length≤bs:=by have q0:¬(bs:Int) < (l.length:Int):=oF hc30;omega
   refine rn ?_;refine yen ?_;exact ⟨c,yd6 h0 hs0 hbs,rfl,rfl⟩
theorem zqe (s:SV) (l:List zi3) (cv:AV) (hc:ydn cv) (hl:l.length≤1000000000):x3 Tryz.prog 157 [.v s.v,cv] [.row s.v 3 178 ((l).map zby)] (fun r h'=>∃c,zn7 zy6 l c∧h'= [.row s.v 3 178 ((c).map zby)]∧r= .tup []):=by
 refine z6 Tryz.func157 rfl rfl rfl ?_
 refine y5 ?_;refine q1 ?_;refine q1 ?_;refine qq rfl rfl (za9 (zl6 rfl) (show iv _=iv (l.length:Int) from by rw [oM])) ?_
 refine rn ?_;refine z7 rfl (w7 rfl rfl (y3.of_fun (yd3 s l cv hc hl)) rfl ?_)
 rintro _ _ ⟨c,hst,rfl,rfl⟩
 refine rn ?_;refine yen ?_;exact ⟨c,hst,rfl,rfl⟩
theorem ymn (x y:zi3):x3 Tryz.prog 156 [.agg (zby x),.agg (zby y)] [] (fun r h'=>h'= []∧r=iv (zcb x y)):=by
 refine z6 Tryz.func156 rfl rfl rfl ?_
 have hx:=x.2
 have hy:=y.2
 refine rn ?_;refine z7 rfl (w6 rfl rfl rfl fun b2=> ?_)
 refine z7 rfl (w6 rfl rfl rfl fun b3=> ?_)
 refine q1 ?_;refine u3 (j8 ?_)
 refine x9 (y5 ?_)
 refine q1 ?_;refine q1 ?_;refine q1 ?_;refine q1 ?_;refine qq rfl rfl (k6 rfl rfl rfl (by omega)) ?_
 refine rn ?_;refine rq 2 ?_
 exact ⟨rfl,rfl⟩
theorem yi6:ydn (.fn (.func 156) [] []):=fun x y=>y3.of_fun (ymn x y)
theorem yh0 (s:SV) (n:Nat) (l:List Acc) (hk:∀a∈l,0≤a.o∧a.o < n) (hn:n≤1000000) (hl:l.length≤1000000000):x3 Tryz.prog 157 [.v s.v,.fn (.func 156) [] []] [.row s.v 3 178 (l.map accR)] (fun r h'=>h'= [.row s.v 3 178 ((zn1 n l).map accR)]∧r= .tup []):=by
 obtain ⟨lB,e⟩:=zyz hn hk
 have hlen:lB.length=l.length:=by rw [←e,oM]
 have h1:=zqe s lB _ yi6 (by omega)
 have e1:lB.map zby=l.map accR:=by rw [←e,List.map_map];rfl
 rw [e1] at h1
 refine h1.mono ?_;rintro _ _ ⟨c,hst,rfl,rfl⟩
 exact ⟨by rw [←zzp e hst hk,List.map_map];rfl,rfl⟩
instance:Chk2 Tryz.prog 297:=⟨fun e w a b=>by kernel_rfl⟩
instance:Chk3 Tryz.prog 299:=⟨fun e w a b c=>by kernel_rfl⟩
abbrev mpv (r:Nat):AV:= .v (.map (some r))
abbrev nmp:AV:= .v (.map none)
abbrev zty (v:Ver):AV:= .agg (yhl v)
instance:ZV (.agg #[.int .i64 0,.int .i64 0]) (zty ⟨0,0⟩):=ZV.agg2
abbrev zbi (h:Hist):List AV:=x4 h++ [nmp,nmp,nmp,nmp,nmp]
abbrev yav (h:Hist) (r1 r2 r3 r4 r5:Nat):List AV:=x4 h++ [mpv r1,mpv r2,mpv r3,mpv r4,mpv r5]
abbrev zca (bl:Nat) (h:Hist) (p:List Ev) (r1 r2 r3 r4 r5:Nat) (W:List Res):List Res:= .box bl 203 (yav h r1 r2 r3 r4 r5):: .map r1 (j9 zbq (zbh bv (zy8 p))):: .map r2 (j9 zbq (zbh bv (zy5 p)))::
 .map r3 (j9 zda (zbh iv (ztu p))):: .map r4 (j9 zda (zbh zty (zn3 p))):: .map r5 (j9 zeo (zbh bv (zy3 p)))::W
def zas:Option Nat→AV
 |some i=> .tup [iv i,bv true]
 |none=> .tup [iv 0,bv false]
theorem zo1 {full:Bool} (l:List Int) (fv:AV) (p:Int→Bool) (G:List Res) (hp:∀a∈l,y3 Tryz.prog fv [iv a] G (fun r h'=>h'=G∧r=bv (p a))) (hlen:l.length≤4611686018427387904):x3 Tryz.prog 76 [.list full 1 (l.map zba),fv] G (fun r h'=>h'=G∧r=iv (zbl p 0 l)):=by
 refine z6 Tryz.func76 rfl rfl rfl ?_
 refine rn ?_;refine u9 (fun k:Nat=>k≤l.length∧zbl p 0 l=zbl p k (l.drop k)) (fun k=>⟨[(8,iv k),(7,iv (l.map zba).length),(0,.list full 1 (l.map zba)),(1,fv)],G,[]⟩) (fun k=>l.length - k) 0 ⟨Nat.zero_le _,by simp⟩
  (x8 (.cons _ _ _ rfl (.cons _ _ _ rfl (.cons _ _ _ rfl (.cons _ _ _ rfl (.nil)))))) ?_
 rintro k ⟨hk,hnot⟩
 refine rn ?_;refine z8 rfl (fun hc9=> ?_) (fun hc9=> ?_)
 ·have hk2:k < l.length:=by simpa using hc9
  have hrow:(l.map zba)[k]? =some (zba l[k]):=by simp [hk2]
  have hd:=List.drop_eq_getElem_cons hk2
  refine rn ?_;refine qv rfl rfl (y6 rfl rfl (hp l[k] (by simp))) ?_
  refine rn ?_;refine z8 rfl (fun hc16=> ?_) (fun hc16=> ?_)
  ·refine rn ?_;exact k7 rfl (.refl _ _) ⟨rfl,by rw [hnot,hd,zbl,if_pos hc16];rfl⟩
  ·refine rn ?_;exact ⟨k+1,⟨by omega,by rw [hnot,hd,zbl,if_neg (by simp [hc16])]⟩,(x8 (.cons _ _ _ rfl (.cons _ _ _ rfl (.cons _ _ _ rfl (.cons _ _ _ rfl (.nil)))))),by omega⟩
 ·have hk3:k=l.length:=by
   have:l.length≤k:=by simpa using hc9
   omega
  refine rn ?_;exact k7 rfl (.refl _ _) ⟨rfl,by rw [hnot,hk3,List.drop_length,zbl];rfl⟩
theorem zf5 {full:Bool} (l:List Int) (fv:AV) (p:Int→Bool) (G:List Res) (hp:∀a∈l,y3 Tryz.prog fv [iv a] G (fun r h'=>h'=G∧r=bv (p a))) (hlen:l.length≤4611686018427387904):x3 Tryz.prog 171 [.list full 1 (l.map zba),fv] G (fun r h'=>h'=G∧r=bv (l.any p)):=by
 refine z6 Tryz.func171 rfl rfl rfl ?_
 refine rn ?_;refine qv rfl rfl (y6 rfl rfl (y3.of_fun (zo1 l _ p G hp hlen))) ?_
 refine rn ?_;exact k7 rfl (.refl _ _) ⟨rfl,by simp only [←zeq p l 0];rfl⟩
theorem zyw (a:Int) (fv:AV) (v:Bool) (b:Nat) (G:List Res) (hp:y3 Tryz.prog fv [iv a] G (fun r h'=>h'=G∧r=bv v)):x3 Tryz.prog 172 [iv a,pZ b] (.box b 42 [fv]::G) (fun r h'=>h'= .box b 42 [fv]::G∧r=bv (!v)):=by
 refine z6 Tryz.func172 rfl rfl rfl ?_
 refine rn ?_;refine qv rfl rfl (y6 rfl rfl (y3.quiet (R:=fun x=>x=bv v) (h2:= [_]) (List.perm_append_comm (l₁:= [_])) hp)) ?_
 refine rn ?_;exact k7 rfl (.refl _ _) ⟨rfl,rfl⟩
theorem yk8 {full:Bool} (l:List Int) (fv:AV) (p:Int→Bool) (G:List Res) (hone:fv.cellsOf=some [fv]) (hp:∀a∈l,y3 Tryz.prog fv [iv a] G (fun r h'=>h'=G∧r=bv (p a))) (hlen:l.length≤4611686018427387904):x3 Tryz.prog 132 [.list full 1 (l.map zba),fv] G (fun r h'=>h'=G∧r=bv (l.all p)):=by
 refine z6 Tryz.func132 rfl rfl rfl ?_
 refine rn ?_;refine z7 rfl (w6 rfl hone rfl fun b3=> ?_)
 refine rn ?_;refine qv rfl rfl (y6 rfl rfl (y3.of_fun (zf5 l _ (fun a=> !p a) (.box b3 42 [fv]::G) (fun a ha=>y3.of_acall (fs:= []) (cs:= [pZ b3]) (zyw a fv (p a) b3 G (hp a ha))) hlen))) ?_
 refine rn ?_;exact k7 rfl (.drop1 _ _ _) ⟨rfl,by simp only [←zg6 p l];rfl⟩
theorem zre {full:Bool} (l:List Ev) (fv:AV) (p:Ev→Bool) (G:List Res) (hp:∀a∈l,y3 Tryz.prog fv [.agg (evR a)] G (fun r h'=>h'=G∧r=bv (p a))) (hlen:l.length≤4611686018427387904):x3 Tryz.prog 202 [.list full 9 (l.map evR),fv] G (fun r h'=>h'=G∧r=iv (zbl p 0 l)):=by
 refine z6 Tryz.func202 rfl rfl rfl ?_
 refine rn ?_;refine u9 (fun k:Nat=>k≤l.length∧zbl p 0 l=zbl p k (l.drop k)) (fun k=>⟨[(8,iv k),(7,iv (l.map evR).length),(0,.list full 9 (l.map evR)),(1,fv)],G,[]⟩) (fun k=>l.length - k) 0 ⟨Nat.zero_le _,by simp⟩
  (x8 (.cons _ _ _ rfl (.cons _ _ _ rfl (.cons _ _ _ rfl (.cons _ _ _ rfl (.nil)))))) ?_
 rintro k ⟨hk,hnot⟩
 refine rn ?_;refine z8 rfl (fun hc9=> ?_) (fun hc9=> ?_)
 ·have hk2:k < l.length:=by simpa using hc9
  have hrow:(l.map evR)[k]? =some (evR l[k]):=by simp [hk2]
  have hd:=List.drop_eq_getElem_cons hk2
  refine rn ?_;refine qv rfl rfl (y6 rfl rfl (hp l[k] (by simp))) ?_
  refine rn ?_;refine z8 rfl (fun hc16=> ?_) (fun hc16=> ?_)
  ·refine rn ?_;exact k7 rfl (.refl _ _) ⟨rfl,by rw [hnot,hd,zbl,if_pos hc16];rfl⟩
  ·refine rn ?_;exact ⟨k+1,⟨by omega,by rw [hnot,hd,zbl,if_neg (by simp [hc16])]⟩,(x8 (.cons _ _ _ rfl (.cons _ _ _ rfl (.cons _ _ _ rfl (.cons _ _ _ rfl (.nil)))))),by omega⟩
 ·have hk3:k=l.length:=by
   have:l.length≤k:=by simpa using hc9
   omega
  refine rn ?_;exact k7 rfl (.refl _ _) ⟨rfl,by rw [hnot,hk3,List.drop_length,zbl];rfl⟩
theorem zgt {full:Bool} (l:List Ev) (fv:AV) (p:Ev→Bool) (G:List Res) (hp:∀a∈l,y3 Tryz.prog fv [.agg (evR a)] G (fun r h'=>h'=G∧r=bv (p a))) (hlen:l.length≤4611686018427387904):x3 Tryz.prog 173 [.list full 9 (l.map evR),fv] G (fun r h'=>h'=G∧r=bv (l.any p)):=by
 refine z6 Tryz.func173 rfl rfl rfl ?_
 refine rn ?_;refine qv rfl rfl (y6 rfl rfl (y3.of_fun (zre l _ p G hp hlen))) ?_
 refine rn ?_;exact k7 rfl (.refl _ _) ⟨rfl,by simp only [←zeq p l 0];rfl⟩
theorem yca (a:Ev) (fv:AV) (v:Bool) (b:Nat) (G:List Res) (hp:y3 Tryz.prog fv [.agg (evR a)] G (fun r h'=>h'=G∧r=bv v)):x3 Tryz.prog 174 [.agg (evR a),pZ b] (.box b 210 [fv]::G) (fun r h'=>h'= .box b 210 [fv]::G∧r=bv (!v)):=by
 refine z6 Tryz.func174 rfl rfl rfl ?_
 refine rn ?_;refine z7 rfl (w6 rfl rfl rfl fun b2=> ?_)
 refine rn ?_;refine qv rfl rfl (y6 rfl rfl (y3.quiet (R:=fun x=>x=bv v) (h2:= [_,_]) (List.perm_append_comm (l₁:= [_,_])) hp)) ?_
 refine rn ?_;exact k7 rfl (.drop1 _ _ _) ⟨rfl,rfl⟩
theorem ynl {full:Bool} (l:List Ev) (fv:AV) (p:Ev→Bool) (G:List Res) (hone:fv.cellsOf=some [fv]) (hp:∀a∈l,y3 Tryz.prog fv [.agg (evR a)] G (fun r h'=>h'=G∧r=bv (p a))) (hlen:l.length≤4611686018427387904):x3 Tryz.prog 135 [.list full 9 (l.map evR),fv] G (fun r h'=>h'=G∧r=bv (l.all p)):=by
 refine z6 Tryz.func135 rfl rfl rfl ?_
 refine rn ?_;refine z7 rfl (w6 rfl hone rfl fun b3=> ?_)
 refine rn ?_;refine qv rfl rfl (y6 rfl rfl (y3.of_fun (zgt l _ (fun a=> !p a) (.box b3 210 [fv]::G) (fun a ha=>y3.of_acall (fs:= []) (cs:= [pZ b3]) (yca a fv (p a) b3 G (hp a ha))) hlen))) ?_
 refine rn ?_;exact k7 rfl (.drop1 _ _ _) ⟨rfl,by simp only [←zg6 p l];rfl⟩
theorem ziu {full:Bool} (l:List Ord) (fv:AV) (p:Ord→Bool) (G:List Res) (hp:∀a∈l,y3 Tryz.prog fv [.agg (zc7 a)] G (fun r h'=>h'=G∧r=bv (p a))) (hlen:l.length≤4611686018427387904):x3 Tryz.prog 159 [.list full 2 (l.map zc7),fv] G (fun r h'=>h'=G∧r=iv (zbl p 0 l)):=by
 refine z6 Tryz.func159 rfl rfl rfl ?_
 refine rn ?_;refine u9 (fun k:Nat=>k≤l.length∧zbl p 0 l=zbl p k (l.drop k)) (fun k=>⟨[(8,iv k),(7,iv (l.map zc7).length),(0,.list full 2 (l.map zc7)),(1,fv)],G,[]⟩) (fun k=>l.length - k) 0 ⟨Nat.zero_le _,by simp⟩
  (x8 (.cons _ _ _ rfl (.cons _ _ _ rfl (.cons _ _ _ rfl (.cons _ _ _ rfl (.nil)))))) ?_
 rintro k ⟨hk,hnot⟩
 refine rn ?_;refine z8 rfl (fun hc9=> ?_) (fun hc9=> ?_)
 ·have hk2:k < l.length:=by simpa using hc9
  have hrow:(l.map zc7)[k]? =some (zc7 l[k]):=by simp [hk2]
  have hd:=List.drop_eq_getElem_cons hk2
  refine rn ?_;refine qv rfl rfl (y6 rfl rfl (hp l[k] (by simp))) ?_
  refine rn ?_;refine z8 rfl (fun hc16=> ?_) (fun hc16=> ?_)
  ·refine rn ?_;exact k7 rfl (.refl _ _) ⟨rfl,by rw [hnot,hd,zbl,if_pos hc16];rfl⟩
  ·refine rn ?_;exact ⟨k+1,⟨by omega,by rw [hnot,hd,zbl,if_neg (by simp [hc16])]⟩,(x8 (.cons _ _ _ rfl (.cons _ _ _ rfl (.cons _ _ _ rfl (.cons _ _ _ rfl (.nil)))))),by omega⟩
 ·have hk3:k=l.length:=by
   have:l.length≤k:=by simpa using hc9
   omega
  refine rn ?_;exact k7 rfl (.refl _ _) ⟨rfl,by rw [hnot,hk3,List.drop_length,zbl];rfl⟩
theorem zd7 {full:Bool} (l:List Ord) (fv:AV) (p:Ord→Bool) (G:List Res) (hp:∀a∈l,y3 Tryz.prog fv [.agg (zc7 a)] G (fun r h'=>h'=G∧r=bv (p a))) (hlen:l.length≤4611686018427387904):x3 Tryz.prog 185 [.list full 2 (l.map zc7),fv] G (fun r h'=>h'=G∧r=bv (l.any p)):=by
 refine z6 Tryz.func185 rfl rfl rfl ?_
 refine rn ?_;refine qv rfl rfl (y6 rfl rfl (y3.of_fun (ziu l _ p G hp hlen))) ?_
 refine rn ?_;exact k7 rfl (.refl _ _) ⟨rfl,by simp only [←zeq p l 0];rfl⟩
theorem zyu (a:Ord) (fv:AV) (v:Bool) (b:Nat) (G:List Res) (hp:y3 Tryz.prog fv [.agg (zc7 a)] G (fun r h'=>h'=G∧r=bv v)):x3 Tryz.prog 186 [.agg (zc7 a),pZ b] (.box b 212 [fv]::G) (fun r h'=>h'= .box b 212 [fv]::G∧r=bv (!v)):=by
 refine z6 Tryz.func186 rfl rfl rfl ?_
 refine rn ?_;refine z7 rfl (w6 rfl rfl rfl fun b2=> ?_)
 refine rn ?_;refine qv rfl rfl (y6 rfl rfl (y3.quiet (R:=fun x=>x=bv v) (h2:= [_,_]) (List.perm_append_comm (l₁:= [_,_])) hp)) ?_
 refine rn ?_;exact k7 rfl (.drop1 _ _ _) ⟨rfl,rfl⟩
theorem yk6 {full:Bool} (l:List Ord) (fv:AV) (p:Ord→Bool) (G:List Res) (hone:fv.cellsOf=some [fv]) (hp:∀a∈l,y3 Tryz.prog fv [.agg (zc7 a)] G (fun r h'=>h'=G∧r=bv (p a))) (hlen:l.length≤4611686018427387904):x3 Tryz.prog 138 [.list full 2 (l.map zc7),fv] G (fun r h'=>h'=G∧r=bv (l.all p)):=by
 refine z6 Tryz.func138 rfl rfl rfl ?_
 refine rn ?_;refine z7 rfl (w6 rfl hone rfl fun b3=> ?_)
 refine rn ?_;refine qv rfl rfl (y6 rfl rfl (y3.of_fun (zd7 l _ (fun a=> !p a) (.box b3 212 [fv]::G) (fun a ha=>y3.of_acall (fs:= []) (cs:= [pZ b3]) (zyu a fv (p a) b3 G (hp a ha))) hlen))) ?_
 refine rn ?_;exact k7 rfl (.drop1 _ _ _) ⟨rfl,by simp only [←zg6 p l];rfl⟩
theorem zo0 {full:Bool} (l:List Mat) (fv:AV) (p:Mat→Bool) (G:List Res) (hp:∀a∈l,y3 Tryz.prog fv [.agg (zdc a)] G (fun r h'=>h'=G∧r=bv (p a))) (hlen:l.length≤4611686018427387904):x3 Tryz.prog 205 [.list full 4 (l.map zdc),fv] G (fun r h'=>h'=G∧r=iv (zbl p 0 l)):=by
 refine z6 Tryz.func205 rfl rfl rfl ?_
 refine rn ?_;refine u9 (fun k:Nat=>k≤l.length∧zbl p 0 l=zbl p k (l.drop k)) (fun k=>⟨[(8,iv k),(7,iv (l.map zdc).length),(0,.list full 4 (l.map zdc)),(1,fv)],G,[]⟩) (fun k=>l.length - k) 0 ⟨Nat.zero_le _,by simp⟩
  (x8 (.cons _ _ _ rfl (.cons _ _ _ rfl (.cons _ _ _ rfl (.cons _ _ _ rfl (.nil)))))) ?_
 rintro k ⟨hk,hnot⟩
 refine rn ?_;refine z8 rfl (fun hc9=> ?_) (fun hc9=> ?_)
 ·have hk2:k < l.length:=by simpa using hc9
  have hrow:(l.map zdc)[k]? =some (zdc l[k]):=by simp [hk2]
  have hd:=List.drop_eq_getElem_cons hk2
  refine rn ?_;refine qv rfl rfl (y6 rfl rfl (hp l[k] (by simp))) ?_
  refine rn ?_;refine z8 rfl (fun hc16=> ?_) (fun hc16=> ?_)
  ·refine rn ?_;exact k7 rfl (.refl _ _) ⟨rfl,by rw [hnot,hd,zbl,if_pos hc16];rfl⟩
  ·refine rn ?_;exact ⟨k+1,⟨by omega,by rw [hnot,hd,zbl,if_neg (by simp [hc16])]⟩,(x8 (.cons _ _ _ rfl (.cons _ _ _ rfl (.cons _ _ _ rfl (.cons _ _ _ rfl (.nil)))))),by omega⟩
 ·have hk3:k=l.length:=by
   have:l.length≤k:=by simpa using hc9
   omega
  refine rn ?_;exact k7 rfl (.refl _ _) ⟨rfl,by rw [hnot,hk3,List.drop_length,zbl];rfl⟩
theorem zf4 {full:Bool} (l:List Mat) (fv:AV) (p:Mat→Bool) (G:List Res) (hp:∀a∈l,y3 Tryz.prog fv [.agg (zdc a)] G (fun r h'=>h'=G∧r=bv (p a))) (hlen:l.length≤4611686018427387904):x3 Tryz.prog 187 [.list full 4 (l.map zdc),fv] G (fun r h'=>h'=G∧r=bv (l.any p)):=by
 refine z6 Tryz.func187 rfl rfl rfl ?_
 refine rn ?_;refine qv rfl rfl (y6 rfl rfl (y3.of_fun (zo0 l _ p G hp hlen))) ?_
 refine rn ?_;exact k7 rfl (.refl _ _) ⟨rfl,by simp only [←zeq p l 0];rfl⟩
theorem zyv (a:Mat) (fv:AV) (v:Bool) (b:Nat) (G:List Res) (hp:y3 Tryz.prog fv [.agg (zdc a)] G (fun r h'=>h'=G∧r=bv v)):x3 Tryz.prog 188 [.agg (zdc a),pZ b] (.box b 214 [fv]::G) (fun r h'=>h'= .box b 214 [fv]::G∧r=bv (!v)):=by
 refine z6 Tryz.func188 rfl rfl rfl ?_
 refine rn ?_;refine z7 rfl (w6 rfl rfl rfl fun b2=> ?_)
 refine rn ?_;refine qv rfl rfl (y6 rfl rfl (y3.quiet (R:=fun x=>x=bv v) (h2:= [_,_]) (List.perm_append_comm (l₁:= [_,_])) hp)) ?_
 refine rn ?_;exact k7 rfl (.drop1 _ _ _) ⟨rfl,rfl⟩
theorem yk7 {full:Bool} (l:List Mat) (fv:AV) (p:Mat→Bool) (G:List Res) (hone:fv.cellsOf=some [fv]) (hp:∀a∈l,y3 Tryz.prog fv [.agg (zdc a)] G (fun r h'=>h'=G∧r=bv (p a))) (hlen:l.length≤4611686018427387904):x3 Tryz.prog 140 [.list full 4 (l.map zdc),fv] G (fun r h'=>h'=G∧r=bv (l.all p)):=by
 refine z6 Tryz.func140 rfl rfl rfl ?_
 refine rn ?_;refine z7 rfl (w6 rfl hone rfl fun b3=> ?_)
 refine rn ?_;refine qv rfl rfl (y6 rfl rfl (y3.of_fun (zf4 l _ (fun a=> !p a) (.box b3 214 [fv]::G) (fun a ha=>y3.of_acall (fs:= []) (cs:= [pZ b3]) (zyv a fv (p a) b3 G (hp a ha))) hlen))) ?_
 refine rn ?_;exact k7 rfl (.drop1 _ _ _) ⟨rfl,by simp only [←zg6 p l];rfl⟩
theorem zoz {full:Bool} (l:List Wan) (fv:AV) (p:Wan→Bool) (G:List Res) (hp:∀a∈l,y3 Tryz.prog fv [.agg (zcm a)] G (fun r h'=>h'=G∧r=bv (p a))) (hlen:l.length≤4611686018427387904):x3 Tryz.prog 102 [.list full 2 (l.map zcm),fv] G (fun r h'=>h'=G∧r=iv (zbl p 0 l)):=by
 refine z6 Tryz.func102 rfl rfl rfl ?_
 refine rn ?_;refine u9 (fun k:Nat=>k≤l.length∧zbl p 0 l=zbl p k (l.drop k)) (fun k=>⟨[(8,iv k),(7,iv (l.map zcm).length),(0,.list full 2 (l.map zcm)),(1,fv)],G,[]⟩) (fun k=>l.length - k) 0 ⟨Nat.zero_le _,by simp⟩
  (x8 (.cons _ _ _ rfl (.cons _ _ _ rfl (.cons _ _ _ rfl (.cons _ _ _ rfl (.nil)))))) ?_
 rintro k ⟨hk,hnot⟩
 refine rn ?_;refine z8 rfl (fun hc9=> ?_) (fun hc9=> ?_)
 ·have hk2:k < l.length:=by simpa using hc9
  have hrow:(l.map zcm)[k]? =some (zcm l[k]):=by simp [hk2]
  have hd:=List.drop_eq_getElem_cons hk2
  refine rn ?_;refine qv rfl rfl (y6 rfl rfl (hp l[k] (by simp))) ?_
  refine rn ?_;refine z8 rfl (fun hc16=> ?_) (fun hc16=> ?_)
  ·refine rn ?_;exact k7 rfl (.refl _ _) ⟨rfl,by rw [hnot,hd,zbl,if_pos hc16];rfl⟩
  ·refine rn ?_;exact ⟨k+1,⟨by omega,by rw [hnot,hd,zbl,if_neg (by simp [hc16])]⟩,(x8 (.cons _ _ _ rfl (.cons _ _ _ rfl (.cons _ _ _ rfl (.cons _ _ _ rfl (.nil)))))),by omega⟩
 ·have hk3:k=l.length:=by
   have:l.length≤k:=by simpa using hc9
   omega
  refine rn ?_;exact k7 rfl (.refl _ _) ⟨rfl,by rw [hnot,hk3,List.drop_length,zbl];rfl⟩
theorem zf3 {full:Bool} (l:List Wan) (fv:AV) (p:Wan→Bool) (G:List Res) (hp:∀a∈l,y3 Tryz.prog fv [.agg (zcm a)] G (fun r h'=>h'=G∧r=bv (p a))) (hlen:l.length≤4611686018427387904):x3 Tryz.prog 49 [.list full 2 (l.map zcm),fv] G (fun r h'=>h'=G∧r=bv (l.any p)):=by
 refine z6 Tryz.func49 rfl rfl rfl ?_
 refine rn ?_;refine qv rfl rfl (y6 rfl rfl (y3.of_fun (zoz l _ p G hp hlen))) ?_
 refine rn ?_;exact k7 rfl (.refl _ _) ⟨rfl,by simp only [←zeq p l 0];rfl⟩
theorem zyt (a:Wan) (fv:AV) (v:Bool) (b:Nat) (G:List Res) (hp:y3 Tryz.prog fv [.agg (zcm a)] G (fun r h'=>h'=G∧r=bv v)):x3 Tryz.prog 189 [.agg (zcm a),pZ b] (.box b 94 [fv]::G) (fun r h'=>h'= .box b 94 [fv]::G∧r=bv (!v)):=by
 refine z6 Tryz.func189 rfl rfl rfl ?_
 refine rn ?_;refine z7 rfl (w6 rfl rfl rfl fun b2=> ?_)
 refine rn ?_;refine qv rfl rfl (y6 rfl rfl (y3.quiet (R:=fun x=>x=bv v) (h2:= [_,_]) (List.perm_append_comm (l₁:= [_,_])) hp)) ?_
 refine rn ?_;exact k7 rfl (.drop1 _ _ _) ⟨rfl,rfl⟩
theorem yk5 {full:Bool} (l:List Wan) (fv:AV) (p:Wan→Bool) (G:List Res) (hone:fv.cellsOf=some [fv]) (hp:∀a∈l,y3 Tryz.prog fv [.agg (zcm a)] G (fun r h'=>h'=G∧r=bv (p a))) (hlen:l.length≤4611686018427387904):x3 Tryz.prog 142 [.list full 2 (l.map zcm),fv] G (fun r h'=>h'=G∧r=bv (l.all p)):=by
 refine z6 Tryz.func142 rfl rfl rfl ?_
 refine rn ?_;refine z7 rfl (w6 rfl hone rfl fun b3=> ?_)
 refine rn ?_;refine qv rfl rfl (y6 rfl rfl (y3.of_fun (zf3 l _ (fun a=> !p a) (.box b3 94 [fv]::G) (fun a ha=>y3.of_acall (fs:= []) (cs:= [pZ b3]) (zyt a fv (p a) b3 G (hp a ha))) hlen))) ?_
 refine rn ?_;exact k7 rfl (.drop1 _ _ _) ⟨rfl,by simp only [←zg6 p l];rfl⟩
theorem zm9 {full:Bool} (l:List Seen) (fv:AV) (p:Seen→Bool) (G:List Res) (hp:∀a∈l,y3 Tryz.prog fv [.agg (zaw a)] G (fun r h'=>h'=G∧r=bv (p a))) (hlen:l.length≤4611686018427387904):x3 Tryz.prog 222 [.list full 3 (l.map zaw),fv] G (fun r h'=>h'=G∧r=iv (zbl p 0 l)):=by
 refine z6 Tryz.func222 rfl rfl rfl ?_
 refine rn ?_;refine u9 (fun k:Nat=>k≤l.length∧zbl p 0 l=zbl p k (l.drop k)) (fun k=>⟨[(8,iv k),(7,iv (l.map zaw).length),(0,.list full 3 (l.map zaw)),(1,fv)],G,[]⟩) (fun k=>l.length - k) 0 ⟨Nat.zero_le _,by simp⟩
  (x8 (.cons _ _ _ rfl (.cons _ _ _ rfl (.cons _ _ _ rfl (.cons _ _ _ rfl (.nil)))))) ?_
 rintro k ⟨hk,hnot⟩
 refine rn ?_;refine z8 rfl (fun hc9=> ?_) (fun hc9=> ?_)
 ·have hk2:k < l.length:=by simpa using hc9
  have hrow:(l.map zaw)[k]? =some (zaw l[k]):=by simp [hk2]
  have hd:=List.drop_eq_getElem_cons hk2
  refine rn ?_;refine qv rfl rfl (y6 rfl rfl (hp l[k] (by simp))) ?_
  refine rn ?_;refine z8 rfl (fun hc16=> ?_) (fun hc16=> ?_)
  ·refine rn ?_;exact k7 rfl (.refl _ _) ⟨rfl,by rw [hnot,hd,zbl,if_pos hc16];rfl⟩
  ·refine rn ?_;exact ⟨k+1,⟨by omega,by rw [hnot,hd,zbl,if_neg (by simp [hc16])]⟩,(x8 (.cons _ _ _ rfl (.cons _ _ _ rfl (.cons _ _ _ rfl (.cons _ _ _ rfl (.nil)))))),by omega⟩
 ·have hk3:k=l.length:=by
   have:l.length≤k:=by simpa using hc9
   omega
  refine rn ?_;exact k7 rfl (.refl _ _) ⟨rfl,by rw [hnot,hk3,List.drop_length,zbl];rfl⟩
theorem zds {full:Bool} (l:List Seen) (fv:AV) (p:Seen→Bool) (G:List Res) (hp:∀a∈l,y3 Tryz.prog fv [.agg (zaw a)] G (fun r h'=>h'=G∧r=bv (p a))) (hlen:l.length≤4611686018427387904):x3 Tryz.prog 203 [.list full 3 (l.map zaw),fv] G (fun r h'=>h'=G∧r=bv (l.any p)):=by
 refine z6 Tryz.func203 rfl rfl rfl ?_
 refine rn ?_;refine qv rfl rfl (y6 rfl rfl (y3.of_fun (zm9 l _ p G hp hlen))) ?_
 refine rn ?_;exact k7 rfl (.refl _ _) ⟨rfl,by simp only [←zeq p l 0];rfl⟩
theorem zu2 (a:Seen) (fv:AV) (v:Bool) (b:Nat) (G:List Res) (hp:y3 Tryz.prog fv [.agg (zaw a)] G (fun r h'=>h'=G∧r=bv v)):x3 Tryz.prog 204 [.agg (zaw a),pZ b] (.box b 248 [fv]::G) (fun r h'=>h'= .box b 248 [fv]::G∧r=bv (!v)):=by
 refine z6 Tryz.func204 rfl rfl rfl ?_
 refine rn ?_;refine z7 rfl (w6 rfl rfl rfl fun b2=> ?_)
 refine rn ?_;refine qv rfl rfl (y6 rfl rfl (y3.quiet (R:=fun x=>x=bv v) (h2:= [_,_]) (List.perm_append_comm (l₁:= [_,_])) hp)) ?_
 refine rn ?_;exact k7 rfl (.drop1 _ _ _) ⟨rfl,rfl⟩
theorem yg1 {full:Bool} (l:List Seen) (fv:AV) (p:Seen→Bool) (G:List Res) (hone:fv.cellsOf=some [fv]) (hp:∀a∈l,y3 Tryz.prog fv [.agg (zaw a)] G (fun r h'=>h'=G∧r=bv (p a))) (hlen:l.length≤4611686018427387904):x3 Tryz.prog 182 [.list full 3 (l.map zaw),fv] G (fun r h'=>h'=G∧r=bv (l.all p)):=by
 refine z6 Tryz.func182 rfl rfl rfl ?_
 refine rn ?_;refine z7 rfl (w6 rfl hone rfl fun b3=> ?_)
 refine rn ?_;refine qv rfl rfl (y6 rfl rfl (y3.of_fun (zds l _ (fun a=> !p a) (.box b3 248 [fv]::G) (fun a ha=>y3.of_acall (fs:= []) (cs:= [pZ b3]) (zu2 a fv (p a) b3 G (hp a ha))) hlen))) ?_
 refine rn ?_;exact k7 rfl (.drop1 _ _ _) ⟨rfl,by simp only [←zg6 p l];rfl⟩
theorem yik (e:Ev):x3 Tryz.prog 263 [.agg (evR e)] [] (fun r h'=>h'= []∧r=zso (zhd e)):=by
 refine z6 Tryz.func263 rfl rfl rfl ?_
 refine rn ?_;refine z7 rfl (w6 rfl rfl rfl fun b1=> ?_)
 refine rn ?_;refine z8 rfl (fun hc5=> ?_) (fun hc5=> ?_)
 ·refine rn ?_;refine qv rfl rfl (u1 rfl rfl) ?_
  refine rn ?_;exact k7 rfl (.trans (.drop [_] _ _) (.le Sb.unfull.le)) ⟨rfl,by rw [zhd,if_pos (by simpa using hc5)];rfl⟩
 ·refine rn ?_;refine rq 1 ?_
  exact ⟨rfl,by rw [zhd,if_neg (by simpa using hc5)];rfl⟩
theorem ye4 (e:Ev) (bl bp:Nat) (h:Hist) (p:List Ev) (r1 r2 r3 r4 r5:Nat):x3 Tryz.prog 259 [.agg (evR e),pZ bp] (zca bl h p r1 r2 r3 r4 r5 [.box bp 198 [pZ bl]]) (fun r h'=>h'=(zca bl h p r1 r2 r3 r4 r5 [.box bp 198 [pZ bl]])∧r=bv (zb3 1 e p)):=by
 refine z6 Tryz.func259 rfl rfl rfl ?_
 refine rn ?_;refine z7 rfl (w6 rfl rfl rfl fun b2=> ?_)
 refine rn ?_;refine j5 10 rfl ?_
 refine dq rfl rfl qrA ?_;refine dq rfl rfl qrA ?_;refine dq rfl rfl qrA ?_;refine dq rfl rfl qrA ?_;refine dq rfl rfl qrA ?_;refine dq rfl rfl qrA ?_;refine dq rfl rfl (zbz (enc:=zbq) (k:=e.t) false rfl rfl) ?_
 refine rn ?_;refine rq 1 ?_
 exact ⟨rfl,congrArg bv (by rw [yb1];simp only [zb3];cases ztk p e.t <;> rfl)⟩
theorem ymi (e:Ev) (bl bp:Nat) (h:Hist) (p:List Ev) (r1 r2 r3 r4 r5:Nat):x3 Tryz.prog 260 [.agg (evR e),pZ bp] (zca bl h p r1 r2 r3 r4 r5 [.box bp 198 [pZ bl]]) (fun r h'=>h'=(zca bl h p r1 r2 r3 r4 r5 [.box bp 198 [pZ bl]])∧r=bv (zb3 2 e p)):=by
 refine z6 Tryz.func260 rfl rfl rfl ?_
 refine rn ?_;refine z7 rfl (w6 rfl rfl rfl fun b2=> ?_)
 refine rn ?_;refine j5 6 rfl ?_
 refine rn2 ?_;refine qq rfl rfl (zbz (enc:=zbq) (k:=e.t) false rfl rfl) ?_
 refine rn ?_;refine rq 1 ?_
 exact ⟨rfl,congrArg bv (by rw [yah];simp only [zb3];cases yai p e.t <;> rfl)⟩
theorem ye3 (e:Ev) (bl bp:Nat) (h:Hist) (p:List Ev) (r1 r2 r3 r4 r5:Nat) (hl:p.length≤1000000):x3 Tryz.prog 261 [.agg (evR e),pZ bp] (zca bl h p r1 r2 r3 r4 r5 [.box bp 198 [pZ bl]]) (fun r h'=>h'=(zca bl h p r1 r2 r3 r4 r5 [.box bp 198 [pZ bl]])∧r=bv (zb3 3 e p)):=by
 refine z6 Tryz.func261 rfl rfl rfl ?_
 have hw:=zjw p e.t e.o
 refine rn ?_;refine z7 rfl (w6 rfl rfl rfl fun b2=> ?_)
 refine rn ?_;refine j5 18 rfl ?_
 refine rn ?_;refine ze1 (fun hg1_3=> ?_) (fun hg1_3=> ?_)
 ·refine dq rfl rfl qrA ?_;refine dq rfl rfl qrA ?_;refine dq rfl rfl qrA ?_;refine dq rfl rfl qrA ?_;refine dq rfl rfl qrA ?_;refine dq rfl rfl qrA ?_;refine dq rfl rfl qrA ?_;refine dq rfl rfl qrA ?_;refine dq rfl rfl qrA ?_;refine dq rfl rfl qrA ?_;refine dq rfl rfl qrA ?_;refine dq rfl rfl (zac (out:= [iv e.t,iv e.o]) rfl (by rfl)) ?_
  refine dq rfl rfl (zbz (enc:=zda) (k:=(e.t,e.o)) 0 rfl rfl) ?_
  refine dq rfl rfl (k6 rfl rfl rfl (by rw [zi4];omega)) ?_
  refine rn ?_;refine rq 1 ?_
  exact ⟨rfl,congrArg bv (by simp only [zb3];rw [←zi4];simp_all [bne])⟩
 ·refine rn ?_;refine rq 1 ?_
  exact ⟨rfl,congrArg bv (by simp only [zb3];rw [←zi4];simp_all [bne])⟩
theorem zt5 (s:Seen) (bl bp:Nat) (h:Hist) (p:List Ev) (r1 r2 r3 r4 r5:Nat):x3 Tryz.prog 264 [.agg (zaw s),pZ bp] (zca bl h p r1 r2 r3 r4 r5 [.box bp 198 [pZ bl]]) (fun r h'=>h'=(zca bl h p r1 r2 r3 r4 r5 [.box bp 198 [pZ bl]])∧r=bv (decide (s.v.k > 0) && !zlq p s.o s.v)):=by
 refine z6 Tryz.func264 rfl rfl rfl ?_
 refine rn ?_;refine z7 rfl (w6 rfl rfl rfl fun b2=> ?_)
 refine rn ?_;refine j5 14 rfl ?_
 refine rn ?_;refine ze1 (fun hg1_4=> ?_) (fun hg1_4=> ?_)
 ·refine dq rfl rfl qrA ?_;refine dq rfl rfl qrA ?_;refine dq rfl rfl qrA ?_;refine dq rfl rfl qrA ?_;refine dq rfl rfl qrA ?_;refine dq rfl rfl qrA ?_;refine dq rfl rfl qrA ?_;refine dq rfl rfl qrA ?_;refine dq rfl rfl (zac (out:= [iv s.o,iv s.v.t,iv s.v.k]) rfl (by rfl)) ?_
  refine rn2 ?_;refine qq rfl rfl (zbz (enc:=zeo) (k:=(s.o,s.v.t,s.v.k)) false rfl rfl) ?_
  refine rn ?_;refine rq 1 ?_
  exact ⟨rfl,congrArg bv (by first|(rw [zr7];cases zlq p s.o s.v <;> simp_all;done)|(simp_all;done)|(simp_all <;> (intros;omega)))⟩
 ·refine rn ?_;refine rq 1 ?_
  exact ⟨rfl,congrArg bv (by first|(rw [zr7];cases zlq p s.o s.v <;> simp_all;done)|(simp_all;done)|(simp_all <;> (intros;omega)))⟩
theorem zv5 (e:Ev) (bl bp:Nat) (h:Hist) (p:List Ev) (r1 r2 r3 r4 r5:Nat) (hl:e.scan.length≤4611686018427387904):x3 Tryz.prog 262 [.agg (evR e),pZ bp] (zca bl h p r1 r2 r3 r4 r5 [.box bp 198 [pZ bl]]) (fun r h'=>h'=(zca bl h p r1 r2 r3 r4 r5 [.box bp 198 [pZ bl]])∧r=bv (zb3 4 e p)):=by
 refine z6 Tryz.func262 rfl rfl rfl ?_
 refine rn ?_;refine z7 rfl (w6 rfl rfl rfl fun b2=> ?_)
 refine rn ?_;refine qv rfl rfl (y6 rfl rfl (zax (yik _) (Sbs.refl _))) ?_
 refine rn ?_;refine qv rfl rfl (y6 rfl rfl (y3.quiet (R:=fun r=>r=bv _) (h2:= [_]) (List.perm_append_comm (l₁:= [_])) (y3.of_fun (zds (zhd e) _ _ (zca bl h p r1 r2 r3 r4 r5 [.box bp 198 [pZ bl]]) (fun s _=>y3.of_acall (fs:= []) (cs:= [pZ bp]) (zt5 s bl bp h p r1 r2 r3 r4 r5)) (zl0 hl))))) ?_
 refine rn ?_;refine rq 1 ?_
 exact ⟨rfl,rfl⟩
theorem yim (s:Seen) (e:Ev) (be:Nat) (bl bp:Nat) (h:Hist) (p:List Ev) (r1 r2 r3 r4 r5:Nat):x3 Tryz.prog 266 [.agg (zaw s),pZ bp,pZ be] (.box be 66 (evR e)::(zca bl h p r1 r2 r3 r4 r5 [.box bp 198 [pZ bl]])) (fun r h'=>h'=(.box be 66 (evR e)::(zca bl h p r1 r2 r3 r4 r5 [.box bp 198 [pZ bl]]))∧r=bv (match zuk p e.t s.o with|some v=>v !=s.v|none=>false)):=by
 refine z6 Tryz.func266 rfl rfl rfl ?_
 refine rn ?_;refine z7 rfl (w6 rfl rfl rfl fun b3=> ?_)
 refine rn0 ?_;refine x9 ?_;refine zjv 15 [13,14] [] (fun he=>he= .box b3 139 (zaw s)::(.box be 66 (evR e)::(zca bl h p r1 r2 r3 r4 r5 [.box bp 198 [pZ bl]]))∨∃b c,he= .box b 63 c:: .box b3 139 (zaw s)::(.box be 66 (evR e)::(zca bl h p r1 r2 r3 r4 r5 [.box bp 198 [pZ bl]]))) rfl rfl (.inl rfl) ?_
 refine jq rfl (fun he hC=>by rcases hC with rfl|⟨b,c,rfl⟩ <;> exact qrA) ?_
 refine jq rfl (fun he hC=>by rcases hC with rfl|⟨b,c,rfl⟩ <;> exact qrA) ?_
 refine jq rfl (fun he hC=>by rcases hC with rfl|⟨b,c,rfl⟩ <;> exact qrA) ?_
 refine jq rfl (fun he hC=>by rcases hC with rfl|⟨b,c,rfl⟩ <;> exact qrA) ?_
 refine jq rfl (fun he hC=>by rcases hC with rfl|⟨b,c,rfl⟩ <;> exact qrA) ?_
 refine jq rfl (fun he hC=>by rcases hC with rfl|⟨b,c,rfl⟩ <;> exact qrA) ?_
 refine jq rfl (fun he hC=>by rcases hC with rfl|⟨b,c,rfl⟩ <;> exact qrA) ?_
 refine jq rfl (fun he hC=>by rcases hC with rfl|⟨b,c,rfl⟩ <;> exact qrA) ?_
 refine jq rfl (fun he hC=>by rcases hC with rfl|⟨b,c,rfl⟩ <;> exact (by exact zac (out:= [iv e.t,iv s.o]) rfl (by rfl))) ?_
 refine jq rfl (fun he hC=>by rcases hC with rfl|⟨b,c,rfl⟩ <;> exact (by exact zok (enc:=zda) (k:=(e.t,s.o)) (⟨0,0⟩:Ver) rfl rfl rfl)) ?_
 refine jq rfl (fun he hC=>by rcases hC with rfl|⟨b,c,rfl⟩ <;> exact qrA) ?_
 refine jq rfl (fun he hC=>by rcases hC with rfl|⟨b,c,rfl⟩ <;> exact qrA) ?_
 refine jq rfl (fun he hC=>by rcases hC with rfl|⟨b,c,rfl⟩ <;> exact qrA) ?_
 refine je rfl ?_;refine je rfl ?_;refine ya9 ?_;refine jce rfl fun u=> ?_
 refine x6 rfl fun b5=>⟨_,_,rfl,.inr ⟨_,_,rfl⟩,?_⟩
 refine jce rfl fun u=> ?_
 refine za3 rfl rfl rfl ⟨.any,_,rfl,.inr ⟨_,_,rfl⟩,?_⟩
 refine jcn ?_;refine ln ?_;refine rn ?_;refine q9 (fun hg2_1=> ?_) (fun hg2_1=> ?_)
 ·refine rn ?_;refine rq 2 ?_
  exact ⟨rfl,congrArg bv (by rw [zjk] at hg2_1;(try rw [zjk]);cases hv:zuk p e.t s.o <;> simp_all [yhl,bne,zvi])⟩
 ·refine rn ?_;refine rq 2 ?_
  exact ⟨rfl,congrArg bv (by rw [zjk] at hg2_1;(try rw [zjk]);cases hv:zuk p e.t s.o <;> simp_all [yhl,bne,zvi])⟩
theorem yme (e:Ev) (bl bp:Nat) (h:Hist) (p:List Ev) (r1 r2 r3 r4 r5:Nat) (hl:e.scan.length≤4611686018427387904):x3 Tryz.prog 265 [.agg (evR e),pZ bp] (zca bl h p r1 r2 r3 r4 r5 [.box bp 198 [pZ bl]]) (fun r h'=>h'=(zca bl h p r1 r2 r3 r4 r5 [.box bp 198 [pZ bl]])∧r=bv (zb3 5 e p)):=by
 refine z6 Tryz.func265 rfl rfl rfl ?_
 refine rn ?_;refine z7 rfl (w6 rfl rfl rfl fun b2=> ?_)
 refine rn ?_;refine qv rfl rfl (y6 rfl rfl (zax (yik _) (Sbs.refl _))) ?_
 refine rn ?_;refine qv rfl rfl (y6 rfl rfl (y3.of_fun (zds (zhd e) _ _ (.box b2 66 (evR e)::(zca bl h p r1 r2 r3 r4 r5 [.box bp 198 [pZ bl]])) (fun s _=>y3.of_acall (fs:= []) (cs:= [pZ bp,pZ b2]) (yim s e b2 bl bp h p r1 r2 r3 r4 r5)) (zl0 hl)))) ?_
 refine rn ?_;refine rq 1 ?_
 exact ⟨rfl,rfl⟩
theorem yil (e:Ev) (hl:e.scan.length≤4611686018427387904):x3 Tryz.prog 267 [.agg (evR e)] [] (fun r h'=>h'= []∧r=bv (zb3 6 e [])):=by
 refine z6 Tryz.func267 rfl rfl rfl ?_
 refine rn ?_;refine z7 rfl (w6 rfl rfl rfl fun b1=> ?_)
 refine rn ?_;refine zhv ?_;refine rn ?_;refine z7 rfl (zaq (enc:=zbq) rfl fun b6=> ?_)
 refine rn ?_;refine za5 e.scan.length (fun k=>((e.scan.take k).map Seen.o).Nodup) (fun k=>⟨[(10,iv k),(1,pZ b1),(3,.v (.map (some b6))),(8,zso e.scan),(9,iv (e.scan.map zaw).length)],[.map b6 (j9 zbq (zbh bv (zsy (e.scan.take k)))),.box b1 66 (evR e)],[]⟩) (by simp) es ?_
 intro k lk nk
 refine rn ?_;refine z8 rfl (fun hc11=> ?_) (fun hc11=> ?_)
 ·have hk:=zdr hc11
  have rk:=zdp (f:=zaw) hk
  refine rn ?_;refine z7 rfl (x6 rfl fun b5=> ?_)
  first|refine z7 rfl (za3 rfl rfl rfl ?_)|refine z7 rfl (zbs rfl rfl rfl rfl (Nat.le_of_ble_eq_true rfl) ?_)
  refine u3 (j8 ?_)
  refine x9 ?_;refine x9 (y5 ?_)
  refine q1 ?_;refine q1 ?_;refine q1 ?_;refine qq rfl rfl (zbz (enc:=zbq) (k:=e.scan[k].o) false rfl rfl) ?_
  refine rn ?_;refine z8 rfl (fun hc17=> ?_) (fun hc17=> ?_)
  ·refine zg4 ?_;refine zgv ?_;refine zh8 rfl ?_;refine zgv ?_;refine zgv ?_;refine zdm ?_;refine j8 ?_;refine x9 (y5 ?_)
   refine q1 ?_;refine qq rfl rfl (zl7 (enc:=zbq) rfl) ?_
   refine rn ?_;refine ⟨fun l h=>(by cases h),?_⟩
   first|(refine rq 3 ?_;exact ⟨rfl,congrArg bv (ycm hk nk (by simpa using hc17))⟩)|(refine rq 2 ?_;exact ⟨rfl,congrArg bv (ycn nk)⟩)
  ·have hx:=yi9 (by simpa using hc17)
   refine rn ?_;refine z7 rfl (za0 (g:=bv) (enc:=zbq) (k:=e.scan[k].o) (v:=true) rfl rfl rfl ?_)
   refine rn ?_;exact ⟨hk,yar hk nk hx,by rw [zwq hk];exact eA⟩
 ·have qk:=zdx hc11 lk
  subst qk
  refine zg4 ?_;refine zgv ?_;refine zgv ?_;refine zdm ?_;refine j8 ?_;refine x9 (y5 ?_)
  refine q1 ?_;refine qq rfl rfl (zl7 (enc:=zbq) rfl) ?_
  refine rn ?_;refine ⟨fun l h=>(by cases h),?_⟩
  first|(refine rq 3 ?_;exact ⟨rfl,congrArg bv (ycm hk nk (by simpa using hc17))⟩)|(refine rq 2 ?_;exact ⟨rfl,congrArg bv (ycn nk)⟩)
end Go.Proofs
namespace Go.Ab
open Go
def isM (i:Nat):Bool:=Nat.blt i 10
def mkE (L:List Nat) (ρ:Nat→Nat):Fr:=(L.filter isM).map fun i=>(i+6,.v (.map (some (ρ i))))
def mkH (L:List Nat) (ρ:Nat→Nat):List Res:=(L.filter isM).map fun i=> .map (ρ i) []
def cel (L:List Nat) (ρ:Nat→Nat) (s m:Nat):AV:=if s∈L then .v (.map (some (ρ m))) else .v (.map none)
def zpr (L:List Nat) (ρ:Nat→Nat):List AV:= [cel L ρ 12 5,cel L ρ 15 6,cel L ρ 18 7,cel L ρ 21 8,.v (.map none)]
def eff5:List Nat:= [5,6,7,8,9,12,15,18,21]
def J5 (bl:Nat) (T:TypeId) (c0:List AV) (R:List Res) (L:List Nat) (ee:Fr) (he:List Res):Prop:=
 L.Nodup∧(∀i∈L,i∈eff5)∧((12∈L→5∈L)∧(15∈L→6∈L)∧(18∈L→7∈L)∧(21∈L→8∈L))∧∃ρ,ee=mkE L ρ∧he=mkH L ρ++ .box bl T (c0++zpr L ρ)::R
theorem J5.start {bl:Nat} {T:TypeId} {c0:List AV} {R:List Res}:J5 bl T c0 R [] [] (.box bl T (c0++ [.v (.map none),.v (.map none),.v (.map none),.v (.map none),.v (.map none)])::R):=
 ⟨.nil,fun i h=>by simp at h,⟨fun h=>by simp at h,fun h=>by simp at h,fun h=>by simp at h,fun h=>by simp at h⟩,fun _=>0,rfl,by simp [mkH,zpr,cel]⟩
theorem yaq {L:List Nat} {ρ ρ':Nat→Nat} (h:∀i∈L,ρ i=ρ' i):mkE L ρ=mkE L ρ'∧mkH L ρ=mkH L ρ':=
 ⟨List.map_congr_left fun i hi=>by rw [h i (List.mem_filter.1 hi).1],List.map_congr_left fun i hi=>by rw [h i (List.mem_filter.1 hi).1]⟩
theorem J5.make {bl:Nat} {T:TypeId} {c0:List AV} {R:List Res} {L:List Nat} {ee:Fr} {he:List Res} {i:Nat} (h:J5 bl T c0 R L ee he) (hi:i ∉ L) (hm:isM i=true) (hie:i∈eff5) (r:Nat):J5 bl T c0 R (i::L) ((i+6,.v (.map (some r)))::ee) (.map r []::he):=by
 obtain ⟨h1,h2,⟨p1,p2,p3,p4⟩,ρ,rfl,rfl⟩:=h
 have hlt:i < 10:=Nat.le_of_ble_eq_true hm
 have hne:∀j∈L,ρ j=(fun j=>if j=i then r else ρ j) j:=fun j hj=>by
  have:j≠i:=fun e=>hi (e ▸ hj)
  simp [this]
 obtain ⟨e1,e2⟩:=yaq hne
 refine ⟨List.nodup_cons.2 ⟨hi,h1⟩,fun j hj=>(List.mem_cons.1 hj).elim (fun e=>e ▸ hie) (h2 j),⟨?_,?_,?_,?_⟩,fun j=>if j=i then r else ρ j,?_,?_⟩
 iterate 4 (· intro hx;rcases List.mem_cons.1 hx with e|hx;omega;first|exact List.mem_cons_of_mem _ (p1 hx)|exact List.mem_cons_of_mem _ (p2 hx)|exact List.mem_cons_of_mem _ (p3 hx)|exact List.mem_cons_of_mem _ (p4 hx))
 ·rw [e1];simp [mkE,List.filter_cons,hm]
 ·have hc:∀s m,10≤s→(s∈L→m∈L)→cel L ρ s m=cel (i::L) (fun j=>if j=i then r else ρ j) s m:=fun s m hs hsm=>by
   unfold cel
   by_cases hx:s∈L
   ·rw [if_pos hx,if_pos (List.mem_cons_of_mem _ hx),←hne m (hsm hx)]
   ·rw [if_neg hx,if_neg (fun q=>(List.mem_cons.1 q).elim (by omega) hx)]
  rw [e2]
  have:zpr L ρ=zpr (i::L) (fun j=>if j=i then r else ρ j):=by
   unfold zpr
   rw [hc 12 5 (by omega) p1,hc 15 6 (by omega) p2,hc 18 7 (by omega) p3,hc 21 8 (by omega) p4]
  rw [this];simp [mkH,List.filter_cons,hm]
theorem zgz {ρ:Nat→Nat} {m:Nat} (hm:isM m=true):∀{L:List Nat},m∈L→lk (mkE L ρ) (m+6)=some (.v (.map (some (ρ m))))
 | [],h=>by simp at h
 |j::L,h=>by
  unfold mkE
  rw [List.filter_cons]
  by_cases hj:isM j=true
  ·rw [if_pos hj,List.map_cons,lk]
   by_cases e:j=m
   ·subst e;simp
   ·have:Nat.beq (j+6) (m+6)=false:=by
     cases hb:Nat.beq (j+6) (m+6) with
     |false=>rfl
     |true=>have:=Nat.eq_of_beq_eq_true hb;omega
    rw [this]
    exact zgz hm ((List.mem_cons.1 h).resolve_left (fun q=>e q.symm))
  ·rw [if_neg hj]
   refine zgz hm ((List.mem_cons.1 h).resolve_left (fun q=>hj (q ▸ hm)))
theorem zjg {ρ:Nat→Nat} {d:Nat} (hd:d < 6):∀{L:List Nat},lk (mkE L ρ) d=none
 | []=>rfl
 |j::L=>by
  unfold mkE
  rw [List.filter_cons]
  split
  ·rw [List.map_cons,lk]
   have:Nat.beq (j+6) d=false:=by
    cases hb:Nat.beq (j+6) d with
    |false=>rfl
    |true=>have:=Nat.eq_of_beq_eq_true hb;omega
   rw [this];exact zjg hd
  ·exact zjg hd
theorem yjd {E ee t:Fr} {d:Nat} {a:AV} (h1:lk E d=none) (h2:lk ee d=none) (h3:lk t d=some a):lk ((E++ee)++t) d=some a:=by
 rw [v8,v8,h1];simp only;rw [h2];exact h3
theorem ymt {E ee t:Fr} {d:Nat} {a:AV} (h1:lk E d=none) (h2:lk ee d=some a):lk ((E++ee)++t) d=some a:=by
 rw [v8,v8,h1];simp only;rw [h2]
theorem yax {A ee B:Fr} {ds:List Tmp} {d:Nat} {a:AV} (h1:lk A d=none) (h2:ds.any (Nat.beq d)=true) (h3:lk ee d=some a):lk (A++(zgm ds ee++B)) d=some a:=by
 rw [v8,h1]
 simp only
 rw [v8,zgm,zc8 (q:=fun d=>ds.any (Nat.beq d)) h2,h3]
section
variable {bl:Nat} {T:TypeId} {c0:List AV} {R:List Res} {L:List Nat} {ρ:Nat→Nat}
theorem yls:HasBox (mkH L ρ++ .box bl T (c0++zpr L ρ)::R) bl (mkH L ρ).length T (c0++zpr L ρ):=⟨by simp⟩
theorem ylj (x:Res):SetAt (mkH L ρ++ .box bl T (c0++zpr L ρ)::R) (mkH L ρ).length x (mkH L ρ++x::R):=⟨by simp⟩
theorem J5.put {s m:Nat} {cs':List AV} (h:J5 bl T c0 R L (mkE L ρ) (mkH L ρ++ .box bl T (c0++zpr L ρ)::R)) (hs:s ∉ L) (hse:s∈eff5) (hsm:isM s=false) (hmL:(s,m)∈ [(12,5),(15,6),(18,7),(21,8)]) (hm:m∈L)
 (hc:cs'=c0++(zpr L ρ).set ((m - 5)) (.v (.map (some (ρ m))))):J5 bl T c0 R (s::L) (mkE L ρ) (mkH L ρ++ .box bl T cs'::R):=by
 obtain ⟨h1,h2,⟨p1,p2,p3,p4⟩,_⟩:=h
 refine ⟨List.nodup_cons.2 ⟨hs,h1⟩,fun j hj=>(List.mem_cons.1 hj).elim (fun e=>e ▸ hse) (h2 j),⟨fun q=> ?_,fun q=> ?_,fun q=> ?_,fun q=> ?_⟩,ρ,?_,?_⟩
 iterate 4 (· rcases List.mem_cons.1 q with e|q;(subst e;simp at hmL;subst hmL;exact List.mem_cons_of_mem _ hm);first|exact List.mem_cons_of_mem _ (p1 q)|exact List.mem_cons_of_mem _ (p2 q)|exact List.mem_cons_of_mem _ (p3 q)|exact List.mem_cons_of_mem _ (p4 q))
 ·simp [mkE,List.filter_cons,hsm]
 ·have e1:mkH (s::L) ρ=mkH L ρ:=by simp [mkH,List.filter_cons,hsm]
  rw [e1,hc]
  have:(zpr L ρ).set (m - 5) (.v (.map (some (ρ m))))=zpr (s::L) ρ:=by
   simp only [List.mem_cons,Prod.mk.injEq,List.not_mem_nil,or_false] at hmL
   rcases hmL with ⟨rfl,rfl⟩|⟨rfl,rfl⟩|⟨rfl,rfl⟩|⟨rfl,rfl⟩ <;> simp [zpr,cel]
  rw [this]
theorem J5.last (h:J5 bl T c0 R L (mkE L ρ) (mkH L ρ++ .box bl T (c0++zpr L ρ)::R)) (ha:∀i,i∈eff5→i∈L):
 (mkH L ρ++ .box bl T (c0++zpr L ρ)::R).Perm (.box bl T (c0++ [.v (.map (some (ρ 5))),.v (.map (some (ρ 6))),.v (.map (some (ρ 7))),.v (.map (some (ρ 8))),.v (.map none)]):: .map (ρ 5) []:: .map (ρ 6) []:: .map (ρ 7) []:: .map (ρ 8) []:: .map (ρ 9) []::R):=by
 have hp:(L.filter isM).Perm [5,6,7,8,9]:=by
  rw [List.perm_ext_iff_of_nodup (h.1.filter _) (by decide)]
  intro a
  rw [List.mem_filter]
  constructor
  ·rintro ⟨q1,q2⟩
   have:=h.2.1 a q1
   have q3:a < 10:=Nat.le_of_ble_eq_true q2
   simp [eff5] at this ⊢;omega
  ·intro q
   have:a∈eff5:=by simp [eff5] at q ⊢;omega
   refine ⟨ha a this,?_⟩
   simp at q;rcases q with rfl|rfl|rfl|rfl|rfl <;> rfl
 have hcs:zpr L ρ= [.v (.map (some (ρ 5))),.v (.map (some (ρ 6))),.v (.map (some (ρ 7))),.v (.map (some (ρ 8))),.v (.map none)]:=by
  simp [zpr,cel,ha 12 (by simp [eff5]),ha 15 (by simp [eff5]),ha 18 (by simp [eff5]),ha 21 (by simp [eff5])]
 rw [hcs]
 have:=hp.map (fun i=>Res.map (ρ i) [])
 exact (this.append_right _).trans (List.perm_middle (l₁:= [Res.map (ρ 5) [],Res.map (ρ 6) [],Res.map (ρ 7) [],Res.map (ρ 8) [],Res.map (ρ 9) []]))
end
end Go.Ab
set_option maxRecDepth 10000
namespace Go.Proofs
open Go Go.Ab
attribute [local irreducible] QR QV OE zcc aw zco za8 zav zah thn zez zdl jch zeb
open Go.H
theorem yaa (h:Hist) (la:h.evs.length≤1000000) (y:AV) (bl b1:Nat) (w:Nat→Ev→Bool) (I F:Nat→List Res) (hy:∀k (hk:k < h.evs.length) r1 r2 r3 r4 r5,y3 Tryz.prog y [iv k,.agg (evR h.evs[k])] (zca bl h (h.evs.take k) r1 r2 r3 r4 r5 (.box b1 198 [pZ bl]::I k)) (fun r h'=>r=bv (!w k h.evs[k])∧h'=zca bl h (h.evs.take k) r1 r2 r3 r4 r5 (.box b1 198 [pZ bl]::bif w k h.evs[k] then F k else I (k+1)))):x3 Tryz.prog 287 [y,pZ b1] (.box bl 203 (zbi h):: .box b1 198 [pZ bl]::I 0) (fun r h'=>h'=match zdj w 0 h.evs with|some k=>F k|none=>I h.evs.length):=by
 refine z6 Tryz.func287 rfl rfl rfl ?_
 refine x9 ?_;refine yb2 22 eff5 [] (fun he=>HasB he b1 198 [pZ bl]) rfl ?_
 refine jq rfl (fun he hC=>by haveI:=hC;exact qrA) ?_
 refine jq rfl (fun he hC=>by haveI:=hC;exact qrA) ?_
 refine jq rfl (fun he hC=>by haveI:=hC;exact qrA) ?_
 refine jq rfl (fun he hC=>by haveI:=hC;exact qrA) ?_
 refine jq rfl (fun he hC=>by haveI:=hC;exact qrA) ?_
 refine je rfl ?_;refine je rfl ?_;refine je rfl ?_;refine je rfl ?_;refine je rfl ?_;refine jq rfl (fun he hC=>by haveI:=hC;exact qrA) ?_
 refine jq rfl (fun he hC=>by haveI:=hC;exact qrA) ?_
 refine je rfl ?_;refine jq rfl (fun he hC=>by haveI:=hC;exact qrA) ?_
 refine jq rfl (fun he hC=>by haveI:=hC;exact qrA) ?_
 refine je rfl ?_;refine jq rfl (fun he hC=>by haveI:=hC;exact qrA) ?_
 refine jq rfl (fun he hC=>by haveI:=hC;exact qrA) ?_
 refine je rfl ?_;refine jq rfl (fun he hC=>by haveI:=hC;exact qrA) ?_
 refine jq rfl (fun he hC=>by haveI:=hC;exact qrA) ?_
 refine je rfl ?_;refine ya9 ?_;refine ⟨J5 bl 203 (x4 h) (.box b1 198 [pZ bl]::I 0),.start,fun L ee he hJ=> ?_,fun L ee he hJ i o hie hiL ho hpre u=> ?_,fun L ee he hJ hall=> ?_⟩
 ·obtain ⟨_,_,_,ρ,_,rfl⟩:=hJ
  exact ⟨.inl (by simp)⟩
 ·simp only [eff5,List.mem_cons,List.not_mem_nil,or_false] at hie
  rcases hie with rfl|rfl|rfl|rfl|rfl|rfl|rfl|rfl|rfl
  ·obtain rfl:=Option.some.inj ho
   exact zaq (enc:=zbq) rfl fun r=>⟨_,_,rfl,hJ.make hiL rfl (by decide) r⟩
  ·obtain rfl:=Option.some.inj ho
   exact zaq (enc:=zbq) rfl fun r=>⟨_,_,rfl,hJ.make hiL rfl (by decide) r⟩
  ·obtain rfl:=Option.some.inj ho
   exact zaq (enc:=zbq) rfl fun r=>⟨_,_,rfl,hJ.make hiL rfl (by decide) r⟩
  ·obtain rfl:=Option.some.inj ho
   exact zaq (enc:=zbq) rfl fun r=>⟨_,_,rfl,hJ.make hiL rfl (by decide) r⟩
  ·obtain rfl:=Option.some.inj ho
   exact zaq (enc:=zbq) rfl fun r=>⟨_,_,rfl,hJ.make hiL rfl (by decide) r⟩
  ·obtain rfl:=Option.some.inj ho
   have hJ2:=hJ
   obtain ⟨_,_,_,ρ,rfl,rfl⟩:=hJ2
   have hm:5∈L:=hpre 5 (mem?_iff.1 rfl) (by decide)
   haveI:=yls (bl:=bl) (T:=203) (c0:=x4 h) (R:=(.box b1 198 [pZ bl]::I 0)) (L:=L) (ρ:=ρ)
   haveI:=fun x=>ylj (bl:=bl) (T:=203) (c0:=x4 h) (R:=(.box b1 198 [pZ bl]::I 0)) (L:=L) (ρ:=ρ) x
   exact zbs (b:=bl) (off:=8) (n:=1) rfl (yax rfl rfl (zgz rfl hm)) rfl rfl (Nat.le_of_ble_eq_true rfl) ⟨.any,_,rfl,hJ.put hiL (by decide) rfl (by decide) hm rfl⟩
  ·obtain rfl:=Option.some.inj ho
   have hJ2:=hJ
   obtain ⟨_,_,_,ρ,rfl,rfl⟩:=hJ2
   have hm:6∈L:=hpre 6 (mem?_iff.1 rfl) (by decide)
   haveI:=yls (bl:=bl) (T:=203) (c0:=x4 h) (R:=(.box b1 198 [pZ bl]::I 0)) (L:=L) (ρ:=ρ)
   haveI:=fun x=>ylj (bl:=bl) (T:=203) (c0:=x4 h) (R:=(.box b1 198 [pZ bl]::I 0)) (L:=L) (ρ:=ρ) x
   exact zbs (b:=bl) (off:=9) (n:=1) rfl (yax rfl rfl (zgz rfl hm)) rfl rfl (Nat.le_of_ble_eq_true rfl) ⟨.any,_,rfl,hJ.put hiL (by decide) rfl (by decide) hm rfl⟩
  ·obtain rfl:=Option.some.inj ho
   have hJ2:=hJ
   obtain ⟨_,_,_,ρ,rfl,rfl⟩:=hJ2
   have hm:7∈L:=hpre 7 (mem?_iff.1 rfl) (by decide)
   haveI:=yls (bl:=bl) (T:=203) (c0:=x4 h) (R:=(.box b1 198 [pZ bl]::I 0)) (L:=L) (ρ:=ρ)
   haveI:=fun x=>ylj (bl:=bl) (T:=203) (c0:=x4 h) (R:=(.box b1 198 [pZ bl]::I 0)) (L:=L) (ρ:=ρ) x
   exact zbs (b:=bl) (off:=10) (n:=1) rfl (yax rfl rfl (zgz rfl hm)) rfl rfl (Nat.le_of_ble_eq_true rfl) ⟨.any,_,rfl,hJ.put hiL (by decide) rfl (by decide) hm rfl⟩
  ·obtain rfl:=Option.some.inj ho
   have hJ2:=hJ
   obtain ⟨_,_,_,ρ,rfl,rfl⟩:=hJ2
   have hm:8∈L:=hpre 8 (mem?_iff.1 rfl) (by decide)
   haveI:=yls (bl:=bl) (T:=203) (c0:=x4 h) (R:=(.box b1 198 [pZ bl]::I 0)) (L:=L) (ρ:=ρ)
   haveI:=fun x=>ylj (bl:=bl) (T:=203) (c0:=x4 h) (R:=(.box b1 198 [pZ bl]::I 0)) (L:=L) (ρ:=ρ) x
   exact zbs (b:=bl) (off:=11) (n:=1) rfl (yax rfl rfl (zgz rfl hm)) rfl rfl (Nat.le_of_ble_eq_true rfl) ⟨.any,_,rfl,hJ.put hiL (by decide) rfl (by decide) hm rfl⟩
 have hJ2:=hJ
 obtain ⟨_,_,_,ρ,rfl,rfl⟩:=hJ2
 have hal:∀i,i∈eff5→i∈L:=fun i hi=>hall i hi (by simp [eff5] at hi;omega)
 refine ln ?_;refine znv (s':=⟨[(0,y),(1,pZ b1),(10,pZ bl),(15,mpv (ρ 9))],.box bl 203 (x4 h++ [mpv (ρ 5),mpv (ρ 6),mpv (ρ 7),mpv (ρ 8),nmp]):: .map (ρ 5) []:: .map (ρ 6) []:: .map (ρ 7) []:: .map (ρ 8) []:: .map (ρ 9) []::(.box b1 198 [pZ bl]::I 0),[]⟩) (w9 (zak (hJ.last hal)) (x8 (.cons _ _ _ (yjd rfl (zjg (by decide)) rfl) (.cons _ _ _ (yjd rfl (zjg (by decide)) rfl) (.cons _ _ _ rfl (.cons _ _ _ (ymt rfl (zgz (m:=9) rfl (hal 9 (by decide)))) .nil)))))) ?_
 generalize ρ 5=r1
 generalize ρ 6=r2
 generalize ρ 7=r3
 generalize ρ 8=r4
 generalize ρ 9=r5
 refine rn ?_;refine za5 h.evs.length (fun k=>zdj w 0 h.evs=zdj w k (h.evs.drop k)) (fun k=>⟨[(32,iv k),(0,y),(1,pZ b1),(30,zrk h.evs),(31,iv (h.evs.map evR).length)],(zca bl h (h.evs.take k) r1 r2 r3 r4 r5 (.box b1 198 [pZ bl]::I k)),[]⟩) (by simp) es ?_
 intro k lk zk
 have hwl:=fun e:Ev=>zjw (h.evs.take k) e.t e.o
 have hle:(h.evs.take k).length≤h.evs.length:=by simp;omega
 refine rn ?_;refine z8 rfl (fun hc33=> ?_) (fun hc33=> ?_)
 ·have hk:=zdr hc33
  have rk:=zdp (f:=evR) hk
  refine rn ?_;refine z7 rfl (x6 rfl fun b4=> ?_)
  refine rn ?_;refine z7 rfl (w7 rfl rfl (y3.fr1 (hy k hk r1 r2 r3 r4 r5)) rfl ?_)
  rintro _ _ ⟨_,rfl,rfl,rfl⟩
  refine rn ?_;refine z8 rfl (fun hc41=> ?_) (fun hc41=> ?_)
  ·have hw:w k h.evs[k]=true:=by simpa using hc41
   rw [hw]
   refine rn ?_;exact zea .nil (.drop [_,_,_,_,_,_,_,_] _ _) (by rw [zft hk zk hw])
  ·have hw:w k h.evs[k]=false:=by simpa using hc41
   rw [hw]
   refine rn ?_;refine z8 rfl (fun hc44=> ?_) (fun hc44=> ?_)
   ·refine j5 6 rfl ?_
    refine rn ?_;refine z7 rfl (za0 (g:=bv) (enc:=zbq) (k:=h.evs[k].t) (v:=true) rfl rfl rfl ?_)
    refine rn ?_;have et:=List.take_succ_eq_append_getElem hk
    exact ⟨hk,zcw hk zk hw,by rw [et];simp only [zca,zf7,zfv,zfn,zdk,zfq,kTO,kOV];first|(rw [if_pos (by simp_all),if_neg (by simp_all),if_neg (by simp_all),if_neg (by simp_all),if_neg (by simp_all)];exact eA)|(rw [if_neg (by simp_all),if_pos (by simp_all),if_neg (by simp_all),if_neg (by simp_all),if_neg (by simp_all)];exact eA)|(rw [if_neg (by simp_all),if_neg (by simp_all),if_pos (by simp_all),if_pos (by simp_all),if_pos (by simp_all)];exact eA)|(rw [if_neg (by simp_all),if_neg (by simp_all),if_neg (by simp_all),if_neg (by simp_all),if_neg (by simp_all)];exact eA)⟩
   ·refine rn ?_;refine z8 rfl (fun hc52=> ?_) (fun hc52=> ?_)
    ·refine rn ?_;refine z8 rfl (fun hc52=> ?_) (fun hc52=> ?_)
     ·refine j5 6 rfl ?_
      refine rn ?_;refine z7 rfl (za0 (g:=bv) (enc:=zbq) (k:=h.evs[k].t) (v:=true) rfl rfl rfl ?_)
      refine rn ?_;have et:=List.take_succ_eq_append_getElem hk
      exact ⟨hk,zcw hk zk hw,by rw [et];simp only [zca,zf7,zfv,zfn,zdk,zfq,kTO,kOV];first|(rw [if_pos (by simp_all),if_neg (by simp_all),if_neg (by simp_all),if_neg (by simp_all),if_neg (by simp_all)];exact eA)|(rw [if_neg (by simp_all),if_pos (by simp_all),if_neg (by simp_all),if_neg (by simp_all),if_neg (by simp_all)];exact eA)|(rw [if_neg (by simp_all),if_neg (by simp_all),if_pos (by simp_all),if_pos (by simp_all),if_pos (by simp_all)];exact eA)|(rw [if_neg (by simp_all),if_neg (by simp_all),if_neg (by simp_all),if_neg (by simp_all),if_neg (by simp_all)];exact eA)⟩
     ·first|cases hc52|exact absurd hc52 (by decide)|(exfalso;simp_all;done)
    ·refine rn ?_;refine z8 rfl (fun hc52=> ?_) (fun hc52=> ?_)
     ·refine j5 6 rfl ?_
      refine rn ?_;refine z7 rfl (za0 (g:=bv) (enc:=zbq) (k:=h.evs[k].t) (v:=true) rfl rfl rfl ?_)
      refine rn ?_;have et:=List.take_succ_eq_append_getElem hk
      exact ⟨hk,zcw hk zk hw,by rw [et];simp only [zca,zf7,zfv,zfn,zdk,zfq,kTO,kOV];first|(rw [if_pos (by simp_all),if_neg (by simp_all),if_neg (by simp_all),if_neg (by simp_all),if_neg (by simp_all)];exact eA)|(rw [if_neg (by simp_all),if_pos (by simp_all),if_neg (by simp_all),if_neg (by simp_all),if_neg (by simp_all)];exact eA)|(rw [if_neg (by simp_all),if_neg (by simp_all),if_pos (by simp_all),if_pos (by simp_all),if_pos (by simp_all)];exact eA)|(rw [if_neg (by simp_all),if_neg (by simp_all),if_neg (by simp_all),if_neg (by simp_all),if_neg (by simp_all)];exact eA)⟩
     ·refine rn ?_;refine z8 rfl (fun hc61=> ?_) (fun hc61=> ?_)
      ·refine x9 (y5 ?_)
       refine q1 ?_;refine q1 ?_;refine q1 ?_;refine q1 ?_;refine qq rfl rfl (zac (out:= [iv h.evs[k].t,iv h.evs[k].o]) rfl (by rfl)) ?_
       refine z7 rfl (x6 rfl fun b5=> ?_)
       refine rn0 ?_;refine x9 ?_;refine zjv 9 [7] [8] (fun he=>he= .box b5 297 [iv h.evs[k].t,iv h.evs[k].o]:: .box b4 66 (evR h.evs[k]):: .box bl 203 (yav h r1 r2 r3 r4 r5):: .map r1 (j9 zbq (zbh bv (zy8 (h.evs.take k)))):: .map r2 (j9 zbq (zbh bv (zy5 (h.evs.take k)))):: .map r3 (j9 zda (zbh iv (ztu (h.evs.take k)))):: .map r4 (j9 zda (zbh zty (zn3 (h.evs.take k)))):: .map r5 (j9 zeo (zbh bv (zy3 (h.evs.take k)))):: .box b1 198 [pZ bl]::I (k+1)∨∃j st,he= .box b5 297 [iv h.evs[k].t,iv h.evs[k].o]:: .box b4 66 (evR h.evs[k]):: .box bl 203 (yav h r1 r2 r3 r4 r5):: .map r1 (j9 zbq (zbh bv (zy8 (h.evs.take k)))):: .map r2 (j9 zbq (zbh bv (zy5 (h.evs.take k)))):: .mape r3 (j9 zda (ziw (h.evs[k].t,h.evs[k].o) (iv 0) (zbh iv (ztu (h.evs.take k))))) j st:: .map r4 (j9 zda (zbh zty (zn3 (h.evs.take k)))):: .map r5 (j9 zeo (zbh bv (zy3 (h.evs.take k)))):: .box b1 198 [pZ bl]::I (k+1)) rfl rfl (.inl rfl) ?_
       refine jq rfl (fun he hC=>by rcases hC with rfl|⟨j,st,rfl⟩ <;> exact qrA) ?_
       refine jq rfl (fun he hC=>by rcases hC with rfl|⟨j,st,rfl⟩ <;> exact qrA) ?_
       refine jq rfl (fun he hC=>by rcases hC with rfl|⟨j,st,rfl⟩ <;> exact qrA) ?_
       refine jq rfl (fun he hC=>by rcases hC with rfl|⟨j,st,rfl⟩ <;> exact qrA) ?_
       refine jq rfl (fun he hC=>by rcases hC with rfl|⟨j,st,rfl⟩ <;> exact qrA) ?_
       refine jq rfl (fun he hC=>by rcases hC with rfl|⟨j,st,rfl⟩ <;> exact (by first|exact zbz (enc:=zda) (k:=(h.evs[k].t,h.evs[k].o)) (0:Int) rfl rfl|exact zwb (enc:=zda) (k:=(h.evs[k].t,h.evs[k].o)) (0:Int) rfl rfl)) ?_
       refine jq rfl (fun he hC=>by rcases hC with rfl|⟨j,st,rfl⟩ <;> exact (by exact k6 rfl rfl rfl (by rw [zi4];have:=zjw (h.evs.take k) h.evs[k].t h.evs[k].o;omega))) ?_
       refine je rfl ?_;refine je rfl ?_;refine ya9 ?_;refine jce rfl fun u=> ?_
       refine zh2 (enc:=zda) (k:=(h.evs[k].t,h.evs[k].o)) rfl rfl rfl fun j st hj=>⟨_,_,rfl,.inr ⟨_,_,rfl⟩,?_⟩
       refine jcn ?_;refine lq rfl rfl (by exact qrA) ?_
       refine ln ?_;refine z7 rfl (zkg (g:=iv) (enc:=zda) (k:=(h.evs[k].t,h.evs[k].o)) (v:=((zbr (h.evs[k].t,h.evs[k].o) (ztu (h.evs.take k))).getD 0+1)) rfl rfl rfl (hj _) ?_)
       refine rn0 ?_;refine zjv 19 [16,17,18] [] (fun he=>∃x:Res,he= .box b5 297 [iv h.evs[k].t,iv h.evs[k].o]:: .box b4 66 (evR h.evs[k]):: .box bl 203 (yav h r1 r2 r3 r4 r5):: .map r1 (j9 zbq (zbh bv (zy8 (h.evs.take k)))):: .map r2 (j9 zbq (zbh bv (zy5 (h.evs.take k)))):: .map r3 (j9 zda (zbh iv (zee (h.evs[k].t,h.evs[k].o) ((zbr (h.evs[k].t,h.evs[k].o) (ztu (h.evs.take k))).getD 0+1) (ztu (h.evs.take k)))))::x:: .map r5 (j9 zeo (zbh bv (zy3 (h.evs.take k)))):: .box b1 198 [pZ bl]::I (k+1)) rfl rfl ⟨_,rfl⟩ ?_
       refine jq rfl (fun he hC=>by obtain ⟨x,rfl⟩:=hC <;> exact qrA) ?_
       refine jq rfl (fun he hC=>by obtain ⟨x,rfl⟩:=hC <;> exact qrA) ?_
       refine jq rfl (fun he hC=>by obtain ⟨x,rfl⟩:=hC <;> exact qrA) ?_
       refine jq rfl (fun he hC=>by obtain ⟨x,rfl⟩:=hC <;> exact qrA) ?_
       refine jq rfl (fun he hC=>by obtain ⟨x,rfl⟩:=hC <;> exact qrA) ?_
       refine jq rfl (fun he hC=>by obtain ⟨x,rfl⟩:=hC <;> exact qrA) ?_
       refine jq rfl (fun he hC=>by obtain ⟨x,rfl⟩:=hC <;> exact qrA) ?_
       refine jq rfl (fun he hC=>by obtain ⟨x,rfl⟩:=hC <;> exact qrA) ?_
       refine jq rfl (fun he hC=>by obtain ⟨x,rfl⟩:=hC <;> exact qrA) ?_
       refine jq rfl (fun he hC=>by obtain ⟨x,rfl⟩:=hC <;> exact qrA) ?_
       refine jq rfl (fun he hC=>by obtain ⟨x,rfl⟩:=hC <;> exact qrA) ?_
       refine jq rfl (fun he hC=>by obtain ⟨x,rfl⟩:=hC <;> exact qrA) ?_
       refine jq rfl (fun he hC=>by obtain ⟨x,rfl⟩:=hC <;> exact qrA) ?_
       refine jq (av:= .agg [iv h.evs[k].o,iv h.evs[k].v.t,iv h.evs[k].v.k]) rfl (fun he hC=>by obtain ⟨x,rfl⟩:=hC <;> exact (by exact zac (out:= [iv (h.evs[k]'hk).o,iv (h.evs[k]'hk).v.t,iv (h.evs[k]'hk).v.k]) rfl (by rfl))) ?_
       refine jq rfl (fun he hC=>by obtain ⟨x,rfl⟩:=hC <;> exact qrA) ?_
       refine jq rfl (fun he hC=>by obtain ⟨x,rfl⟩:=hC <;> exact qrA) ?_
       refine je rfl ?_;refine je rfl ?_;refine je rfl ?_;refine ya9 ?_;refine jce rfl fun u=> ?_
       refine zh2 (enc:=zda) (k:=(h.evs[k].t,h.evs[k].o)) rfl rfl rfl fun j st hj=>⟨_,_,rfl,⟨_,rfl⟩,?_⟩
       refine jce rfl fun u=> ?_
       refine yof qrA ⟨_,_,rfl,⟨_,rfl⟩,?_⟩
       refine jce rfl fun u=> ?_
       refine zkg (g:=zty) (enc:=zda) (k:=(h.evs[k].t,h.evs[k].o)) (v:=h.evs[k].v) rfl rfl rfl (hj _) ⟨.any,_,rfl,⟨_,rfl⟩,?_⟩
       refine jcn ?_;refine ln ?_;refine z7 rfl (zh2 (enc:=zeo) (k:=(h.evs[k].o,h.evs[k].v.t,h.evs[k].v.k)) rfl rfl rfl fun j2 st2 hj2=> ?_)
       refine rn ?_;refine z7 rfl (zkg (g:=bv) (enc:=zeo) (k:=(h.evs[k].o,h.evs[k].v.t,h.evs[k].v.k)) (v:=true) rfl rfl rfl (hj2 _) ?_)
       refine rn ?_;have et:=List.take_succ_eq_append_getElem hk
       exact ⟨hk,zcw hk zk hw,by rw [et];simp only [zca,zf7,zfv,zfn,zdk,zfq,kTO,kOV];first|(rw [if_pos (by simp_all),if_neg (by simp_all),if_neg (by simp_all),if_neg (by simp_all),if_neg (by simp_all)];exact eA)|(rw [if_neg (by simp_all),if_pos (by simp_all),if_neg (by simp_all),if_neg (by simp_all),if_neg (by simp_all)];exact eA)|(rw [if_neg (by simp_all),if_neg (by simp_all),if_pos (by simp_all),if_pos (by simp_all),if_pos (by simp_all)];exact eA)|(rw [if_neg (by simp_all),if_neg (by simp_all),if_neg (by simp_all),if_neg (by simp_all),if_neg (by simp_all)];exact eA)⟩
      ·refine rn ?_;have et:=List.take_succ_eq_append_getElem hk
       exact ⟨hk,zcw hk zk hw,by rw [et];simp only [zca,zf7,zfv,zfn,zdk,zfq,kTO,kOV];first|(rw [if_pos (by simp_all),if_neg (by simp_all),if_neg (by simp_all),if_neg (by simp_all),if_neg (by simp_all)];exact eA)|(rw [if_neg (by simp_all),if_pos (by simp_all),if_neg (by simp_all),if_neg (by simp_all),if_neg (by simp_all)];exact eA)|(rw [if_neg (by simp_all),if_neg (by simp_all),if_pos (by simp_all),if_pos (by simp_all),if_pos (by simp_all)];exact eA)|(rw [if_neg (by simp_all),if_neg (by simp_all),if_neg (by simp_all),if_neg (by simp_all),if_neg (by simp_all)];exact eA)⟩
 ·have qk:=zdx hc33 lk
  refine rn ?_;exact zd1 .nil (.drop [_,_,_,_,_,_,_] _ _) (by rw [zhh qk zk,qk])
theorem ye2 (bl:Nat) (W:List Res):x3 Tryz.prog 283 [pZ bl] W (fun r h'=>∃b1,h'= .box b1 198 [pZ bl]::W∧r= .fn (.func 287) [] [pZ b1]):=by
 refine z6 Tryz.func283 rfl rfl rfl ?_
 refine rn ?_;refine z7 rfl (w6 rfl rfl rfl fun b1=> ?_)
 refine rn ?_;exact k7 rfl (.refl _ _) ⟨_,rfl,rfl⟩
theorem rAt (h:Hist) (la:h.evs.length≤1000000) (bl:Nat) (fv:AV) (hone:fv.cellsOf=some [fv]) (W:List Res) (w:Nat→Ev→Bool) (hp:∀k (hk:k < h.evs.length) r1 r2 r3 r4 r5,y3 Tryz.prog fv [.agg (evR h.evs[k])] (zca bl h (h.evs.take k) r1 r2 r3 r4 r5 W) (fun r h'=>h'=zca bl h (h.evs.take k) r1 r2 r3 r4 r5 W∧r=bv (w k h.evs[k]))):x3 Tryz.prog 258 [pZ bl,fv] (.box bl 203 (zbi h)::W) (fun r h'=>h'=W∧r=zas (zdj w 0 h.evs)):=by
 refine z6 Tryz.func258 rfl rfl rfl ?_
 refine rn ?_;refine z7 rfl (w6 rfl hone rfl fun b3=> ?_)
 refine z7 rfl (x6 rfl fun b4=> ?_)
 refine z7 rfl (x6 rfl fun b5=> ?_)
 refine rn ?_;refine z7 rfl (w7 rfl rfl (y3.of_fun (ye2 bl _)) rfl ?_)
 rintro _ _ ⟨b1,rfl,rfl⟩
 refine rn ?_;refine zli (fun pend h''=>(pend=none∧zdj w 0 h.evs=none∧h''= .box b5 4 [bv false]:: .box b4 3 [iv 0]:: .box b3 210 [fv]::W)∨(pend=some .ret∧∃k:Nat,zdj w 0 h.evs=some k∧h''= .box b5 4 [bv true]:: .box b4 3 [iv (k:Nat)]:: .box b3 210 [fv]::W)) rfl (fun fn l q lp hlp=> ?_) (fun q h'' hK=> ?_) (fun q h'' c hK=> ?_)
 ·suffices hy:∀k (hk:k < h.evs.length) r1 r2 r3 r4 r5,y3 Tryz.prog (yv l) [iv k,.agg (evR h.evs[k])] (zca bl h (h.evs.take k) r1 r2 r3 r4 r5 (.box b1 198 [pZ bl]::(fun _=>lp .ready none:: .defs q:: .box b5 4 [bv false]:: .box b4 3 [iv 0]:: .box b3 210 [fv]::W) k)) (fun r h'=>r=bv (!w k h.evs[k])∧h'=zca bl h (h.evs.take k) r1 r2 r3 r4 r5 (.box b1 198 [pZ bl]::bif w k h.evs[k] then (fun k=>lp .done (some .ret):: .defs q:: .box b5 4 [bv true]:: .box b4 3 [iv (k:Nat)]:: .box b3 210 [fv]::W) k else (fun _=>lp .ready none:: .defs q:: .box b5 4 [bv false]:: .box b4 3 [iv 0]:: .box b3 210 [fv]::W) (k+1))) by
   refine x3.mono (x3.perm ((pt6 _ _ _ _ _ _ _ _).trans (.cons _ (pt2 _ _ _ _))) (yaa h la (yv l) bl b1 w (fun _=>lp .ready none:: .defs q:: .box b5 4 [bv false]:: .box b4 3 [iv 0]:: .box b3 210 [fv]::W) (fun k=>lp .done (some .ret):: .defs q:: .box b5 4 [bv true]:: .box b4 3 [iv (k:Nat)]:: .box b3 210 [fv]::W) hy)) ?_
   rintro _ _ rfl
   cases hr:zdj w 0 h.evs with
   |none=>exact ⟨none,.ready,_,.refl _,by simp,.inl ⟨rfl,rfl,rfl⟩⟩
   |some k=>exact ⟨_,_,_,.refl _,by simp,.inr ⟨rfl,k,rfl,rfl⟩⟩
  intro k hk r1 r2 r3 r4 r5
  refine y3.perm (pt7 _ _ _ _ _ _ _ _ _) (y3.permR ?_)
  refine zdn hlp rfl rfl ?_
  refine rn ?_;refine z7 rfl (x6 rfl fun b7=> ?_)
  refine rn ?_;refine ⟨[(6,iv k),(7,pZ b7),(3,pZ b3),(4,pZ b4),(5,pZ b5)],.box b7 66 (evR h.evs[k])::zca bl h (h.evs.take k) r1 r2 r3 r4 r5 (.box b1 198 [pZ bl]:: .defs q:: .box b5 4 [bv false]:: .box b4 3 [iv 0]:: .box b3 210 [fv]::W),w9 (zak (pt1 _ _ _)) es,?_⟩
  refine rn ?_;refine qv rfl rfl (y6 rfl rfl (y3.qt (h2:= [_,_,_,_,_,_,_]) (hp k hk r1 r2 r3 r4 r5) (List.Perm.trans (.cons _ (.cons _ ((pt6 _ _ _ _ _ _ _ _).trans (.cons _ ((pt6 _ _ _ _ _ _ _ _).trans (.cons _ ((pt6 _ _ _ _ _ _ _ _).trans (.cons _ ((pt6 _ _ _ _ _ _ _ _).trans (.cons _ (pt6 _ _ _ _ _ _ _ _))))))))))) (zcy [_,_,_,_,_,_,_] _)))) ?_
  refine rn ?_;refine z8 rfl (fun hc14=> ?_) (fun hc14=> ?_)
  ·have hw:w k h.evs[k]=true:=by simpa using hc14
   refine zix (s':=⟨[(6,iv k),(4,pZ b4),(5,pZ b5)],lp .busy none::zca bl h (h.evs.take k) r1 r2 r3 r4 r5 (.box b1 198 [pZ bl]:: .defs q:: .box b5 4 [bv false]:: .box b4 3 [iv 0]:: .box b3 210 [fv]::W),[]⟩) (eD 1) ?_
   refine rn ?_;exact zmu (.refl _) ⟨_,((pt1 _ _ _).trans (.cons _ ((pt1 _ _ _).trans (.cons _ ((pt1 _ _ _).trans (.cons _ ((pt1 _ _ _).trans (.cons _ ((pt1 _ _ _).trans (.cons _ ((pt1 _ _ _).trans (.cons _ (pt1 _ _ _))))))))))))),by rw [hw];rfl,by rw [hw];rfl⟩
  ·have hw:w k h.evs[k]=false:=by simpa using hc14
   refine zix (s':=⟨[(6,iv k),(4,pZ b4),(5,pZ b5)],lp .busy none::zca bl h (h.evs.take k) r1 r2 r3 r4 r5 (.box b1 198 [pZ bl]:: .defs q:: .box b5 4 [bv false]:: .box b4 3 [iv 0]:: .box b3 210 [fv]::W),[]⟩) (eD 1) ?_
   refine rn ?_;exact zgw (.refl _) ⟨_,((pt1 _ _ _).trans (.cons _ ((pt1 _ _ _).trans (.cons _ ((pt1 _ _ _).trans (.cons _ ((pt1 _ _ _).trans (.cons _ ((pt1 _ _ _).trans (.cons _ ((pt1 _ _ _).trans (.cons _ (pt1 _ _ _))))))))))))),by rw [hw];rfl,by rw [hw];rfl⟩
 ·obtain ⟨_,hr,rfl⟩|⟨hc,_⟩:=hK
  rotate_left
  ·cases hc
  refine rn ?_;exact zgk (.refl _) (.cons _ _ _ _ (.one _ _ _ _ _ _ _ rfl inferInstance inferInstance rfl) (.cons _ _ _ _ (.one _ _ _ _ _ _ _ rfl inferInstance inferInstance rfl) .nil)) (.drop [_,_,_] _ _) ⟨rfl,by rw [hr];rfl⟩
 ·obtain ⟨hc,_⟩|⟨hc,k,hr,rfl⟩:=hK
  ·cases hc
  obtain rfl:c= .ret:=by simpa using hc
  refine rn ?_;exact zgk (.refl _) (.cons _ _ _ _ (.one _ _ _ _ _ _ _ rfl inferInstance inferInstance rfl) (.cons _ _ _ _ (.one _ _ _ _ _ _ _ rfl inferInstance inferInstance rfl) .nil)) (.drop [_,_,_] _ _) ⟨rfl,by rw [hr];rfl⟩
theorem zcx (o:Option Nat):∃i b,zas o= .tup [iv i,bv b]:=by
 cases o with
 |none=>exact ⟨_,_,rfl⟩
 |some i=>exact ⟨_,_,rfl⟩
theorem yiu (h:Hist) (la:Lim 3000 h) (bl:Nat) (G:List Res):x3 Tryz.prog 245 [pZ bl] (.box bl 203 (zbi h)::G) (fun r h'=>h'=G∧r=zas (zcg h 1)):=by
 refine z6 Tryz.func245 rfl rfl rfl ?_
 refine rn ?_;refine z7 rfl (w6 rfl rfl rfl fun b1=> ?_)
 refine rn ?_;refine z7 rfl (w7 rfl rfl (y3.perm (pt1 _ _ _) (y3.of_fun (rAt h (Nat.le_trans la.evs (by decide)) bl (.fn (.func 259) [] [pZ b1]) rfl (.box b1 198 [pZ bl]::G) (fun k e=>zb3 1 e (h.evs.take k)) (fun k hk r1 r2 r3 r4 r5=>y3.qt (h2:=G) (y3.of_acall (fs:= []) (cs:= [pZ b1]) (ye4 _ bl b1 h _ r1 r2 r3 r4 r5)) (.refl _))))) rfl ?_)
 rintro _ _ ⟨rfl,rfl⟩
 obtain ⟨pi,pb,hpv⟩:∃i b,zas (zdj (fun k e=>zb3 1 e (h.evs.take k)) 0 h.evs)= .tup [iv i,bv b]:=zcx _
 rw [hpv]
 refine rn ?_;refine rq 1 ?_
 exact ⟨rfl,hpv.symm⟩
theorem yoe (h:Hist) (la:Lim 3000 h) (bl:Nat) (G:List Res):x3 Tryz.prog 249 [pZ bl] (.box bl 203 (zbi h)::G) (fun r h'=>h'=G∧r=zas (zcg h 2)):=by
 refine z6 Tryz.func249 rfl rfl rfl ?_
 refine rn ?_;refine z7 rfl (w6 rfl rfl rfl fun b1=> ?_)
 refine rn ?_;refine z7 rfl (w7 rfl rfl (y3.perm (pt1 _ _ _) (y3.of_fun (rAt h (Nat.le_trans la.evs (by decide)) bl (.fn (.func 260) [] [pZ b1]) rfl (.box b1 198 [pZ bl]::G) (fun k e=>zb3 2 e (h.evs.take k)) (fun k hk r1 r2 r3 r4 r5=>y3.qt (h2:=G) (y3.of_acall (fs:= []) (cs:= [pZ b1]) (ymi _ bl b1 h _ r1 r2 r3 r4 r5)) (.refl _))))) rfl ?_)
 rintro _ _ ⟨rfl,rfl⟩
 obtain ⟨pi,pb,hpv⟩:∃i b,zas (zdj (fun k e=>zb3 2 e (h.evs.take k)) 0 h.evs)= .tup [iv i,bv b]:=zcx _
 rw [hpv]
 refine rn ?_;refine rq 1 ?_
 exact ⟨rfl,hpv.symm⟩
theorem yit (h:Hist) (la:Lim 3000 h) (bl:Nat) (G:List Res):x3 Tryz.prog 250 [pZ bl] (.box bl 203 (zbi h)::G) (fun r h'=>h'=G∧r=zas (zcg h 3)):=by
 refine z6 Tryz.func250 rfl rfl rfl ?_
 refine rn ?_;refine z7 rfl (w6 rfl rfl rfl fun b1=> ?_)
 refine rn ?_;refine z7 rfl (w7 rfl rfl (y3.perm (pt1 _ _ _) (y3.of_fun (rAt h (Nat.le_trans la.evs (by decide)) bl (.fn (.func 261) [] [pZ b1]) rfl (.box b1 198 [pZ bl]::G) (fun k e=>zb3 3 e (h.evs.take k)) (fun k hk r1 r2 r3 r4 r5=>y3.qt (h2:=G) (y3.of_acall (fs:= []) (cs:= [pZ b1]) (ye3 _ bl b1 h _ r1 r2 r3 r4 r5 (by have:=la.evs;simp;omega))) (.refl _))))) rfl ?_)
 rintro _ _ ⟨rfl,rfl⟩
 obtain ⟨pi,pb,hpv⟩:∃i b,zas (zdj (fun k e=>zb3 3 e (h.evs.take k)) 0 h.evs)= .tup [iv i,bv b]:=zcx _
 rw [hpv]
 refine rn ?_;refine rq 1 ?_
 exact ⟨rfl,hpv.symm⟩
theorem zz5 (h:Hist) (la:Lim 3000 h) (bl:Nat) (G:List Res):x3 Tryz.prog 251 [pZ bl] (.box bl 203 (zbi h)::G) (fun r h'=>h'=G∧r=zas (zcg h 4)):=by
 refine z6 Tryz.func251 rfl rfl rfl ?_
 refine rn ?_;refine z7 rfl (w6 rfl rfl rfl fun b1=> ?_)
 refine rn ?_;refine z7 rfl (w7 rfl rfl (y3.perm (pt1 _ _ _) (y3.of_fun (rAt h (Nat.le_trans la.evs (by decide)) bl (.fn (.func 262) [] [pZ b1]) rfl (.box b1 198 [pZ bl]::G) (fun k e=>zb3 4 e (h.evs.take k)) (fun k hk r1 r2 r3 r4 r5=>y3.qt (h2:=G) (y3.of_acall (fs:= []) (cs:= [pZ b1]) (zv5 _ bl b1 h _ r1 r2 r3 r4 r5 (Nat.le_trans (la.scans _ (List.getElem_mem hk)) (by decide)))) (.refl _))))) rfl ?_)
 rintro _ _ ⟨rfl,rfl⟩
 obtain ⟨pi,pb,hpv⟩:∃i b,zas (zdj (fun k e=>zb3 4 e (h.evs.take k)) 0 h.evs)= .tup [iv i,bv b]:=zcx _
 rw [hpv]
 refine rn ?_;refine rq 1 ?_
 exact ⟨rfl,hpv.symm⟩
theorem yoa (h:Hist) (la:Lim 3000 h) (bl:Nat) (G:List Res):x3 Tryz.prog 252 [pZ bl] (.box bl 203 (zbi h)::G) (fun r h'=>h'=G∧r=zas (zcg h 5)):=by
 refine z6 Tryz.func252 rfl rfl rfl ?_
 refine rn ?_;refine z7 rfl (w6 rfl rfl rfl fun b1=> ?_)
 refine rn ?_;refine z7 rfl (w7 rfl rfl (y3.perm (pt1 _ _ _) (y3.of_fun (rAt h (Nat.le_trans la.evs (by decide)) bl (.fn (.func 265) [] [pZ b1]) rfl (.box b1 198 [pZ bl]::G) (fun k e=>zb3 5 e (h.evs.take k)) (fun k hk r1 r2 r3 r4 r5=>y3.qt (h2:=G) (y3.of_acall (fs:= []) (cs:= [pZ b1]) (yme _ bl b1 h _ r1 r2 r3 r4 r5 (Nat.le_trans (la.scans _ (List.getElem_mem hk)) (by decide)))) (.refl _))))) rfl ?_)
 rintro _ _ ⟨rfl,rfl⟩
 obtain ⟨pi,pb,hpv⟩:∃i b,zas (zdj (fun k e=>zb3 5 e (h.evs.take k)) 0 h.evs)= .tup [iv i,bv b]:=zcx _
 rw [hpv]
 refine rn ?_;refine rq 1 ?_
 exact ⟨rfl,hpv.symm⟩
theorem ymd (h:Hist) (la:Lim 3000 h) (bl:Nat) (G:List Res):x3 Tryz.prog 253 [pZ bl] (.box bl 203 (zbi h)::G) (fun r h'=>h'=G∧r=zas (zcg h 6)):=by
 refine z6 Tryz.func253 rfl rfl rfl ?_
 refine rn ?_;refine z7 rfl (w7 rfl rfl (id (y3.of_fun (rAt h (Nat.le_trans la.evs (by decide)) bl (.fn (.func 267) [] []) rfl (G) (fun k e=>zb3 6 e (h.evs.take k)) (fun k hk r1 r2 r3 r4 r5=>y3.pure (R:=fun r=>r=bv _) (y3.of_acall (fs:= []) (cs:= []) (yil _ (Nat.le_trans (la.scans _ (List.getElem_mem hk)) (by decide)))))))) rfl ?_)
 rintro _ _ ⟨rfl,rfl⟩
 obtain ⟨pi,pb,hpv⟩:∃i b,zas (zdj (fun k e=>zb3 6 e (h.evs.take k)) 0 h.evs)= .tup [iv i,bv b]:=zcx _
 rw [hpv]
 refine rn ?_;refine rq 0 ?_
 exact ⟨rfl,hpv.symm⟩
open Go.Shelf
def yd9:Go.Shelf.Ren:=⟨fun|125=>289|128=>299|129=>300|189=>284|215=>306|216=>296|257=>288|294=>290|295=>291|296=>292|297=>293|298=>294|299=>295|300=>297|301=>298|328=>301|329=>302|330=>303|331=>304|332=>305|343=>307|n=>n,fun|0=>0|3=>3|4=>4|5=>5|9=>9|28=>54|46=>49|51=>286|53=>325|131=>67|182=>317|183=>318|218=>326|222=>169|228=>331|229=>332|n=>n,fun n=>n⟩
theorem zzs:Lays.n189 Tryz.prog yd9:={
 mixed:=by kernel_rfl
 f125:=Tryz.func289.trans (congrArg some (by kernel_rfl))
 f128:=Tryz.func299.trans (congrArg some (by kernel_rfl))
 f129:=Tryz.func300.trans (congrArg some (by kernel_rfl))
 f189:=Tryz.func284.trans (congrArg some (by kernel_rfl))
 f215:=Tryz.func306.trans (congrArg some (by kernel_rfl))
 f216:=Tryz.func296.trans (congrArg some (by kernel_rfl))
 f257:=Tryz.func288.trans (congrArg some (by kernel_rfl))
 f294:=Tryz.func290.trans (congrArg some (by kernel_rfl))
 f295:=Tryz.func291.trans (congrArg some (by kernel_rfl))
 f296:=Tryz.func292.trans (congrArg some (by kernel_rfl))
 f297:=Tryz.func293.trans (congrArg some (by kernel_rfl))
 f298:=Tryz.func294.trans (congrArg some (by kernel_rfl))
 f299:=Tryz.func295.trans (congrArg some (by kernel_rfl))
 f300:=Tryz.func297.trans (congrArg some (by kernel_rfl))
 f301:=Tryz.func298.trans (congrArg some (by kernel_rfl))
 f328:=Tryz.func301.trans (congrArg some (by kernel_rfl))
 f329:=Tryz.func302.trans (congrArg some (by kernel_rfl))
 f330:=Tryz.func303.trans (congrArg some (by kernel_rfl))
 f331:=Tryz.func304.trans (congrArg some (by kernel_rfl))
 f332:=Tryz.func305.trans (congrArg some (by kernel_rfl))
 f343:=Tryz.func307.trans (congrArg some (by kernel_rfl))
 t0:=Tryz.underlying0
 a0:=Tryz.isAgg0
 z0:=Tryz.sizeOf0
 v0:=Tryz.zeroValue0
 t3:=Tryz.underlying3
 a3:=Tryz.isAgg3
 z3:=Tryz.sizeOf3
 v3:=Tryz.zeroValue3
 t4:=Tryz.underlying4
 a4:=Tryz.isAgg4
 z4:=Tryz.sizeOf4
 v4:=Tryz.zeroValue4
 t5:=Tryz.underlying5
 a5:=Tryz.isAgg5
 z5:=Tryz.sizeOf5
 v5:=Tryz.zeroValue5
 t9:=Tryz.underlying9
 a9:=Tryz.isAgg9
 z9:=Tryz.sizeOf9
 v9:=Tryz.zeroValue9
 t28:=Tryz.underlying54
 a28:=Tryz.isAgg54
 z28:=Tryz.sizeOf54
 v28:=Tryz.zeroValue54
 t46:=Tryz.underlying49
 a46:=Tryz.isAgg49
 z46:=Tryz.sizeOf49
 v46:=Tryz.zeroValue49
 t51:=Tryz.underlying286
 a51:=Tryz.isAgg286
 z51:=Tryz.sizeOf286
 v51:=Tryz.zeroValue286
 t53:=Tryz.underlying325
 a53:=Tryz.isAgg325
 z53:=Tryz.sizeOf325
 v53:=Tryz.zeroValue325
 t131:=Tryz.underlying67
 a131:=Tryz.isAgg67
 z131:=Tryz.sizeOf67
 v131:=Tryz.zeroValue67
 t182:=Tryz.underlying317
 a182:=Tryz.isAgg317
 z182:=Tryz.sizeOf317
 v182:=Tryz.zeroValue317
 t183:=Tryz.underlying318
 a183:=Tryz.isAgg318
 z183:=Tryz.sizeOf318
 v183:=Tryz.zeroValue318
 t218:=Tryz.underlying326
 a218:=Tryz.isAgg326
 z218:=Tryz.sizeOf326
 v218:=Tryz.zeroValue326
 t222:=Tryz.underlying169
 a222:=Tryz.isAgg169
 z222:=Tryz.sizeOf169
 v222:=Tryz.zeroValue169
 t228:=Tryz.underlying331
 a228:=Tryz.isAgg331
 z228:=Tryz.sizeOf331
 v228:=Tryz.zeroValue331
 t229:=Tryz.underlying332
 a229:=Tryz.isAgg332
 z229:=Tryz.sizeOf332
 v229:=Tryz.zeroValue332}
def ygo:Go.Shelf.Ren:=⟨fun|20=>162|n=>n,fun|0=>0|3=>3|4=>4|22=>54|n=>n,fun n=>n⟩
theorem ybu:Lays2.n20 Tryz.prog ygo:={
 mixed:=by kernel_rfl
 f20:=Tryz.func162.trans (congrArg some (by kernel_rfl))
 i3:=by kernel_rfl
 t0:=Tryz.underlying0
 a0:=Tryz.isAgg0
 z0:=Tryz.sizeOf0
 v0:=Tryz.zeroValue0
 t3:=Tryz.underlying3
 a3:=Tryz.isAgg3
 z3:=Tryz.sizeOf3
 v3:=Tryz.zeroValue3
 t4:=Tryz.underlying4
 a4:=Tryz.isAgg4
 z4:=Tryz.sizeOf4
 v4:=Tryz.zeroValue4
 t22:=Tryz.underlying54
 a22:=Tryz.isAgg54
 z22:=Tryz.sizeOf54
 v22:=Tryz.zeroValue54}
theorem yh1 (s:SV) (xs:List Int) (hs:xs.length < 4611686018427387904):x3 Tryz.prog 284 [.v s.v] [.row s.v 1 3 (xs.map zba)] (fun r h'=>h'= [.row s.v 1 3 ((srt xs).map zba)]∧r= .v (.tuple #[])):=
 zu3 zzs s 3 xs hs
theorem ygp (s:SV) (xs:List Int) (hs:xs.length≤4611686018427387904):x3 Tryz.prog 162 [.v s.v] [.row s.v 1 3 (xs.map zba)] (fun r h'=>∃s':SV,h'= [.row s'.v 1 3 ((za6 xs).map zba)]∧r= .v s'.v):=by
 rw [←zuz];exact zny ybu s 3 xs hs
theorem zmv (h:Hist) (la:Lim 3000 h) (bl:Nat) (x:Int) (G:List Res):x3 Tryz.prog 270 [pZ bl,iv x] (.box bl 203 (zbi h)::G) (fun r h'=>h'= .box bl 203 (zbi h)::G∧r=zfy (zaf h.evs x)):=by
 refine z6 Tryz.func270 rfl rfl rfl ?_
 have be:=la.evs
 refine rn ?_;refine z7 rfl (zaq (enc:=zbq) rfl fun bm=> ?_)
 refine rn ?_;refine za5 h.evs.length (fun k=>True) (fun k=>⟨[(18,iv k),(0,pZ bl),(1,iv x),(5,.v (.map (some bm))),(16,zrk h.evs),(17,iv (h.evs.map evR).length)],.map bm (j9 zbq (zbh bv (yc7 (h.evs.take k)))):: .box bl 203 (zbi h)::G,[]⟩) trivial es ?_
 intro k lk _
 refine rn ?_;refine z8 rfl (fun hc19=> ?_) (fun hc19=> ?_)
 ·have hk:=zdr hc19
  have rk:=zdp (f:=evR) hk
  refine rn ?_;refine z7 rfl (x6 rfl fun b7=> ?_)
  first|refine z7 rfl (za3 rfl rfl rfl ?_)|refine z7 rfl (zbs rfl rfl rfl rfl (Nat.le_of_ble_eq_true rfl) ?_)
  refine u3 (j8 ?_)
  refine y5 ?_;refine q1 ?_;refine q1 ?_;refine q1 ?_;refine q1 ?_;refine q1 ?_;refine q1 ?_;refine qq rfl rfl (zbz (enc:=zbq) (k:=h.evs[k].t) false rfl rfl) ?_
  refine rn ?_;refine q9 (fun hg5_7=> ?_) (fun hg5_7=> ?_)
  ·refine rn ?_;refine z7 rfl (za0 (g:=bv) (enc:=zbq) (k:=h.evs[k].t) rfl rfl rfl ?_)
   refine rn ?_;exact ⟨hk,trivial,by first|(rw [zhr hk,hg5_7,Bool.true_or];exact eA)|(rw [zhr hk,hg5_7,Bool.false_or];exact eA)⟩
  ·refine rn ?_;refine z7 rfl (za0 (g:=bv) (enc:=zbq) (k:=h.evs[k].t) rfl rfl rfl ?_)
   refine rn ?_;exact ⟨hk,trivial,by first|(rw [zhr hk,hg5_7,Bool.true_or];exact eA)|(rw [zhr hk,hg5_7,Bool.false_or];exact eA)⟩
 ·have qk:=zdx hc19 lk
  subst qk
  rw [List.take_length]
  refine rn ?_;refine zrv h.evs.length (fun k s=>⟨[(41,iv k),(8,.v s.v),(1,iv x),(5,.v (.map (some bm))),(39,zrk h.evs),(40,iv (h.evs.map evR).length)],.row s.v 1 3 ((((h.evs.take k).filter (wrB h.evs x)).map Ev.t).map zba):: .map bm (j9 zbq (zbh bv (yc7 h.evs))):: .box bl 203 (zbi h)::G,[]⟩) ⟨none,0,0⟩ (w9 (za1 1 3) es) ?_
  intro k s lk
  refine rn ?_;refine z8 rfl (fun hc42=> ?_) (fun hc42=> ?_)
  ·have hk:=zdr hc42
   have rk:=zdp (f:=evR) hk
   refine rn ?_;refine z7 rfl (x6 rfl fun b10=> ?_)
   refine rn ?_;refine q9 (fun hg11_3=> ?_) (fun hg11_3=> ?_)
   ·refine rn ?_;refine q9 (fun hg11_9=> ?_) (fun hg11_9=> ?_)
    ·refine q1 ?_;refine q1 ?_;refine q1 ?_;refine qq rfl rfl (zbz (enc:=zbq) (k:=h.evs[k].t) false rfl rfl) ?_
     refine rn ?_;refine z8 rfl (fun hc59=> ?_) (fun hc59=> ?_)
     ·have hx:wrB h.evs x h.evs[k]=true:=by unfold wrB;rw [←zjr];simp_all
      refine rn ?_;refine qv rfl rfl (u1 rfl rfl) ?_
      refine z7 rfl (j7 rfl rfl (by simp only [oM,List.length_cons,List.length_nil];have:=zxs (l:=h.evs) (k:=k) (p:=wrB h.evs x);omega) rfl (fun s64=> ?_) (zkf [h.evs[k].t]))
      refine zal s64 fun sv hsv=> ?_
      subst hsv
      refine rn ?_;exact ⟨hk,sv,by rw [ym7 hk hx,List.map_append,List.map_append];exact eA⟩
     ·have hx:wrB h.evs x h.evs[k]=false:=by unfold wrB;rw [←zjr];simp_all
      refine rn ?_;exact ⟨hk,s,by rw [ygg hk hx];exact eA⟩
    ·refine rn ?_;refine zpv rfl ?_;have hx:wrB h.evs x h.evs[k]=false:=by unfold wrB;rw [←zjr];simp_all
     refine rn ?_;exact ⟨hk,s,by rw [ygg hk hx];exact eA⟩
   ·refine rn ?_;refine zpv rfl ?_;have hx:wrB h.evs x h.evs[k]=false:=by unfold wrB;rw [←zjr];simp_all
    refine rn ?_;exact ⟨hk,s,by rw [ygg hk hx];exact eA⟩
  ·have qk:=zdx hc42 lk
   subst qk
   refine rn ?_;refine z7 rfl (w7 rfl rfl (zgi (y3.of_fun (yh1 s _ (by have:=zxs (l:=h.evs) (k:=h.evs.length) (p:=wrB h.evs x);rw [oM];omega)))) rfl ?_)
   rintro _ _ ⟨rfl,rfl⟩
   refine rn ?_;refine z7 rfl (w7 rfl rfl (zkr (y3.of_fun (ygp s _ (by rw [(zec _).length_eq,oM];have:=zxs (l:=h.evs) (k:=h.evs.length) (p:=wrB h.evs x);omega)))) rfl ?_)
   rintro _ _ ⟨s',rfl,rfl⟩
   refine rn ?_;exact k7 rfl (.trans zj0 (.drop1 _ _ _)) ⟨rfl,by rw [List.take_length];rfl⟩
theorem yjv {f:Bool} (l:List Int) (n:Int) (hl:l.length≤4611686018427387904):x3 Tryz.prog 29 [.list f 1 (l.map zba),iv n] [] (fun r h'=>h'= []∧r=iv (zbl (fun a=>a==n) 0 l)):=by
 refine z6 Tryz.func29 rfl rfl rfl ?_
 refine rn ?_;refine ztm (l.length) (fun k:Nat=>zbl (fun a=>a==n) 0 l=zbl (fun a=>a==n) k (l.drop k)) (fun k=> [(8,iv k)]) [(0,_),(1,_),(7,_)] (by simp) ?_
 intro k lk zk
 refine rn ?_;refine z8 rfl (fun hc9=> ?_) (fun hc9=> ?_)
 ·have hk:=zdr hc9
  have rk:=zdp (f:=zba) hk
  refine rn ?_;refine z8 rfl (fun hc16=> ?_) (fun hc16=> ?_)
  ·refine rn ?_;refine rq 0 ?_
   exact ⟨rfl,congrArg iv (by rw [zk,List.drop_eq_getElem_cons hk,zbl,if_pos (by rw [beq_iff_eq] at hc16 ⊢;exact hc16.symm)])⟩
  ·refine rn ?_;exact ⟨hk,by rw [zk,List.drop_eq_getElem_cons hk,zbl,if_neg (fun q=>by rw [beq_iff_eq] at q;rw [q] at hc16;simp at hc16)],eA⟩
 ·have qk:=zdx hc9 lk
  refine rn ?_;refine rq 0 ?_
  exact ⟨rfl,congrArg iv (by rw [zk,qk,List.drop_length];rfl)⟩
theorem zx3 {f:Bool} (l:List Int) (n:Int) (hl:l.length≤4611686018427387904):x3 Tryz.prog 286 [.list f 1 (l.map zba),iv n] [] (fun r h'=>h'= []∧r=bv (l.contains n)):=by
 refine z6 Tryz.func286 rfl rfl rfl ?_
 refine rn ?_;refine qv rfl rfl (y6 rfl rfl (zax (yjv _ _ hl) (Sbs.refl _))) ?_
 refine rn ?_;refine rq 0 ?_
 exact ⟨rfl,congrArg bv (by rw [zeq,zpk])⟩
theorem yio (f:List Int) (t:Int) (b:Nat) (G:List Res) (hl:f.length≤4611686018427387904):x3 Tryz.prog 285 [iv t,pZ b] (.box b 54 [zfy f]::G) (fun r h'=>h'= .box b 54 [zfy f]::G∧r=bv (!f.contains t)):=by
 refine z6 Tryz.func285 rfl rfl rfl ?_
 refine rn ?_;refine qv rfl rfl (y6 rfl rfl (zax (zx3 _ _ hl) (Sbs.refl _))) ?_
 refine rn ?_;refine rq 0 ?_
 exact ⟨rfl,rfl⟩
theorem yip (ts f:List Int) (hl:ts.length≤1000000) (hf:f.length≤4611686018427387904):x3 Tryz.prog 272 [zfy ts,zfy f] [] (fun r h'=>h'= []∧r=bv (zqy ts f)):=by
 refine z6 Tryz.func272 rfl rfl rfl ?_
 have hl':ts.length≤4611686018427387904:=Nat.le_trans hl (by decide)
 refine rn ?_;refine z7 rfl (w6 rfl rfl rfl fun b3=> ?_)
 refine rn ?_;refine z7 rfl (w7 rfl rfl (y3.new (y3.of_fun (zfd (ts.map zba) (by simp;omega) (fun r hr=>by obtain ⟨n,_,rfl⟩:=List.mem_map.1 hr;rfl)))) rfl ?_)
 rintro _ _ ⟨_,⟨s,rfl,rfl⟩,rfl⟩
 show zcc _ _ _ _ _ _ ⟨_,.row s 1 3 (ts.map zba):: [.box b3 54 [zfy f]],_⟩
 refine zal s fun sv hsv=> ?_
 subst hsv
 refine rn ?_;refine z7 rfl (w7 rfl rfl (zgi (y3.of_fun (yh1 sv ts (by omega)))) rfl ?_)
 rintro _ _ ⟨rfl,rfl⟩
 refine rn ?_;refine z7 rfl (w7 rfl rfl (zkr (y3.of_fun (ygp sv (srt ts) (by rw [(zec _).length_eq];omega)))) rfl ?_)
 rintro _ _ ⟨s',rfl,rfl⟩
 refine rn ?_;refine q9 (fun hg3_6=> ?_) (fun hg3_6=> ?_)
 ·refine rn ?_;refine qv rfl rfl (y6 rfl rfl (y3.of_fun (zf5 ts _ _ [.row s'.v 1 3 ((za6 (srt ts)).map zba),.box b3 54 [zfy f]] (fun t _=>y3.qt (h2:= [_]) (y3.of_acall (fs:= []) (cs:= [pZ b3]) (yio f t b3 [] hf)) (zcy [_] [_])) hl'))) ?_
  refine rn ?_;refine rq 2 ?_
  exact ⟨rfl,congrArg bv (by unfold zqy;by_cases e:(za6 (srt ts)).length=ts.length <;> first|(simp_all;done)|(exfalso;simp at hg3_6;omega))⟩
 ·refine rn ?_;refine rq 2 ?_
  exact ⟨rfl,congrArg bv (by unfold zqy;by_cases e:(za6 (srt ts)).length=ts.length <;> first|(simp_all;done)|(exfalso;simp at hg3_6;omega))⟩
theorem yey {f:Bool} (l:List H.Ord) (fv:AV) (w:Nat→H.Ord→Bool) (G:List Res) (hp:∀k (hk:k < l.length),y3 Tryz.prog fv [iv k,.agg (zc7 l[k])] G (fun r h'=>h'=G∧r=bv (w k l[k]))) (hl:l.length≤1000000):x3 Tryz.prog 268 [.list f 2 (l.map zc7),fv] G (fun r h'=>h'=G∧r=zas (zdj w 0 l)):=by
 refine z6 Tryz.func268 rfl rfl rfl ?_
 refine rn ?_;refine za5 l.length (fun k=>zdj w 0 l=zdj w k (l.drop k)) (fun k=>⟨[(10,iv k),(1,fv),(8,.list f 2 (l.map zc7)),(9,iv (l.map zc7).length)],G,[]⟩) (by simp) es ?_
 intro k lk zk
 refine rn ?_;refine z8 rfl (fun hc11=> ?_) (fun hc11=> ?_)
 ·have hk:=zdr hc11
  have rk:=zdp (f:=zc7) hk
  refine rn ?_;refine z7 rfl (x6 rfl fun b7=> ?_)
  refine rn ?_;refine qv rfl rfl (y6 rfl rfl (y3.qt (h2:= [_]) (hp k hk) (zcy [_] _))) ?_
  refine rn ?_;refine z8 rfl (fun hc18=> ?_) (fun hc18=> ?_)
  ·refine rn ?_;refine rq 1 ?_
   exact ⟨rfl,by rw [zft hk zk (by simpa using hc18)];rfl⟩
  ·refine rn ?_;exact ⟨hk,zcw hk zk (by simpa using hc18),eA⟩
 ·have qk:=zdx hc11 lk
  refine rn ?_;refine rq 0 ?_
  exact ⟨rfl,by rw [zhh qk zk];rfl⟩
theorem yex {f:Bool} (l:List ByteArray) (fv:AV) (w:Nat→ByteArray→Bool) (G:List Res) (hp:∀k (hk:k < l.length),y3 Tryz.prog fv [iv k,sv l[k]] G (fun r h'=>h'=G∧r=bv (w k l[k]))) (hl:l.length≤1000000):x3 Tryz.prog 273 [.list f 1 (l.map za7),fv] G (fun r h'=>h'=G∧r=zas (zdj w 0 l)):=by
 refine z6 Tryz.func273 rfl rfl rfl ?_
 refine rn ?_;refine za5 l.length (fun k=>zdj w 0 l=zdj w k (l.drop k)) (fun k=>⟨[(10,iv k),(1,fv),(8,.list f 1 (l.map za7)),(9,iv (l.map za7).length)],G,[]⟩) (by simp) es ?_
 intro k lk zk
 refine rn ?_;refine z8 rfl (fun hc11=> ?_) (fun hc11=> ?_)
 ·have hk:=zdr hc11
  have rk:=zdp (f:=za7) hk
  refine rn ?_;refine qv rfl rfl (y6 rfl rfl (hp k hk)) ?_
  refine rn ?_;refine z8 rfl (fun hc18=> ?_) (fun hc18=> ?_)
  ·refine rn ?_;refine rq 0 ?_
   exact ⟨rfl,by rw [zft hk zk (by simpa using hc18)];rfl⟩
  ·refine rn ?_;exact ⟨hk,zcw hk zk (by simpa using hc18),eA⟩
 ·have qk:=zdx hc11 lk
  refine rn ?_;refine rq 0 ?_
  exact ⟨rfl,by rw [zhh qk zk];rfl⟩
theorem yez {f:Bool} (l:List Mat) (fv:AV) (w:Nat→Mat→Bool) (G:List Res) (hp:∀k (hk:k < l.length),y3 Tryz.prog fv [iv k,.agg (zdc l[k])] G (fun r h'=>h'=G∧r=bv (w k l[k]))) (hl:l.length≤1000000):x3 Tryz.prog 276 [.list f 4 (l.map zdc),fv] G (fun r h'=>h'=G∧r=zas (zdj w 0 l)):=by
 refine z6 Tryz.func276 rfl rfl rfl ?_
 refine rn ?_;refine za5 l.length (fun k=>zdj w 0 l=zdj w k (l.drop k)) (fun k=>⟨[(10,iv k),(1,fv),(8,.list f 4 (l.map zdc)),(9,iv (l.map zdc).length)],G,[]⟩) (by simp) es ?_
 intro k lk zk
 refine rn ?_;refine z8 rfl (fun hc11=> ?_) (fun hc11=> ?_)
 ·have hk:=zdr hc11
  have rk:=zdp (f:=zdc) hk
  refine rn ?_;refine z7 rfl (x6 rfl fun b7=> ?_)
  refine rn ?_;refine qv rfl rfl (y6 rfl rfl (y3.qt (h2:= [_]) (hp k hk) (zcy [_] _))) ?_
  refine rn ?_;refine z8 rfl (fun hc18=> ?_) (fun hc18=> ?_)
  ·refine rn ?_;refine rq 1 ?_
   exact ⟨rfl,by rw [zft hk zk (by simpa using hc18)];rfl⟩
  ·refine rn ?_;exact ⟨hk,zcw hk zk (by simpa using hc18),eA⟩
 ·have qk:=zdx hc11 lk
  refine rn ?_;refine rq 0 ?_
  exact ⟨rfl,by rw [zhh qk zk];rfl⟩
theorem yew {f:Bool} (l:List Wan) (fv:AV) (w:Nat→Wan→Bool) (G:List Res) (hp:∀k (hk:k < l.length),y3 Tryz.prog fv [iv k,.agg (zcm l[k])] G (fun r h'=>h'=G∧r=bv (w k l[k]))) (hl:l.length≤1000000):x3 Tryz.prog 279 [.list f 2 (l.map zcm),fv] G (fun r h'=>h'=G∧r=zas (zdj w 0 l)):=by
 refine z6 Tryz.func279 rfl rfl rfl ?_
 refine rn ?_;refine za5 l.length (fun k=>zdj w 0 l=zdj w k (l.drop k)) (fun k=>⟨[(10,iv k),(1,fv),(8,.list f 2 (l.map zcm)),(9,iv (l.map zcm).length)],G,[]⟩) (by simp) es ?_
 intro k lk zk
 refine rn ?_;refine z8 rfl (fun hc11=> ?_) (fun hc11=> ?_)
 ·have hk:=zdr hc11
  have rk:=zdp (f:=zcm) hk
  refine rn ?_;refine z7 rfl (x6 rfl fun b7=> ?_)
  refine rn ?_;refine qv rfl rfl (y6 rfl rfl (y3.qt (h2:= [_]) (hp k hk) (zcy [_] _))) ?_
  refine rn ?_;refine z8 rfl (fun hc18=> ?_) (fun hc18=> ?_)
  ·refine rn ?_;refine rq 1 ?_
   exact ⟨rfl,by rw [zft hk zk (by simpa using hc18)];rfl⟩
  ·refine rn ?_;exact ⟨hk,zcw hk zk (by simpa using hc18),eA⟩
 ·have qk:=zdx hc11 lk
  refine rn ?_;refine rq 0 ?_
  exact ⟨rfl,by rw [zhh qk zk];rfl⟩
theorem zz7 (p r:H.Ord) (b:Nat) (G:List Res):x3 Tryz.prog 271 [.agg (zc7 p),pZ b] (.box b 99 (zc7 r)::G) (fun x h'=>h'= .box b 99 (zc7 r)::G∧x=bv (p.o==r.o)):=by
 refine z6 Tryz.func271 rfl rfl rfl ?_
 refine rn ?_;refine z7 rfl (w6 rfl rfl rfl fun b2=> ?_)
 refine rn ?_;refine rq 1 ?_
 exact ⟨rfl,congrArg bv (by first|rfl|(simp_all;done))⟩
theorem zz9 (p r:Mat) (b:Nat) (G:List Res):x3 Tryz.prog 278 [.agg (zdc p),pZ b] (.box b 112 (zdc r)::G) (fun x h'=>h'= .box b 112 (zdc r)::G∧x=bv (p.p==r.p && p.o==r.o)):=by
 refine z6 Tryz.func278 rfl rfl rfl ?_
 refine rn ?_;refine z7 rfl (w6 rfl rfl rfl fun b2=> ?_)
 refine rn ?_;refine q9 (fun hg1_5=> ?_) (fun hg1_5=> ?_)
 ·refine rn ?_;refine rq 1 ?_
  exact ⟨rfl,congrArg bv (by first|rfl|(simp_all;done))⟩
 ·refine rn ?_;refine rq 1 ?_
  exact ⟨rfl,congrArg bv (by first|rfl|(simp_all;done))⟩
theorem yet (p r:Wan) (b:Nat) (G:List Res):x3 Tryz.prog 282 [.agg (zcm p),pZ b] (.box b 51 (zcm r)::G) (fun x h'=>h'= .box b 51 (zcm r)::G∧x=bv (p.s==r.s)):=by
 refine z6 Tryz.func282 rfl rfl rfl ?_
 refine rn ?_;refine z7 rfl (w6 rfl rfl rfl fun b2=> ?_)
 refine rn ?_;refine rq 1 ?_
 exact ⟨rfl,congrArg bv (by first|rfl|(simp_all;done))⟩
theorem yeu (e:Ev) (r:Wan) (b:Nat) (G:List Res):x3 Tryz.prog 281 [.agg (evR e),pZ b] (.box b 51 (zcm r)::G) (fun x h'=>h'= .box b 51 (zcm r)::G∧x=bv (e.kind==1 && e.s==r.s)):=by
 refine z6 Tryz.func281 rfl rfl rfl ?_
 refine rn ?_;refine z7 rfl (w6 rfl rfl rfl fun b2=> ?_)
 refine rn ?_;refine q9 (fun hg1_3=> ?_) (fun hg1_3=> ?_)
 ·refine rn ?_;refine rq 1 ?_
  exact ⟨rfl,congrArg bv (by first|(simp_all;done)|(simp only [*];done))⟩
 ·refine rn ?_;refine rq 1 ?_
  exact ⟨rfl,congrArg bv (by first|(simp_all;done)|(simp only [*];done))⟩
theorem zt6 (r:H.Ord) (x:Int) (b:Nat) (G:List Res):x3 Tryz.prog 275 [.agg (zc7 r),pZ b] (.box b 3 [iv x]::G) (fun z h'=>h'= .box b 3 [iv x]::G∧z=bv (r.o==x)):=by
 refine z6 Tryz.func275 rfl rfl rfl ?_
 refine rn ?_;refine z7 rfl (w6 rfl rfl rfl fun b2=> ?_)
 refine rn ?_;refine rq 1 ?_
 exact ⟨rfl,congrArg bv (by first|rfl|(simp_all;done))⟩
theorem ye0 (h:Hist) (la:Lim 3000 h) (i:Nat) (hi:i≤h.ords.length) (r:H.Ord) (hr:r.ts.length≤3000) (bl bp:Nat) (G:List Res):x3 Tryz.prog 269 [iv i,.agg (zc7 r),pZ bp] (.box bp 198 [pZ bl]:: .box bl 203 (zbi h)::G) (fun x h'=>h'=(.box bp 198 [pZ bl]:: .box bl 203 (zbi h)::G)∧x=bv (zhj h i r)):=by
 refine z6 Tryz.func269 rfl rfl rfl ?_
 have bo:=la.ords
 refine rn ?_;refine z7 rfl (w6 rfl rfl rfl fun b4=> ?_)
 refine rn ?_;refine qv rfl rfl (y6 rfl rfl (y3.qt (h2:= .box b4 99 (zc7 r):: .box bp 198 [pZ bl]::G) (y3.of_fun (zmv h la bl r.o [])) (pt2 _ _ _ _))) ?_
 refine q1 ?_;refine u3 (j8 ?_)
 refine x9 (y5 ?_)
 refine q1 ?_;refine q1 ?_;refine q1 ?_;refine q1 ?_;refine q1 ?_;refine q1 ?_;refine qq rfl rfl (zdy (k:=i) rfl rfl (by rw [oM];omega)) ?_
 rw [←List.map_take]
 refine rn ?_;refine qv rfl rfl (y6 rfl rfl (y3.of_fun (zd7 (h.ords.take i) _ _ (.box b4 99 (zc7 r):: .box bp 198 [pZ bl]:: .box bl 203 (zbi h)::G) (fun p _=>y3.of_acall (fs:= []) (cs:= [pZ b4]) (zz7 p r b4 (.box bp 198 [pZ bl]:: .box bl 203 (zbi h)::G))) (by rw [List.length_take];have:=la.ords;omega)))) ?_
 refine rn ?_;refine q9 (fun hg2_9=> ?_) (fun hg2_9=> ?_)
 ·refine rn ?_;refine rq 1 ?_
  exact ⟨rfl,congrArg bv (by unfold zhj;first|(simp only [hg2_9,hg2_16,oM,zh7,Bool.not_true,Bool.not_false,Bool.true_or,Bool.or_true,Bool.false_or];done)|(simp only [hg2_9,Bool.true_or];done)|(simp_all [zh7];done))⟩
 ·refine rn ?_;refine qv rfl rfl (y6 rfl rfl (zax (yip r.ts (zaf h.evs r.o) (Nat.le_trans hr (by decide)) (Nat.le_trans (zhy h.evs r.o) (Nat.le_trans la.evs (by decide)))) (Sbs.refl _))) ?_
  refine rn ?_;refine q9 (fun hg2_16=> ?_) (fun hg2_16=> ?_)
  ·refine rn ?_;refine rq 1 ?_
   exact ⟨rfl,congrArg bv (by unfold zhj;first|(simp only [hg2_9,hg2_16,oM,zh7,Bool.not_true,Bool.not_false,Bool.true_or,Bool.or_true,Bool.false_or];done)|(simp only [hg2_9,Bool.true_or];done)|(simp_all [zh7];done))⟩
  ·refine rn ?_;refine rq 1 ?_
   exact ⟨rfl,congrArg bv (by unfold zhj;first|(simp only [hg2_9,hg2_16,oM,zh7,Bool.not_true,Bool.not_false,Bool.true_or,Bool.or_true,Bool.false_or];done)|(simp only [hg2_9,Bool.true_or];done)|(simp_all [zh7];done))⟩
theorem ye1 (h:Hist) (la:Lim 3000 h) (i:Nat) (hi:i≤h.mats.length) (r:Mat) (hr:r.ts.length≤3000) (bl bp:Nat) (G:List Res):x3 Tryz.prog 277 [iv i,.agg (zdc r),pZ bp] (.box bp 198 [pZ bl]:: .box bl 203 (zbi h)::G) (fun x h'=>h'=(.box bp 198 [pZ bl]:: .box bl 203 (zbi h)::G)∧x=bv (zl9 h i r)):=by
 refine z6 Tryz.func277 rfl rfl rfl ?_
 have bo:=la.mats
 refine rn ?_;refine z7 rfl (w6 rfl rfl rfl fun b4=> ?_)
 refine rn ?_;refine j5 16 rfl ?_
 refine dq rfl rfl qrA ?_;refine dq rfl rfl qrA ?_;refine dq rfl rfl qrA ?_;refine dq rfl rfl qrA ?_;refine dq rfl rfl qrA ?_;refine dq rfl rfl qrA ?_;refine dq rfl rfl (zdy (k:=i) rfl rfl (by rw [oM];omega)) ?_
 rw [←List.map_take]
 refine rn ?_;refine dv rfl rfl (by exact y6 rfl rfl (y3.of_fun (zf4 (h.mats.take i) _ _ (.box b4 112 (zdc r):: .box bp 198 [pZ bl]:: .box bl 203 (zbi h)::G) (fun p _=>y3.of_acall (fs:= []) (cs:= [pZ b4]) (zz9 p r b4 (.box bp 198 [pZ bl]:: .box bl 203 (zbi h)::G))) (by rw [List.length_take];have:=la.mats;omega)))) ?_
 refine rn ?_;refine ze1 (fun hg2_9=> ?_) (fun hg2_9=> ?_)
 ·refine rn ?_;refine rq 1 ?_
  exact ⟨rfl,congrArg bv (by unfold zl9;simp_all)⟩
 ·refine rn ?_;refine dv rfl rfl (by exact y6 rfl rfl (y3.qt (h2:= .box b4 112 (zdc r):: .box bp 198 [pZ bl]::G) (y3.of_fun (zmv h la bl r.o [])) (pt2 _ _ _ _))) ?_
  refine rn ?_;refine qv rfl rfl (y6 rfl rfl (zax (yip r.ts (zaf h.evs r.o) (Nat.le_trans hr (by decide)) (Nat.le_trans (zhy h.evs r.o) (Nat.le_trans la.evs (by decide)))) (Sbs.refl _))) ?_
  refine rn ?_;refine rq 1 ?_
  exact ⟨rfl,congrArg bv (by unfold zl9;simp_all)⟩
theorem yii (h:Hist) (la:Lim 3000 h) (i:Nat) (hi:i≤h.wants.length) (r:Wan) (bl bp:Nat) (G:List Res):x3 Tryz.prog 280 [iv i,.agg (zcm r),pZ bp] (.box bp 198 [pZ bl]:: .box bl 203 (zbi h)::G) (fun x h'=>h'=(.box bp 198 [pZ bl]:: .box bl 203 (zbi h)::G)∧x=bv (zk9 h i r)):=by
 refine z6 Tryz.func280 rfl rfl rfl ?_
 have bo:=la.wants
 refine rn ?_;refine z7 rfl (w6 rfl rfl rfl fun b4=> ?_)
 refine q1 ?_;refine u3 (j8 ?_)
 refine x9 (y5 ?_)
 refine q1 ?_;refine q1 ?_;refine u3 (j8 ?_)
 refine x9 (y5 ?_)
 refine q1 ?_;refine q1 ?_;refine q1 ?_;refine q1 ?_;refine q1 ?_;refine q1 ?_;refine qq rfl rfl (zdy (k:=i) rfl rfl (by rw [oM];omega)) ?_
 rw [←List.map_take]
 refine rn ?_;refine qv rfl rfl (y6 rfl rfl (y3.of_fun (zf3 (h.wants.take i) _ _ (.box b4 51 (zcm r):: .box bp 198 [pZ bl]:: .box bl 203 (zbi h)::G) (fun p _=>y3.of_acall (fs:= []) (cs:= [pZ b4]) (yet p r b4 (.box bp 198 [pZ bl]:: .box bl 203 (zbi h)::G))) (by rw [List.length_take];have:=la.wants;omega)))) ?_
 refine rn ?_;refine q9 (fun hg2_9=> ?_) (fun hg2_9=> ?_)
 ·refine rn ?_;refine rq 1 ?_
  exact ⟨rfl,congrArg bv (by unfold zk9;simp_all)⟩
 ·refine rn ?_;refine qv rfl rfl (y6 rfl rfl (y3.of_fun (zgt h.evs _ _ (.box b4 51 (zcm r):: .box bp 198 [pZ bl]:: .box bl 203 (zbi h)::G) (fun e _=>y3.of_acall (fs:= []) (cs:= [pZ b4]) (yeu e r b4 (.box bp 198 [pZ bl]:: .box bl 203 (zbi h)::G))) (Nat.le_trans la.evs (by decide))))) ?_
  refine rn ?_;refine rq 1 ?_
  exact ⟨rfl,congrArg bv (by unfold zk9;simp_all)⟩
theorem zv6 (h:Hist) (la:Lim 3000 h) (x:Int) (s:ByteArray) (bl bp:Nat) (G:List Res):x3 Tryz.prog 274 [iv x,sv s,pZ bp] (.box bp 198 [pZ bl]:: .box bl 203 (zbi h)::G) (fun z h'=>h'=(.box bp 198 [pZ bl]:: .box bl 203 (zbi h)::G)∧z=bv (zq2 h x)):=by
 refine z6 Tryz.func274 rfl rfl rfl ?_
 refine rn ?_;refine z7 rfl (w6 rfl rfl rfl fun b3=> ?_)
 refine rn ?_;refine qv rfl rfl (y6 rfl rfl (y3.qt (h2:= .box b3 3 [iv x]:: .box bp 198 [pZ bl]::G) (y3.of_fun (zmv h la bl x [])) (pt2 _ _ _ _))) ?_
 refine rn ?_;refine q9 (fun hg1_5=> ?_) (fun hg1_5=> ?_)
 ·refine rn ?_;refine qv rfl rfl (y6 rfl rfl (y3.of_fun (zd7 h.ords _ _ (.box b3 3 [iv x]:: .box bp 198 [pZ bl]:: .box bl 203 (zbi h)::G) (fun r _=>y3.of_acall (fs:= []) (cs:= [pZ b3]) (zt6 r x b3 (.box bp 198 [pZ bl]:: .box bl 203 (zbi h)::G))) (Nat.le_trans la.ords (by decide))))) ?_
  refine rn ?_;refine rq 1 ?_
  exact ⟨rfl,congrArg bv (by unfold zq2;by_cases e:1 < (zaf h.evs x).length <;> first|(simp_all;done)|(simp [e];done)|(exfalso;simp at hg1_5;omega))⟩
 ·refine rn ?_;refine rq 1 ?_
  exact ⟨rfl,congrArg bv (by unfold zq2;by_cases e:1 < (zaf h.evs x).length <;> first|(simp_all;done)|(simp [e];done)|(exfalso;simp at hg1_5;omega))⟩
theorem yin (h:Hist) (la:Lim 3000 h) (bl:Nat) (G:List Res):x3 Tryz.prog 254 [pZ bl] (.box bl 203 (zbi h)::G) (fun r h'=>h'=G∧r=zas (zcg h 7)):=by
 refine z6 Tryz.func254 rfl rfl rfl ?_
 refine rn ?_;refine z7 rfl (w6 rfl rfl rfl fun b1=> ?_)
 refine rn ?_;refine qv rfl rfl (y6 rfl rfl (y3.of_fun (yey h.ords (.fn (.func 269) [] [pZ b1]) (zhj h) (.box b1 198 [pZ bl]:: .box bl 203 (zbi h)::G) (fun k hk=>y3.of_acall (fs:= []) (cs:= [pZ b1]) (ye0 h la k (Nat.le_of_lt hk) _ (la.ordts _ (List.getElem_mem hk)) bl b1 G)) (Nat.le_trans la.ords (by decide))))) ?_
 obtain ⟨pi,pb,hpv⟩:∃i b,zas (zdj (zhj h) 0 h.ords)= .tup [iv i,bv b]:=zcx _
 rw [hpv]
 refine rn ?_;refine rq 2 ?_
 exact ⟨rfl,hpv.symm⟩
theorem zz8 (h:Hist) (la:Lim 3000 h) (bl:Nat) (G:List Res):x3 Tryz.prog 255 [pZ bl] (.box bl 203 (zbi h)::G) (fun r h'=>h'=G∧r=zas (zcg h 8)):=by
 refine z6 Tryz.func255 rfl rfl rfl ?_
 refine rn ?_;refine z7 rfl (w6 rfl rfl rfl fun b1=> ?_)
 refine rn ?_;refine qv rfl rfl (y6 rfl rfl (y3.of_fun (yex h.os (.fn (.func 274) [] [pZ b1]) (fun x _=>zq2 h (x:Nat)) (.box b1 198 [pZ bl]:: .box bl 203 (zbi h)::G) (fun k hk=>y3.of_acall (fs:= []) (cs:= [pZ b1]) (zv6 h la k _ bl b1 G)) (Nat.le_trans la.os (by decide))))) ?_
 obtain ⟨pi,pb,hpv⟩:∃i b,zas (zdj (fun x _=>zq2 h (x:Nat)) 0 h.os)= .tup [iv i,bv b]:=zcx _
 rw [hpv]
 refine rn ?_;refine rq 2 ?_
 exact ⟨rfl,hpv.symm⟩
theorem yiq (h:Hist) (la:Lim 3000 h) (bl:Nat) (G:List Res):x3 Tryz.prog 256 [pZ bl] (.box bl 203 (zbi h)::G) (fun r h'=>h'=G∧r=zas (zcg h 9)):=by
 refine z6 Tryz.func256 rfl rfl rfl ?_
 refine rn ?_;refine z7 rfl (w6 rfl rfl rfl fun b1=> ?_)
 refine rn ?_;refine qv rfl rfl (y6 rfl rfl (y3.of_fun (yez h.mats (.fn (.func 277) [] [pZ b1]) (zl9 h) (.box b1 198 [pZ bl]:: .box bl 203 (zbi h)::G) (fun k hk=>y3.of_acall (fs:= []) (cs:= [pZ b1]) (ye1 h la k (Nat.le_of_lt hk) _ (la.matts _ (List.getElem_mem hk)) bl b1 G)) (Nat.le_trans la.mats (by decide))))) ?_
 obtain ⟨pi,pb,hpv⟩:∃i b,zas (zdj (zl9 h) 0 h.mats)= .tup [iv i,bv b]:=zcx _
 rw [hpv]
 refine rn ?_;refine rq 2 ?_
 exact ⟨rfl,hpv.symm⟩
theorem ymb (h:Hist) (la:Lim 3000 h) (bl:Nat) (G:List Res):x3 Tryz.prog 257 [pZ bl] (.box bl 203 (zbi h)::G) (fun r h'=>h'=G∧r=zas (zcg h 10)):=by
 refine z6 Tryz.func257 rfl rfl rfl ?_
 refine rn ?_;refine z7 rfl (w6 rfl rfl rfl fun b1=> ?_)
 refine rn ?_;refine qv rfl rfl (y6 rfl rfl (y3.of_fun (yew h.wants (.fn (.func 280) [] [pZ b1]) (zk9 h) (.box b1 198 [pZ bl]:: .box bl 203 (zbi h)::G) (fun k hk=>y3.of_acall (fs:= []) (cs:= [pZ b1]) (yii h la k (Nat.le_of_lt hk) _ bl b1 G)) (Nat.le_trans la.wants (by decide))))) ?_
 obtain ⟨pi,pb,hpv⟩:∃i b,zas (zdj (zk9 h) 0 h.wants)= .tup [iv i,bv b]:=zcx _
 rw [hpv]
 refine rn ?_;refine rq 2 ?_
 exact ⟨rfl,hpv.symm⟩
end Go.Proofs
