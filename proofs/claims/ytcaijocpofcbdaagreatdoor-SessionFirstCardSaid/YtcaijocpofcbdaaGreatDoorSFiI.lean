/- The walks of swapRangeCmpFunc, rotateCmpFunc, insertionSortCmpFunc. Conditions: none. -/
import Derived.Test.YtcaijocpofcbdaaGreatDoorSFiH
import Derived.ChangeArms
set_option linter.unusedSectionVars false
set_option linter.unusedSimpArgs false
set_option linter.unusedVariables false
set_option maxRecDepth 10000
namespace Go.Proofs
open Go Go.Ab
attribute [local irreducible] QR QV OE zcw aw zdw zc3 zb7 za6 thn zg2 zes jch zf8
open Go.H
def yhw (cv:AV):Prop:=∀x y:zks,y3 Tryz.prog cv [.agg (zb9 x),.agg (zb9 y)] [] (fun r h'=>h'= []∧r=iv (zcv x y))
set_option maxHeartbeats 4000000 in
theorem zji (s:SV) (l:List zks) (a b n:Nat) (cv:AV) (h1:a+n≤b) (h2:b+n≤l.length) (hl:l.length≤1000000000):x4 Tryz.prog 228 [.v s.v,iv (a:Int),iv (b:Int),iv (n:Int),cv] [.row s.v 3 178 ((l).map zb9)] (fun r h'=>h'= [.row s.v 3 178 ((swN l a b n).map zb9)]∧r= .tup []):=by
 refine z6 Tryz.func228 rfl rfl rfl ?_
 refine rn ?_;refine zb0 n (fun _=>True) (fun k=>⟨[(10,iv (k:Int)),(0,.v s.v),(1,iv (a:Int)),(2,iv (b:Int)),(3,iv (n:Int))],.row s.v 3 178 ((swN l a b k).map zb9):: [],[]⟩) trivial es ?_
 intro k lk _
 refine rn ?_;refine z7 rfl (fun hc13=> ?_) (fun hc13=> ?_)
 ·have hk:k < n:=by simpa using hc13
  obtain ⟨vx,hx⟩:∃v,(swN l a b k)[a+k]? =some v:=⟨_,List.getElem?_eq_getElem (by rw [zlq];omega)⟩
  obtain ⟨vy,hy⟩:∃v,(swN l a b k)[b+k]? =some v:=⟨_,List.getElem?_eq_getElem (by rw [zlq];omega)⟩
  have hxy:a+k≠b+k:=by omega
  refine zab ?_;refine rn0 ?_;refine x6 ?_;refine zan ?_;refine zll 22 [21] [] [12,13,18,19,20] (fun he=>True) rfl rfl rfl trivial ?_
  refine jq rfl (fun he hC=>by replace hC:=hC.2;exact qrA) ?_
  refine jq rfl (fun he hC=>by replace hC:=hC.2;exact qrA) ?_
  refine jq rfl (fun he hC=>by replace hC:=hC.2;exact qrA) ?_
  refine jq rfl (fun he hC=>by replace hC:=hC.2;exact qrA) ?_
  refine jq rfl (fun he hC=>by replace hC:=hC.2;exact qrA) ?_
  refine jq rfl (fun he hC=>by replace hC:=hC.2;exact qrA) ?_
  refine jq rfl (fun he hC=>by replace hC:=hC.2;exact qrA) ?_
  refine jq rfl (fun he hC=>by replace hC:=hC.2;exact qrA) ?_
  refine jq rfl (fun he hC=>by replace hC:=hC.2;exact qrA) ?_
  refine jq rfl (fun he hC=>by replace hC:=hC.2;exact qrA) ?_
  refine jq rfl (fun he hC=>by replace hC:=hC.2;exact qrA) ?_
  refine jq rfl (fun he hC=>by replace hC:=hC.2;exact qrA) ?_
  refine jq rfl (fun he hC=>by obtain rfl:=hC.1 rfl;exact v8 (k:=(b+k)) rfl rfl (by rw [List.length_map];exact (zej hy))) ?_
  refine jq rfl (fun he hC=>by obtain rfl:=hC.1 rfl;exact u6 (row:=zb9 vy) rfl (zb6 hy) rfl) ?_
  refine jq rfl (fun he hC=>by replace hC:=hC.2;exact qrA) ?_
  refine jq rfl (fun he hC=>by replace hC:=hC.2;exact qrA) ?_
  refine jq rfl (fun he hC=>by replace hC:=hC.2;exact qrA) ?_
  refine jq rfl (fun he hC=>by replace hC:=hC.2;exact qrA) ?_
  refine jq rfl (fun he hC=>by obtain rfl:=hC.1 rfl;exact v8 (k:=(a+k)) rfl rfl (by rw [List.length_map];exact (zej hx))) ?_
  refine jq rfl (fun he hC=>by obtain rfl:=hC.1 rfl;exact u6 (row:=zb9 vx) rfl (zb6 hx) rfl) ?_
  refine jq rfl (fun he hC=>by obtain rfl:=hC.1 rfl;exact v8 (k:=(a+k)) rfl rfl (by rw [List.length_map];exact (zej hx))) ?_
  refine je rfl ?_;refine yfa ?_;refine jce rfl fun u=> ?_
  refine zby (k:=(a+k)) rfl rfl rfl (zb6 hx) rfl (Nat.le_of_ble_eq_true rfl) ⟨.any,_,rfl,trivial,?_⟩
  refine jcn ?_;refine ln ?_;refine qq rfl rfl (v8 (k:=(b+k)) rfl rfl (by rw [List.length_set,List.length_map];exact zej hy)) ?_
  refine z8 rfl (zby (k:=(b+k)) rfl rfl rfl (row:=zb9 vy) (by rw [List.getElem?_set_ne hxy];exact zb6 hy) rfl (Nat.le_of_ble_eq_true rfl) ?_)
  have hsw:=zkz (f:=zb9) hx hy
  refine rn ?_;exact ⟨hk,trivial,by rw [show (swN l a b (k+1)).map zb9=_ from hsw.symm];exact eA⟩
 ·have qk:k=n:=by have q:¬(k:Int) < n:=(by simpa using hc13);omega
  refine rn ?_;refine ygo ?_;rw [qk];exact ⟨rfl,rfl⟩
set_option maxHeartbeats 4000000 in
theorem yi1 (s:SV) (l tg:List zks) (a m b:Nat) (cv:AV) (hR:Rot m (m - a) (b - m) l tg) (h1:a < m) (h2:m < b) (hb:b≤l.length) (hl:l.length≤1000000000):x4 Tryz.prog 226 [.v s.v,iv (a:Int),iv (m:Int),iv (b:Int),cv] [.row s.v 3 178 ((l).map zb9)] (fun r h'=>h'= [.row s.v 3 178 ((tg).map zb9)]∧r= .tup []):=by
 refine z6 Tryz.func226 rfl rfl rfl ?_
 refine x6 (y5 ?_)
 refine q1 ?_;refine q1 ?_;refine qq rfl rfl (zbl (k7 rfl rfl rfl (by omega)) (show iv _=iv ((m - a:Nat):Int) from congrArg iv (by omega))) ?_
 refine q1 ?_;refine u4 (j9 ?_)
 refine x6 (y5 ?_)
 refine q1 ?_;refine q1 ?_;refine qq rfl rfl (zbl (k7 rfl rfl rfl (by omega)) (show iv _=iv ((b - m:Nat):Int) from congrArg iv (by omega))) ?_
 refine rn ?_;refine zcp (fun x:Nat×Nat×List zks=>Rot m x.1 x.2.1 x.2.2 tg∧1≤x.1∧1≤x.2.1∧x.2.2.length=l.length) (fun x=>⟨[(10,iv (x.1:Int)),(11,iv (x.2.1:Int)),(0,.v s.v),(2,iv (m:Int)),(4,cv)],.row s.v 3 178 ((x.2.2).map zb9):: [],[]⟩) (fun x=>x.1+x.2.1) (m - a,b - m,l) ⟨hR,by show 1≤m - a;omega,by show 1≤b - m;omega,rfl⟩ es ?_
 rintro ⟨i,j,c⟩ ⟨hr,hi,hj,hcl⟩
 simp only at hr hi hj hcl
 have hrl:=yi2 hr
 show aw _ _ _ _ _ ⟨[(10,iv (i:Int)),(11,iv (j:Int)),(0,.v s.v),(2,iv (m:Int)),(4,cv)],.row s.v 3 178 ((c).map zb9):: [],[]⟩
 refine rn ?_;refine z7 rfl (fun hc20=> ?_) (fun hc20=> ?_)
 ·have hne:i≠j:=by have q:¬(i:Int)=j:=(by simpa using hc20);omega
  refine rn ?_;refine z7 rfl (fun hc23=> ?_) (fun hc23=> ?_)
  ·have hlt:j < i:=by have q:(i:Int) > j:=(by simpa using hc23);omega
   refine x6 (y5 ?_)
   refine q1 ?_;refine q1 ?_;refine q1 ?_;refine qq rfl rfl (zbl (k7 rfl rfl rfl (by omega)) (show iv _=iv ((m - i:Nat):Int) from congrArg iv (by omega))) ?_
   refine rn ?_;refine z8 rfl (w8 rfl rfl (y3.of_fun (zji s c (m - i) m j cv (by omega) (by omega) (by omega))) rfl ?_)
   rintro _ _ ⟨rfl,rfl⟩
   refine u4 (j9 ?_)
   refine y5 ?_;refine q1 ?_;refine q1 ?_;refine qq rfl rfl (zbl (k7 rfl rfl rfl (by omega)) (show iv _=iv ((i - j:Nat):Int) from congrArg iv (by omega))) ?_
   refine rn ?_;exact ⟨(i - j,j,swN c (m - i) m j),⟨ymx hr hlt,by simp only;omega,hj,by rw [zlq];exact hcl⟩,eA,by simp only;omega⟩
  ·have hlt:i < j:=by have q:¬(i:Int) > j:=(by simpa using hc23);omega
   refine x6 (y5 ?_)
   refine q1 ?_;refine q1 ?_;refine q1 ?_;refine qq rfl rfl (zbl (k7 rfl rfl rfl (by omega)) (show iv _=iv ((m - i:Nat):Int) from congrArg iv (by omega))) ?_
   refine q1 ?_;refine q1 ?_;refine q1 ?_;refine q1 ?_;refine qq rfl rfl (zbl (k7 rfl rfl rfl (by omega)) (show iv _=iv ((m+j - i:Nat):Int) from congrArg iv (by omega))) ?_
   refine rn ?_;refine z8 rfl (w8 rfl rfl (y3.of_fun (zji s c (m - i) (m+j - i) i cv (by omega) (by omega) (by omega))) rfl ?_)
   rintro _ _ ⟨rfl,rfl⟩
   refine u4 (j9 ?_)
   refine y5 ?_;refine q1 ?_;refine q1 ?_;refine qq rfl rfl (zbl (k7 rfl rfl rfl (by omega)) (show iv _=iv ((j - i:Nat):Int) from congrArg iv (by omega))) ?_
   refine rn ?_;exact ⟨(i,j - i,swN c (m - i) (m+j - i) i),⟨ymw hr hlt,hi,by simp only;omega,by rw [zlq];exact hcl⟩,eA,by simp only;omega⟩
 ·have hij:i=j:=by have q:(i:Int)=j:=(by simpa using hc20);omega
  subst hij
  refine zhb ?_;refine zgs ?_;refine zgs ?_;refine zdr ?_;refine j9 ?_;refine y5 ?_;refine q1 ?_;refine q1 ?_;refine q1 ?_;refine qq rfl rfl (zbl (k7 rfl rfl rfl (by omega)) (show iv _=iv ((m - i:Nat):Int) from congrArg iv (by omega))) ?_
  refine rn ?_;refine z8 rfl (w8 rfl rfl (y3.of_fun (zji s c (m - i) m i cv (by omega) (by omega) (by omega))) rfl ?_)
  rintro _ _ ⟨rfl,rfl⟩
  refine rn ?_;refine ygo ?_;rw [ymy hr];exact ⟨rfl,rfl⟩
set_option maxHeartbeats 4000000 in
theorem yaw (s:SV) (P M Z:List zks) (a b:Nat) (cv:AV) (hc:yhw cv) (hP:P.length=a) (hM:a+M.length=b) (hl:(P++(M++Z)).length≤1000000000):x4 Tryz.prog 215 [.v s.v,iv (a:Int),iv (b:Int),cv] [.row s.v 3 178 ((P++(M++Z)).map zb9)] (fun r h'=>h'= [.row s.v 3 178 ((P++(isL zcv M++Z)).map zb9)]∧r= .tup []):=by
 refine z6 Tryz.func215 rfl rfl rfl ?_
 simp only [List.length_append] at hl
 refine rn ?_;refine zb0 M.length (fun _=>True) (fun k=>⟨[(8,iv ((a+1+k:Nat):Int)),(0,.v s.v),(1,iv (a:Int)),(2,iv (b:Int)),(3,cv)],.row s.v 3 178 ((P++(isL zcv (M.take (k+1))++(M.drop (k+1)++Z))).map zb9):: [],[]⟩) trivial (by rw [ykq];exact es) ?_
 intro k lk _
 refine rn ?_;refine z7 rfl (fun hc14=> ?_) (fun hc14=> ?_)
 ·have hk:k+1 < M.length:=by have q:((a+1+k:Nat):Int) < b:=(by simpa using hc14);omega
  have hS:(isL zcv (M.take (k+1))).Pairwise (LeC zcv):=(zok yct _).1
  have hSl:(isL zcv (M.take (k+1))).length=k+1:=by rw [zid,List.length_take];omega
  have e0:P++((isL zcv (M.take (k+1)))++(M.drop (k+1)++Z))=P++((isL zcv (M.take (k+1))).take (k+1)++M[k+1]::((isL zcv (M.take (k+1))).drop (k+1)++(M.drop (k+1+1)++Z))):=yfb hSl hk
  obtain ⟨x,hxm⟩:∃x,M[k+1]'hk=x:=⟨_,rfl⟩
  rw [e0,hxm]
  refine rn ?_;refine zcp (fun q:Nat=>q≤(isL zcv (M.take (k+1))).length∧∀z∈(isL zcv (M.take (k+1))).drop q,zcv x z < 0) (fun q=>⟨[(9,iv ((a+q:Nat):Int)),(8,iv ((a+1+k:Nat):Int)),(0,.v s.v),(1,iv (a:Int)),(2,iv (b:Int)),(3,cv)],.row s.v 3 178 ((P++((isL zcv (M.take (k+1))).take q++x::((isL zcv (M.take (k+1))).drop q++(M.drop (k+1+1)++Z)))).map zb9):: [],[]⟩) (fun q=>q) (k+1) ⟨by omega,fun z hz=>absurd hz (by rw [List.drop_eq_nil_of_le (Nat.le_of_eq hSl)];simp)⟩ (by rw [show a+(k+1)=a+1+k by omega];exact es) ?_
  rintro q ⟨hq,hz⟩
  refine rn ?_;refine j3 14 rfl ?_
  refine rn ?_;refine zd7 (fun hg4_3=> ?_) (fun hg4_3=> ?_)
  ·refine dq rfl rfl qrA ?_;refine dq rfl rfl qrA ?_;refine dq rfl rfl qrA ?_;refine dq rfl rfl (v8 (k:=a+q) rfl rfl (by rw [List.length_map];exact zej (yoi hP hq))) ?_
   refine dq rfl rfl (u6 (row:=zb9 x) rfl (zb6 (yoi hP hq)) rfl) ?_
   refine dq rfl rfl qrA ?_;refine dq rfl rfl qrA ?_;refine dq rfl rfl (zbl (k7 rfl rfl rfl (by omega)) (show iv _=iv ((a+q - 1:Nat):Int) from congrArg iv (by have h0:=of_decide_eq_true hg4_3;omega))) ?_
   refine dq rfl rfl (v8 (k:=a+q - 1) rfl rfl (by rw [List.length_map];exact zej (yp8 hP hq (by have h0:=of_decide_eq_true hg4_3;omega)))) ?_
   refine dq rfl rfl (u6 (row:=zb9 ((isL zcv (M.take (k+1))).getD (q - 1) x)) rfl (zb6 (yp8 hP hq (by have h0:=of_decide_eq_true hg4_3;omega))) rfl) ?_
   refine rn ?_;refine qv rfl rfl (y4 rfl rfl (y3.pure (R:=fun r=>r=iv (zcv x ((isL zcv (M.take (k+1))).getD (q - 1) x))) (hc x ((isL zcv (M.take (k+1))).getD (q - 1) x)))) ?_
   refine rn ?_;refine z7 rfl (fun hc34=> ?_) (fun hc34=> ?_)
   ·have hq1:1≤q:=(by have h0:=of_decide_eq_true hg4_3;omega)
    have hlt:zcv x ((isL zcv (M.take (k+1))).getD (q - 1) x) < 0:=of_decide_eq_true hc34
    have hx:=yoi (Z:=(M.drop (k+1+1)++Z)) (x:=x) hP hq
    have hy:=yp8 (Z:=(M.drop (k+1+1)++Z)) (x:=x) hP hq hq1
    obtain ⟨v,hv⟩:∃v,((isL zcv (M.take (k+1))).getD (q - 1) x)=v:=⟨_,rfl⟩
    rw [hv] at hy
    have hxy:a+q≠a+q - 1:=by omega
    refine zab ?_;refine rn0 ?_;refine x6 ?_;refine zan ?_;refine zll 16 [15] [] [8,9,12,13,14] (fun he=>True) rfl rfl rfl trivial ?_
    refine jq rfl (fun he hC=>by replace hC:=hC.2;exact qrA) ?_
    refine jq rfl (fun he hC=>by replace hC:=hC.2;exact qrA) ?_
    refine jq rfl (fun he hC=>by replace hC:=hC.2;exact qrA) ?_
    refine jq rfl (fun he hC=>by replace hC:=hC.2;exact qrA) ?_
    refine jq rfl (fun he hC=>by replace hC:=hC.2;exact zbl (k7 rfl rfl rfl (by omega)) (show iv _=iv ((a+q - 1:Nat):Int) from congrArg iv (by omega))) ?_
    refine jq rfl (fun he hC=>by replace hC:=hC.2;exact qrA) ?_
    refine jq rfl (fun he hC=>by replace hC:=hC.2;exact qrA) ?_
    refine jq rfl (fun he hC=>by replace hC:=hC.2;exact zbl (k7 rfl rfl rfl (by omega)) (show iv _=iv ((a+q - 1:Nat):Int) from congrArg iv (by omega))) ?_
    refine jq rfl (fun he hC=>by obtain rfl:=hC.1 rfl;exact v8 (k:=(a+q - 1)) rfl rfl (by rw [List.length_map];exact (zej hy))) ?_
    refine jq rfl (fun he hC=>by obtain rfl:=hC.1 rfl;exact u6 (row:=zb9 v) rfl (zb6 hy) rfl) ?_
    refine jq rfl (fun he hC=>by replace hC:=hC.2;exact qrA) ?_
    refine jq rfl (fun he hC=>by replace hC:=hC.2;exact qrA) ?_
    refine jq rfl (fun he hC=>by obtain rfl:=hC.1 rfl;exact v8 (k:=(a+q)) rfl rfl (by rw [List.length_map];exact (zej hx))) ?_
    refine jq rfl (fun he hC=>by obtain rfl:=hC.1 rfl;exact u6 (row:=zb9 x) rfl (zb6 hx) rfl) ?_
    refine jq rfl (fun he hC=>by obtain rfl:=hC.1 rfl;exact v8 (k:=(a+q)) rfl rfl (by rw [List.length_map];exact (zej hx))) ?_
    refine je rfl ?_;refine yfa ?_;refine jce rfl fun u=> ?_
    refine zby (k:=(a+q)) rfl rfl rfl (zb6 hx) rfl (Nat.le_of_ble_eq_true rfl) ⟨.any,_,rfl,trivial,?_⟩
    refine jcn ?_;refine ln ?_;refine qq rfl rfl (v8 (k:=(a+q - 1)) rfl rfl (by rw [List.length_set,List.length_map];exact zej hy)) ?_
    refine z8 rfl (zby (k:=(a+q - 1)) rfl rfl rfl (row:=zb9 v) (by rw [List.getElem?_set_ne hxy];exact zb6 hy) rfl (Nat.le_of_ble_eq_true rfl) ?_)
    have hsw:=zkz (f:=zb9) hx hy
    refine u4 ?_;refine zg1 ?_;refine j9 ?_;refine y5 ?_;refine q1 ?_;refine qq rfl rfl (zbl (k7 rfl rfl rfl (by omega)) (show iv _=iv ((a+(q - 1):Nat):Int) from congrArg iv (by omega))) ?_
    refine rn ?_;exact ⟨q - 1,⟨by omega,ykr hq hq1 hlt hz⟩,by rw [←yau hP hq hq1,←hsw];exact eA,by omega⟩
   ·have hst:1≤q→¬zcv x ((isL zcv (M.take (k+1))).getD (q - 1) x) < 0:=by first|exact fun _=>of_decide_eq_false hc34|exact fun h1=>absurd (of_decide_eq_false hg4_3) (by omega)
    refine rn ?_;subst hxm
    exact ⟨by omega,trivial,by rw [←yg2 zmn hS hk hq hz hst];exact eA⟩
  ·refine rn ?_;refine zew rfl ?_;have hst:1≤q→¬zcv x ((isL zcv (M.take (k+1))).getD (q - 1) x) < 0:=by first|exact fun _=>of_decide_eq_false hc34|exact fun h1=>absurd (of_decide_eq_false hg4_3) (by omega)
   refine rn ?_;subst hxm
   exact ⟨by omega,trivial,by rw [←yg2 zmn hS hk hq hz hst];exact eA⟩
 ·have hk:M.length≤k+1:=by have q:¬((a+1+k:Nat):Int) < b:=(by simpa using hc14);omega
  refine rn ?_;refine ygo ?_;rw [List.take_of_length_le hk,List.drop_eq_nil_of_le hk];exact ⟨rfl,rfl⟩
set_option maxHeartbeats 4000000 in
theorem ysf (s:SV) (P R Z:List zks) (x:zks) (a m b:Nat) (cv:AV) (hc:yhw cv) (hP:P.length=a) (hm:a+ [x].length=m) (hb:m+R.length=b) (hR:R.Pairwise (LeC zcv)) (hl:(P++([x]++(R++Z))).length≤1000000000):x4 Tryz.prog 216 [.v s.v,iv (a:Int),iv (m:Int),iv (b:Int),cv] [.row s.v 3 178 ((P++([x]++(R++Z))).map zb9)] (fun r h'=>h'= [.row s.v 3 178 ((P++(mrg zcv [x] R++Z)).map zb9)]∧r= .tup []):=by
 refine z6 Tryz.func216 rfl rfl rfl ?_
 simp only [List.length_append] at hl
 refine x6 ?_;refine x6 (y5 ?_)
 refine q1 ?_;refine q1 ?_;refine q1 ?_;refine qq rfl rfl (zj8 (c:=true) rfl rfl (congrArg some (beq_iff_eq.2 (by simp at hm;omega)))) ?_
 refine rn ?_;refine z7 rfl (fun hc28=> ?_) (fun hc28=> ?_)
 ·refine rn ?_;refine zcp (fun z:Nat×Nat=>z.1≤z.2∧z.2≤R.length∧(1≤z.1→zcv (R.getD (z.1 - 1) zd4) x < 0)∧(z.2 < R.length→¬zcv (R.getD z.2 zd4) x < 0)) (fun z=>⟨[(10,iv ((m+z.1:Nat):Int)),(11,iv ((m+z.2:Nat):Int)),(0,.v s.v),(1,iv (a:Int)),(2,iv (m:Int)),(3,iv (b:Int)),(4,cv)],.row s.v 3 178 ((P++([x]++(R++Z))).map zb9):: [],[]⟩) (fun z=>z.2 - z.1) (0,R.length) ⟨Nat.zero_le _,Nat.le_refl _,fun h=>absurd h (by simp),fun h=>absurd h (by simp)⟩ (by simp only [Nat.add_zero,hb];exact es) ?_
  rintro ⟨u,v⟩ ⟨huv0,hu0,h1,h2⟩
  simp only at huv0 hu0 h1 h2
  show aw _ _ _ _ _ ⟨[(10,iv ((m+u:Nat):Int)),(11,iv ((m+v:Nat):Int)),(0,.v s.v),(1,iv (a:Int)),(2,iv (m:Int)),(3,iv (b:Int)),(4,cv)],.row s.v 3 178 ((P++([x]++(R++Z))).map zb9):: [],[]⟩
  refine rn ?_;refine z7 rfl (fun hc33=> ?_) (fun hc33=> ?_)
  ·have huv:u < v:=by have q:((m+u:Nat):Int) < ((m+v:Nat):Int):=of_decide_eq_true hc33;omega
   refine zab ?_;refine j9 ?_;refine zan ?_;refine x6 (y5 ?_)
   refine q1 ?_;refine q1 ?_;refine qq rfl rfl (zbl (k7 rfl rfl rfl (by omega)) (show iv _=iv (((m+u)+(m+v):Nat):Int) from congrArg iv (by omega))) ?_
   refine qq rfl rfl (zcm (m:=(((m+u)+(m+v):Nat):Int)) rfl (zkx (by omega))) ?_
   refine qq rfl rfl (ziy (c:=((((m+u)+(m+v)) / 2:Nat):Int)) rfl rfl (zky (by omega)) (by decide)) ?_
   refine qq rfl rfl (zcm (m:=((((m+u)+(m+v)) / 2:Nat):Int)) rfl (zld (by omega))) ?_
   refine rn0 ?_;refine x6 ?_;rw [show (m+u+(m+v)) / 2=m+((u+v) / 2) by omega]
   refine j3 9 rfl ?_
   refine dq rfl rfl qrA ?_;refine dq rfl rfl qrA ?_;refine dq rfl rfl qrA ?_;refine dq rfl rfl (v8 (k:=(m+((u+v) / 2))) rfl rfl (by rw [List.length_map];exact (zej (yl3 (L:= [x]) hP hm zd4 (by omega) (by omega))))) ?_
   refine dq rfl rfl (u6 (row:=zb9 (R.getD (m+((u+v) / 2) - m) zd4)) rfl (zb6 (yl3 (L:= [x]) hP hm zd4 (by omega) (by omega))) rfl) ?_
   refine dq rfl rfl qrA ?_;refine dq rfl rfl qrA ?_;refine dq rfl rfl (v8 (k:=a) rfl rfl (by rw [List.length_map];exact (zej (yl4 (L:= [x]) (R:=R) (Z:=Z) hP zd4 (Nat.le_refl a) (by simp))))) ?_
   refine dq rfl rfl (u6 (row:=zb9 ([x].getD (a - a) zd4)) rfl (zb6 (yl4 (L:= [x]) (R:=R) (Z:=Z) hP zd4 (Nat.le_refl a) (by simp))) rfl) ?_
   refine rn ?_;refine qv rfl rfl (y4 rfl rfl (y3.pure (R:=fun r=>r=iv (zcv (R.getD (m+((u+v) / 2) - m) zd4) ([x].getD (a - a) zd4))) (hc (R.getD (m+((u+v) / 2) - m) zd4) ([x].getD (a - a) zd4)))) ?_
   refine rn ?_;refine z7 rfl (fun hc50=> ?_) (fun hc50=> ?_)
   ·have hlt:zcv (R.getD (m+((u+v) / 2) - m) zd4) ([x].getD (a - a) zd4) < 0:=of_decide_eq_true hc50
    rw [show m+((u+v) / 2) - m=((u+v) / 2) by omega,show [x].getD (a - a) zd4=x by rw [Nat.sub_self];rfl] at hlt
    refine y5 ?_;refine q1 ?_;refine qq rfl rfl (zbl (k7 rfl rfl rfl (by omega)) (show iv _=iv ((m+(((u+v) / 2)+1):Nat):Int) from congrArg iv (by omega))) ?_
    refine rn ?_;exact ⟨(((u+v) / 2)+1,v),⟨by simp only;omega,hu0,fun _=>by simp only;rw [Nat.add_sub_cancel];exact hlt,h2⟩,eA,by simp only;omega⟩
   ·have hlt:¬zcv (R.getD (m+((u+v) / 2) - m) zd4) ([x].getD (a - a) zd4) < 0:=of_decide_eq_false hc50
    rw [show m+((u+v) / 2) - m=((u+v) / 2) by omega,show [x].getD (a - a) zd4=x by rw [Nat.sub_self];rfl] at hlt
    refine rn ?_;exact ⟨(u,((u+v) / 2)),⟨by simp only;omega,by simp only;omega,h1,fun _=>hlt⟩,eA,by simp only;omega⟩
  ·have huv:u=v:=by have q:¬((m+u:Nat):Int) < ((m+v:Nat):Int):=of_decide_eq_false hc33;omega
   subst huv
   refine rn ?_;have hu:u≤R.length:=hu0
   refine zb0 u (fun _=>True) (fun q=>⟨[(13,iv ((a+q:Nat):Int)),(10,iv ((m+u:Nat):Int)),(0,.v s.v),(1,iv (a:Int)),(2,iv (m:Int)),(3,iv (b:Int)),(4,cv)],.row s.v 3 178 ((P++(R.take q++x::(R.drop q++Z))).map zb9):: [],[]⟩) trivial es ?_
   intro q lq _
   refine x6 ?_;refine x6 (y5 ?_)
   refine q1 ?_;refine q1 ?_;refine qq rfl rfl (zbl (k7 rfl rfl rfl (by omega)) (show iv _=iv ((a+u:Nat):Int) from congrArg iv (by simp at hm;omega))) ?_
   refine rn ?_;refine z7 rfl (fun hc58=> ?_) (fun hc58=> ?_)
   ·have hq:q < u:=by have q0:((a+q:Nat):Int) < ((a+u:Nat):Int):=of_decide_eq_true hc58;omega
    have hx:=yoi (S:=R) (Z:=Z) (x:=x) hP (Nat.le_of_lt (Nat.lt_of_lt_of_le hq hu))
    have hy:=ysy (S:=R) (Z:=Z) (x:=x) hP (Nat.lt_of_lt_of_le hq hu) zd4
    obtain ⟨v2,hv2⟩:∃v,R.getD q zd4=v:=⟨_,rfl⟩
    rw [hv2] at hy
    have hxy:a+q≠a+q+1:=by omega
    refine zab ?_;refine rn0 ?_;refine x6 ?_;refine zan ?_;refine zll 16 [15] [] [8,9,12,13,14] (fun he=>True) rfl rfl rfl trivial ?_
    refine jq rfl (fun he hC=>by replace hC:=hC.2;exact qrA) ?_
    refine jq rfl (fun he hC=>by replace hC:=hC.2;exact qrA) ?_
    refine jq rfl (fun he hC=>by replace hC:=hC.2;exact qrA) ?_
    refine jq rfl (fun he hC=>by replace hC:=hC.2;exact qrA) ?_
    refine jq rfl (fun he hC=>by replace hC:=hC.2;exact zbl (k7 rfl rfl rfl (by omega)) (show iv _=iv ((a+q+1:Nat):Int) from congrArg iv (by omega))) ?_
    refine jq rfl (fun he hC=>by replace hC:=hC.2;exact qrA) ?_
    refine jq rfl (fun he hC=>by replace hC:=hC.2;exact qrA) ?_
    refine jq rfl (fun he hC=>by replace hC:=hC.2;exact zbl (k7 rfl rfl rfl (by omega)) (show iv _=iv ((a+q+1:Nat):Int) from congrArg iv (by omega))) ?_
    refine jq rfl (fun he hC=>by obtain rfl:=hC.1 rfl;exact v8 (k:=(a+q+1)) rfl rfl (by rw [List.length_map];exact (zej hy))) ?_
    refine jq rfl (fun he hC=>by obtain rfl:=hC.1 rfl;exact u6 (row:=zb9 v2) rfl (zb6 hy) rfl) ?_
    refine jq rfl (fun he hC=>by replace hC:=hC.2;exact qrA) ?_
    refine jq rfl (fun he hC=>by replace hC:=hC.2;exact qrA) ?_
    refine jq rfl (fun he hC=>by obtain rfl:=hC.1 rfl;exact v8 (k:=(a+q)) rfl rfl (by rw [List.length_map];exact (zej hx))) ?_
    refine jq rfl (fun he hC=>by obtain rfl:=hC.1 rfl;exact u6 (row:=zb9 x) rfl (zb6 hx) rfl) ?_
    refine jq rfl (fun he hC=>by obtain rfl:=hC.1 rfl;exact v8 (k:=(a+q)) rfl rfl (by rw [List.length_map];exact (zej hx))) ?_
    refine je rfl ?_;refine yfa ?_;refine jce rfl fun u=> ?_
    refine zby (k:=(a+q)) rfl rfl rfl (zb6 hx) rfl (Nat.le_of_ble_eq_true rfl) ⟨.any,_,rfl,trivial,?_⟩
    refine jcn ?_;refine ln ?_;refine qq rfl rfl (v8 (k:=(a+q+1)) rfl rfl (by rw [List.length_set,List.length_map];exact zej hy)) ?_
    refine z8 rfl (zby (k:=(a+q+1)) rfl rfl rfl (row:=zb9 v2) (by rw [List.getElem?_set_ne hxy];exact zb6 hy) rfl (Nat.le_of_ble_eq_true rfl) ?_)
    have hsw:=zkz (f:=zb9) hx hy
    refine u4 ?_;refine zg1 ?_;refine j9 ?_;refine y5 ?_;refine q1 ?_;refine qq rfl rfl (zbl (k7 rfl rfl rfl (by omega)) (show iv _=iv ((a+(q+1):Nat):Int) from congrArg iv (by omega))) ?_
    refine rn ?_;exact ⟨hq,trivial,by rw [←yra hP (Nat.lt_of_lt_of_le hq hu),←hsw];exact eA⟩
   ·have hq:q=u:=by have q0:¬((a+q:Nat):Int) < ((a+u:Nat):Int):=of_decide_eq_false hc58;omega
    subst hq
    refine rn ?_;refine rqz ?_;rw [yek zmn hR hu h1 h2];exact ⟨rfl,rfl⟩
 ·first|cases hc28|exact absurd hc28 (by decide)|(exfalso;simp_all;done)
set_option maxHeartbeats 4000000 in
theorem yse (s:SV) (P L Z:List zks) (y:zks) (a m b:Nat) (cv:AV) (hc:yhw cv) (hP:P.length=a) (hm:a+L.length=m) (hb:m+ [y].length=b) (h1L:L.length≠1) (hL:L.Pairwise (LeC zcv)) (hl:(P++(L++([y]++Z))).length≤1000000000):x4 Tryz.prog 216 [.v s.v,iv (a:Int),iv (m:Int),iv (b:Int),cv] [.row s.v 3 178 ((P++(L++([y]++Z))).map zb9)] (fun r h'=>h'= [.row s.v 3 178 ((P++(mrg zcv L [y]++Z)).map zb9)]∧r= .tup []):=by
 refine z6 Tryz.func216 rfl rfl rfl ?_
 simp only [List.length_append] at hl
 refine x6 ?_;refine x6 (y5 ?_)
 refine q1 ?_;refine q1 ?_;refine q1 ?_;refine qq rfl rfl (zj8 (c:=false) rfl rfl (congrArg some (beq_eq_false_iff_ne.2 (by omega)))) ?_
 refine rn ?_;refine z7 rfl (fun hc28=> ?_) (fun hc28=> ?_)
 ·first|cases hc28|exact absurd hc28 (by decide)|(exfalso;simp_all;done)
 ·refine zab ?_;refine j9 ?_;refine x6 ?_;refine x6 (y5 ?_)
  refine q1 ?_;refine q1 ?_;refine q1 ?_;refine qq rfl rfl (zj8 (c:=true) rfl rfl (congrArg some (beq_iff_eq.2 (by simp at hb;omega)))) ?_
  refine rn ?_;refine z7 rfl (fun hc80=> ?_) (fun hc80=> ?_)
  ·refine rn ?_;refine zcp (fun z:Nat×Nat=>z.1≤z.2∧z.2≤L.length∧(1≤z.1→¬zcv y (L.getD (z.1 - 1) zd4) < 0)∧(z.2 < L.length→zcv y (L.getD z.2 zd4) < 0)) (fun z=>⟨[(14,iv ((a+z.1:Nat):Int)),(15,iv ((a+z.2:Nat):Int)),(0,.v s.v),(1,iv (a:Int)),(2,iv (m:Int)),(3,iv (b:Int)),(4,cv)],.row s.v 3 178 ((P++(L++([y]++Z))).map zb9):: [],[]⟩) (fun z=>z.2 - z.1) (0,L.length) ⟨Nat.zero_le _,Nat.le_refl _,fun h=>absurd h (by simp),fun h=>absurd h (by simp)⟩ (by simp only [Nat.add_zero,hm];exact es) ?_
   rintro ⟨u,v⟩ ⟨huv0,hu0,h1,h2⟩
   simp only at huv0 hu0 h1 h2
   show aw _ _ _ _ _ ⟨[(14,iv ((a+u:Nat):Int)),(15,iv ((a+v:Nat):Int)),(0,.v s.v),(1,iv (a:Int)),(2,iv (m:Int)),(3,iv (b:Int)),(4,cv)],.row s.v 3 178 ((P++(L++([y]++Z))).map zb9):: [],[]⟩
   refine rn ?_;refine z7 rfl (fun hc85=> ?_) (fun hc85=> ?_)
   ·have huv:u < v:=by have q:((a+u:Nat):Int) < ((a+v:Nat):Int):=of_decide_eq_true hc85;omega
    refine zab ?_;refine j9 ?_;refine zan ?_;refine x6 (y5 ?_)
    refine q1 ?_;refine q1 ?_;refine qq rfl rfl (zbl (k7 rfl rfl rfl (by omega)) (show iv _=iv (((a+u)+(a+v):Nat):Int) from congrArg iv (by omega))) ?_
    refine qq rfl rfl (zcm (m:=(((a+u)+(a+v):Nat):Int)) rfl (zkx (by omega))) ?_
    refine qq rfl rfl (ziy (c:=((((a+u)+(a+v)) / 2:Nat):Int)) rfl rfl (zky (by omega)) (by decide)) ?_
    refine qq rfl rfl (zcm (m:=((((a+u)+(a+v)) / 2:Nat):Int)) rfl (zld (by omega))) ?_
    refine rn0 ?_;refine x6 ?_;rw [show (a+u+(a+v)) / 2=a+((u+v) / 2) by omega]
    refine j3 9 rfl ?_
    refine dq rfl rfl qrA ?_;refine dq rfl rfl qrA ?_;refine dq rfl rfl qrA ?_;refine dq rfl rfl (v8 (k:=m) rfl rfl (by rw [List.length_map];exact (zej (yl3 (L:=L) (R:= [y]) (Z:=Z) hP hm zd4 (Nat.le_refl m) (by simp))))) ?_
    refine dq rfl rfl (u6 (row:=zb9 ([y].getD (m - m) zd4)) rfl (zb6 (yl3 (L:=L) (R:= [y]) (Z:=Z) hP hm zd4 (Nat.le_refl m) (by simp))) rfl) ?_
    refine dq rfl rfl qrA ?_;refine dq rfl rfl qrA ?_;refine dq rfl rfl (v8 (k:=(a+((u+v) / 2))) rfl rfl (by rw [List.length_map];exact (zej (yl4 (L:=L) (R:= [y]) (Z:=Z) hP zd4 (by omega) (by omega))))) ?_
    refine dq rfl rfl (u6 (row:=zb9 (L.getD (a+((u+v) / 2) - a) zd4)) rfl (zb6 (yl4 (L:=L) (R:= [y]) (Z:=Z) hP zd4 (by omega) (by omega))) rfl) ?_
    refine rn ?_;refine qv rfl rfl (y4 rfl rfl (y3.pure (R:=fun r=>r=iv (zcv ([y].getD (m - m) zd4) (L.getD (a+((u+v) / 2) - a) zd4))) (hc ([y].getD (m - m) zd4) (L.getD (a+((u+v) / 2) - a) zd4)))) ?_
    refine rn ?_;refine z7 rfl (fun hc103=> ?_) (fun hc103=> ?_)
    ·have hlt:¬zcv ([y].getD (m - m) zd4) (L.getD (a+((u+v) / 2) - a) zd4) < 0:=of_decide_eq_false (by simpa using hc103)
     rw [show a+((u+v) / 2) - a=((u+v) / 2) by omega,show [y].getD (m - m) zd4=y by rw [Nat.sub_self];rfl] at hlt
     refine y5 ?_;refine q1 ?_;refine qq rfl rfl (zbl (k7 rfl rfl rfl (by omega)) (show iv _=iv ((a+(((u+v) / 2)+1):Nat):Int) from congrArg iv (by omega))) ?_
     refine rn ?_;exact ⟨(((u+v) / 2)+1,v),⟨by simp only;omega,hu0,fun _=>by simp only;rw [Nat.add_sub_cancel];exact hlt,h2⟩,eA,by simp only;omega⟩
    ·have hlt:zcv ([y].getD (m - m) zd4) (L.getD (a+((u+v) / 2) - a) zd4) < 0:=of_decide_eq_true (by simpa using hc103)
     rw [show a+((u+v) / 2) - a=((u+v) / 2) by omega,show [y].getD (m - m) zd4=y by rw [Nat.sub_self];rfl] at hlt
     refine rn ?_;exact ⟨(u,((u+v) / 2)),⟨by simp only;omega,by simp only;omega,h1,fun _=>hlt⟩,eA,by simp only;omega⟩
   ·have huv:u=v:=by have q:¬((a+u:Nat):Int) < ((a+v:Nat):Int):=of_decide_eq_false hc85;omega
    subst huv
    refine rn ?_;have hu:u≤L.length:=hu0
    refine zcp (fun q:Nat=>u≤q∧q≤L.length) (fun q=>⟨[(17,iv ((a+q:Nat):Int)),(14,iv ((a+u:Nat):Int)),(0,.v s.v),(1,iv (a:Int)),(2,iv (m:Int)),(3,iv (b:Int)),(4,cv)],.row s.v 3 178 ((P++(L.take q++y::(L.drop q++Z))).map zb9):: [],[]⟩) (fun q=>q) L.length ⟨hu,Nat.le_refl _⟩ (by rw [List.take_length,List.drop_length,hm];exact es) ?_
    rintro q ⟨hq1,hq2⟩
    refine rn ?_;refine z7 rfl (fun hc110=> ?_) (fun hc110=> ?_)
    ·have hq:u < q:=by have q0:((a+q:Nat):Int) > ((a+u:Nat):Int):=of_decide_eq_true hc110;omega
     have hx:=yoi (S:=L) (Z:=Z) (x:=y) hP hq2
     have hy:=yp8 (S:=L) (Z:=Z) (x:=y) hP hq2 (by omega)
     obtain ⟨v2,hv2⟩:∃v,L.getD (q - 1) y=v:=⟨_,rfl⟩
     rw [hv2] at hy
     have hxy:a+q≠a+q - 1:=by omega
     refine zab ?_;refine rn0 ?_;refine x6 ?_;refine zan ?_;refine zll 16 [15] [] [8,9,12,13,14] (fun he=>True) rfl rfl rfl trivial ?_
     refine jq rfl (fun he hC=>by replace hC:=hC.2;exact qrA) ?_
     refine jq rfl (fun he hC=>by replace hC:=hC.2;exact qrA) ?_
     refine jq rfl (fun he hC=>by replace hC:=hC.2;exact qrA) ?_
     refine jq rfl (fun he hC=>by replace hC:=hC.2;exact qrA) ?_
     refine jq rfl (fun he hC=>by replace hC:=hC.2;exact zbl (k7 rfl rfl rfl (by omega)) (show iv _=iv ((a+q - 1:Nat):Int) from congrArg iv (by omega))) ?_
     refine jq rfl (fun he hC=>by replace hC:=hC.2;exact qrA) ?_
     refine jq rfl (fun he hC=>by replace hC:=hC.2;exact qrA) ?_
     refine jq rfl (fun he hC=>by replace hC:=hC.2;exact zbl (k7 rfl rfl rfl (by omega)) (show iv _=iv ((a+q - 1:Nat):Int) from congrArg iv (by omega))) ?_
     refine jq rfl (fun he hC=>by obtain rfl:=hC.1 rfl;exact v8 (k:=(a+q - 1)) rfl rfl (by rw [List.length_map];exact (zej hy))) ?_
     refine jq rfl (fun he hC=>by obtain rfl:=hC.1 rfl;exact u6 (row:=zb9 v2) rfl (zb6 hy) rfl) ?_
     refine jq rfl (fun he hC=>by replace hC:=hC.2;exact qrA) ?_
     refine jq rfl (fun he hC=>by replace hC:=hC.2;exact qrA) ?_
     refine jq rfl (fun he hC=>by obtain rfl:=hC.1 rfl;exact v8 (k:=(a+q)) rfl rfl (by rw [List.length_map];exact (zej hx))) ?_
     refine jq rfl (fun he hC=>by obtain rfl:=hC.1 rfl;exact u6 (row:=zb9 y) rfl (zb6 hx) rfl) ?_
     refine jq rfl (fun he hC=>by obtain rfl:=hC.1 rfl;exact v8 (k:=(a+q)) rfl rfl (by rw [List.length_map];exact (zej hx))) ?_
     refine je rfl ?_;refine yfa ?_;refine jce rfl fun u=> ?_
     refine zby (k:=(a+q)) rfl rfl rfl (zb6 hx) rfl (Nat.le_of_ble_eq_true rfl) ⟨.any,_,rfl,trivial,?_⟩
     refine jcn ?_;refine ln ?_;refine qq rfl rfl (v8 (k:=(a+q - 1)) rfl rfl (by rw [List.length_set,List.length_map];exact zej hy)) ?_
     refine z8 rfl (zby (k:=(a+q - 1)) rfl rfl rfl (row:=zb9 v2) (by rw [List.getElem?_set_ne hxy];exact zb6 hy) rfl (Nat.le_of_ble_eq_true rfl) ?_)
     have hsw:=zkz (f:=zb9) hx hy
     refine u4 ?_;refine zg1 ?_;refine j9 ?_;refine y5 ?_;refine q1 ?_;refine qq rfl rfl (zbl (k7 rfl rfl rfl (by omega)) (show iv _=iv ((a+(q - 1):Nat):Int) from congrArg iv (by omega))) ?_
     refine rn ?_;exact ⟨q - 1,⟨by omega,by omega⟩,by rw [←yau hP hq2 (by omega),←hsw];exact eA,by omega⟩
    ·have hq:q=u:=by have q0:¬((a+q:Nat):Int) > ((a+u:Nat):Int):=of_decide_eq_false hc110;omega
     subst hq
     refine rn ?_;refine rqz ?_;rw [yal zmn hL hu h1 h2];exact ⟨rfl,rfl⟩
  ·first|cases hc80|exact absurd hc80 (by decide)|(exfalso;simp_all;done)
set_option maxHeartbeats 8000000 in
theorem ysd (s:SV) (n:Nat) (P L R Z:List zks) (a m b:Nat) (cv:AV) (hc:yhw cv) (hn:L.length+R.length=n) (hP:P.length=a) (hm:a+L.length=m) (hb:m+R.length=b) (hL1:1≤L.length) (hR1:1≤R.length) (h1L:L.length≠1) (h1R:R.length≠1) (hL:L.Pairwise (LeC zcv)) (hR:R.Pairwise (LeC zcv)) (hl:(P++(L++(R++Z))).length≤1000000000) (ih:∀(P L R Z:List zks) (a m b:Nat),L.length+R.length < n→P.length=a→a+L.length=m→m+R.length=b→1≤L.length→1≤R.length→L.Pairwise (LeC zcv)→R.Pairwise (LeC zcv)→(P++(L++(R++Z))).length≤1000000000→
 x4 Tryz.prog 216 [.v s.v,iv (a:Int),iv (m:Int),iv (b:Int),cv] [.row s.v 3 178 ((P++(L++(R++Z))).map zb9)] (fun r h'=>h'= [.row s.v 3 178 ((P++(mrg zcv L R++Z)).map zb9)]∧r= .tup [])):x4 Tryz.prog 216 [.v s.v,iv (a:Int),iv (m:Int),iv (b:Int),cv] [.row s.v 3 178 ((P++(L++(R++Z))).map zb9)] (fun r h'=>h'= [.row s.v 3 178 ((P++(mrg zcv L R++Z)).map zb9)]∧r= .tup []):=by
 refine z6 Tryz.func216 rfl rfl rfl ?_
 simp only [List.length_append] at hl
 refine x6 ?_;refine x6 (y5 ?_)
 refine q1 ?_;refine q1 ?_;refine q1 ?_;refine qq rfl rfl (zj8 (c:=false) rfl rfl (congrArg some (beq_eq_false_iff_ne.2 (by omega)))) ?_
 refine rn ?_;refine z7 rfl (fun hc28=> ?_) (fun hc28=> ?_)
 ·first|cases hc28|exact absurd hc28 (by decide)|(exfalso;simp_all;done)
 ·refine zab ?_;refine j9 ?_;refine x6 ?_;refine x6 (y5 ?_)
  refine q1 ?_;refine q1 ?_;refine q1 ?_;refine qq rfl rfl (zj8 (c:=false) rfl rfl (congrArg some (beq_eq_false_iff_ne.2 (by omega)))) ?_
  refine rn ?_;refine z7 rfl (fun hc80=> ?_) (fun hc80=> ?_)
  ·first|cases hc80|exact absurd hc80 (by decide)|(exfalso;simp_all;done)
  ·refine zab ?_;refine j9 ?_;refine x6 (y5 ?_)
   refine q1 ?_;refine q1 ?_;refine qq rfl rfl (zbl (k7 rfl rfl rfl (by omega)) (show iv _=iv ((a+b:Nat):Int) from congrArg iv (by omega))) ?_
   refine qq rfl rfl (zcm (m:=((a+b:Nat):Int)) rfl (zkx (by omega))) ?_
   refine qq rfl rfl (ziy (c:=(((a+b) / 2:Nat):Int)) rfl rfl (zky (by omega)) (by decide)) ?_
   refine qq rfl rfl (zcm (m:=(((a+b) / 2:Nat):Int)) rfl (zld (by omega))) ?_
   refine q1 ?_;refine u4 (j9 ?_)
   refine x6 (y5 ?_)
   refine q1 ?_;refine q1 ?_;refine qq rfl rfl (zbl (k7 rfl rfl rfl (by omega)) (show iv _=iv ((((a+b) / 2)+m:Nat):Int) from congrArg iv (by omega))) ?_
   refine rn0 ?_;refine x6 (y5 ?_)
   refine rn0 ?_;refine zt9 (fun z:Nat×Nat=>SmS L R a m b ((a+b) / 2) z.1 z.2) (fun z=>⟨[(20,iv (z.1:Int)),(21,iv (z.2:Int)),(18,iv ((((a+b) / 2):Nat):Int)),(19,iv ((((a+b) / 2)+m:Nat):Int)),(0,.v s.v),(1,iv (a:Int)),(2,iv (m:Int)),(3,iv (b:Int)),(4,cv)],.row s.v 3 178 ((P++(L++(R++Z))).map zb9):: [],[]⟩) ?_ ?_
   ·refine rn ?_;refine z7 rfl (fun hc140=> ?_) (fun hc140=> ?_)
    ·have hS0:SmS L R a m b ((a+b) / 2) (((a+b) / 2)+m - b) ((a+b) / 2):=⟨hm,hb,rfl,.inl ⟨by have q:(m:Int) > ((((a+b) / 2):Nat):Int):=of_decide_eq_true hc140;omega,rfl,rfl⟩⟩
     refine x6 (y5 ?_)
     refine q1 ?_;refine q1 ?_;refine qq rfl rfl (zbl (k7 rfl rfl rfl (by omega)) (show iv _=iv ((((a+b) / 2)+m - b:Nat):Int) from congrArg iv (by have q:(m:Int) > ((((a+b) / 2):Nat):Int):=of_decide_eq_true hc140;omega))) ?_
     refine rn ?_;exact ⟨(_,_),hS0,eA⟩
    ·have hS0:SmS L R a m b ((a+b) / 2) a m:=⟨hm,hb,rfl,.inr ⟨by have q:¬(m:Int) > ((((a+b) / 2):Nat):Int):=of_decide_eq_false hc140;omega,rfl,rfl⟩⟩
     refine rn ?_;exact ⟨(_,_),hS0,eA⟩
   ·rintro ⟨s0,r0⟩ hS
    replace hS:SmS L R a m b ((a+b) / 2) s0 r0:=hS
    show aw _ _ _ _ _ ⟨[(20,iv (s0:Int)),(21,iv (r0:Int)),(18,iv ((((a+b) / 2):Nat):Int)),(19,iv ((((a+b) / 2)+m:Nat):Int)),(0,.v s.v),(1,iv (a:Int)),(2,iv (m:Int)),(3,iv (b:Int)),(4,cv)],.row s.v 3 178 ((P++(L++(R++Z))).map zb9):: [],[]⟩
    refine x6 (y5 ?_)
    refine q1 ?_;refine qq rfl rfl (zbl (k7 rfl rfl rfl (by omega)) (show iv _=iv ((((a+b) / 2)+m - 1:Nat):Int) from congrArg iv (by omega))) ?_
    refine rn ?_;refine zcp (fun z:Nat×Nat=>SmI zcv L R a m b ((a+b) / 2) s0 r0 z.1 z.2) (fun z=>⟨[(20,iv (z.1:Int)),(21,iv (z.2:Int)),(22,iv (((((a+b) / 2)+m - 1):Nat):Int)),(18,iv ((((a+b) / 2):Nat):Int)),(19,iv ((((a+b) / 2)+m:Nat):Int)),(0,.v s.v),(1,iv (a:Int)),(2,iv (m:Int)),(3,iv (b:Int)),(4,cv)],.row s.v 3 178 ((P++(L++(R++Z))).map zb9):: [],[]⟩) (fun z=>z.2 - z.1) (s0,r0) (ysi hS) es ?_
    rintro ⟨st,rr⟩ hI
    replace hI:SmI zcv L R a m b ((a+b) / 2) s0 r0 st rr:=hI
    show aw _ _ _ _ _ ⟨[(20,iv (st:Int)),(21,iv (rr:Int)),(22,iv (((((a+b) / 2)+m - 1):Nat):Int)),(18,iv ((((a+b) / 2):Nat):Int)),(19,iv ((((a+b) / 2)+m:Nat):Int)),(0,.v s.v),(1,iv (a:Int)),(2,iv (m:Int)),(3,iv (b:Int)),(4,cv)],.row s.v 3 178 ((P++(L++(R++Z))).map zb9):: [],[]⟩
    refine rn ?_;refine z7 rfl (fun hc151=> ?_) (fun hc151=> ?_)
    ·have hsr:st < rr:=by have q:(st:Int) < (rr:Int):=of_decide_eq_true hc151;omega
     obtain ⟨b1,b2,b3,b4,b5,b6,b7,b8,b9,b10⟩:=yqj hS hI hsr
     have hu:=getD_some b6 zd4
     have hv:=getD_some b5 zd4
     rw [b7] at hu
     refine zab ?_;refine j9 ?_;refine zan ?_;refine x6 (y5 ?_)
     refine q1 ?_;refine q1 ?_;refine qq rfl rfl (zbl (k7 rfl rfl rfl (by omega)) (show iv _=iv ((st+rr:Nat):Int) from congrArg iv (by omega))) ?_
     refine qq rfl rfl (zcm (m:=((st+rr:Nat):Int)) rfl (zkx (by omega))) ?_
     refine qq rfl rfl (ziy (c:=(((st+rr) / 2:Nat):Int)) rfl rfl (zky (by omega)) (by decide)) ?_
     refine qq rfl rfl (zcm (m:=(((st+rr) / 2:Nat):Int)) rfl (zld (by omega))) ?_
     refine rn ?_;refine j3 11 rfl ?_
     refine dq rfl rfl qrA ?_;refine dq rfl rfl qrA ?_;refine dq rfl rfl qrA ?_;refine dq rfl rfl qrA ?_;refine dq rfl rfl (zbl (k7 rfl rfl rfl (by omega)) (show iv _=iv (((((a+b) / 2)+m - 1 - ((st+rr) / 2)):Nat):Int) from congrArg iv (by omega))) ?_
     refine dq rfl rfl (v8 (k:=(((a+b) / 2)+m - 1 - ((st+rr) / 2))) rfl rfl (by rw [List.length_map];exact (zej (yl3 (L:=L) (R:=R) (Z:=Z) hP hm zd4 b3 (by omega))))) ?_
     refine dq rfl rfl (u6 (row:=zb9 (R.getD ((((a+b) / 2)+m - 1 - ((st+rr) / 2)) - m) zd4)) rfl (zb6 (yl3 (L:=L) (R:=R) (Z:=Z) hP hm zd4 b3 (by omega))) rfl) ?_
     refine dq rfl rfl qrA ?_;refine dq rfl rfl qrA ?_;refine dq rfl rfl (v8 (k:=((st+rr) / 2)) rfl rfl (by rw [List.length_map];exact (zej (yl4 (L:=L) (R:=R) (Z:=Z) hP zd4 b1 (by omega))))) ?_
     refine dq rfl rfl (u6 (row:=zb9 (L.getD (((st+rr) / 2) - a) zd4)) rfl (zb6 (yl4 (L:=L) (R:=R) (Z:=Z) hP zd4 b1 (by omega))) rfl) ?_
     refine rn ?_;refine qv rfl rfl (y4 rfl rfl (y3.pure (R:=fun r=>r=iv (zcv (R.getD ((((a+b) / 2)+m - 1 - ((st+rr) / 2)) - m) zd4) (L.getD (((st+rr) / 2) - a) zd4))) (hc (R.getD ((((a+b) / 2)+m - 1 - ((st+rr) / 2)) - m) zd4) (L.getD (((st+rr) / 2) - a) zd4)))) ?_
     refine rn ?_;refine z7 rfl (fun hc171=> ?_) (fun hc171=> ?_)
     ·have hn:¬zcv (R.getD ((((a+b) / 2)+m - 1 - ((st+rr) / 2)) - m) zd4) (L.getD (((st+rr) / 2) - a) zd4) < 0:=of_decide_eq_false (by simpa using hc171)
      rw [b7] at hn
      refine y5 ?_;refine q1 ?_;refine qq rfl rfl (zbl (k7 rfl rfl rfl (by omega)) (show iv _=iv ((((st+rr) / 2)+1:Nat):Int) from congrArg iv (by omega))) ?_
      refine rn ?_;exact ⟨(((st+rr) / 2)+1,rr),ysg hS hI hsr rfl hu hv hn,eA,by simp only;omega⟩
     ·have hn:zcv (R.getD ((((a+b) / 2)+m - 1 - ((st+rr) / 2)) - m) zd4) (L.getD (((st+rr) / 2) - a) zd4) < 0:=of_decide_eq_true (by simpa using hc171)
      rw [b7] at hn
      refine rn ?_;exact ⟨(st,((st+rr) / 2)),ysh hS hI hsr rfl hu hv hn,eA,by simp only;omega⟩
    ·have hsr:st=rr:=by
      have q:¬(st:Int) < (rr:Int):=of_decide_eq_false hc151
      have:=hI.2.1
      omega
     subst hsr
     obtain ⟨x,y,hs,hmid,hx,hy,hmg⟩:=ymm zmn hL hR hS hI
     subst hs
     rw [hmid]
     refine zhb ?_;refine zgs ?_;refine zgs ?_;refine zdr ?_;refine j9 ?_;refine x6 (y5 ?_)
     refine q1 ?_;refine q1 ?_;refine qq rfl rfl (zbl (k7 rfl rfl rfl (by omega)) (show iv _=iv ((m+y:Nat):Int) from congrArg iv (by omega))) ?_
     refine rn0 ?_;refine zgm (⟨[(20,iv (((a+x):Nat):Int)),(18,iv (((a+x+y):Nat):Int)),(24,iv (((m+y):Nat):Int)),(0,.v s.v),(1,iv (a:Int)),(2,iv (m:Int)),(3,iv (b:Int)),(4,cv)],.row s.v 3 178 ((P++((L.take x)++((R.take y)++((L.drop x)++((R.drop y)++Z))))).map zb9):: [],[]⟩) ?_ ?_
     ·refine zgm (⟨[(185,bv (decide (((((a+x):Nat):Int)) < ((((m):Nat):Int))) && decide (((((m):Nat):Int)) < ((((m+y):Nat):Int))))),(20,iv (((a+x):Nat):Int)),(18,iv (((a+x+y):Nat):Int)),(24,iv (((m+y):Nat):Int)),(0,.v s.v),(1,iv (a:Int)),(2,iv (m:Int)),(3,iv (b:Int)),(4,cv)],.row s.v 3 178 ((P++(L++(R++Z))).map zb9):: [],[]⟩) ?_ ?_
      ·refine rn ?_;refine y8 (fun hg39_3=> ?_) (fun hg39_3=> ?_)
       ·refine rn ?_;first|(rw [hg39_3,Bool.true_and];exact eA)|(rw [hg39_3,Bool.false_and];exact eA)
       ·refine rn ?_;first|(rw [hg39_3,Bool.true_and];exact eA)|(rw [hg39_3,Bool.false_and];exact eA)
      ·refine z7 rfl (fun hc185=> ?_) (fun hc185=> ?_)
       ·have hg:=hc185
        rw [Bool.and_eq_true,decide_eq_true_iff,decide_eq_true_iff] at hg
        refine rn ?_;refine z8 rfl (w8 rfl rfl (y3.of_fun (yi1 s _ _ (a+x) m (m+y) cv (by rw [show m - (a+x)=L.length - x by omega,show m+y - m=y by omega];exact yml hP hm hx hy) (by omega) (by omega) (by simp only [List.length_append];omega) (by simp only [List.length_append];omega))) rfl ?_)
        rintro _ _ ⟨rfl,rfl⟩
        refine rn ?_;exact eA
       ·have hg:=hc185
        rw [Bool.and_eq_false_iff,decide_eq_false_iff_not,decide_eq_false_iff_not] at hg
        have hxy:x=L.length∨y=0:=by omega
        rw [yio (P:=P) (Z:=Z) hxy]
        refine rn ?_;exact eA
     ·refine zgm (⟨[(20,iv (((a+x):Nat):Int)),(18,iv (((a+x+y):Nat):Int)),(24,iv (((m+y):Nat):Int)),(0,.v s.v),(1,iv (a:Int)),(2,iv (m:Int)),(3,iv (b:Int)),(4,cv)],.row s.v 3 178 ((P++(mrg zcv (L.take x) (R.take y)++((L.drop x)++((R.drop y)++Z)))).map zb9):: [],[]⟩) ?_ ?_
      ·refine zgm (⟨[(199,bv (decide (((((a):Nat):Int)) < ((((a+x):Nat):Int))) && decide (((((a+x):Nat):Int)) < ((((a+x+y):Nat):Int))))),(20,iv (((a+x):Nat):Int)),(18,iv (((a+x+y):Nat):Int)),(24,iv (((m+y):Nat):Int)),(0,.v s.v),(1,iv (a:Int)),(2,iv (m:Int)),(3,iv (b:Int)),(4,cv)],.row s.v 3 178 ((P++((L.take x)++((R.take y)++((L.drop x)++((R.drop y)++Z))))).map zb9):: [],[]⟩) ?_ ?_
       ·refine rn ?_;refine y8 (fun hg41_3=> ?_) (fun hg41_3=> ?_)
        ·refine rn ?_;first|(rw [hg41_3,Bool.true_and];exact eA)|(rw [hg41_3,Bool.false_and];exact eA)
        ·refine rn ?_;first|(rw [hg41_3,Bool.true_and];exact eA)|(rw [hg41_3,Bool.false_and];exact eA)
       ·refine z7 rfl (fun hc199=> ?_) (fun hc199=> ?_)
        ·have hg:=hc199
         rw [Bool.and_eq_true,decide_eq_true_iff,decide_eq_true_iff] at hg
         refine rn ?_;refine z8 rfl (w8 rfl rfl (y3.of_fun (ih P (L.take x) (R.take y) ((L.drop x)++((R.drop y)++Z)) a (a+x) (a+x+y) (by simp only [List.length_take];omega) hP (by simp only [List.length_take];omega) (by simp only [List.length_take];omega) (by simp only [List.length_take];omega) (by simp only [List.length_take];omega) (zul hL x) (zul hR y) (by simp only [List.length_append,List.length_take,List.length_drop];omega))) rfl ?_)
         rintro _ _ ⟨rfl,rfl⟩
         refine rn ?_;exact eA
        ·have hg:=hc199
         rw [Bool.and_eq_false_iff,decide_eq_false_iff_not,decide_eq_false_iff_not] at hg
         have hxy:(L.take x)= []∨(R.take y)= []:=by
          by_cases h0:1≤x
          ·exact .inr (zum (by omega))
          ·exact .inl (zum h0)
         rw [zym (cmp:=zcv) (P:=P) hxy]
         refine rn ?_;exact eA
      ·refine zgm (⟨[(213,bv (decide (((((a+x+y):Nat):Int)) < ((((m+y):Nat):Int))) && decide (((((m+y):Nat):Int)) < ((((b):Nat):Int))))),(20,iv (((a+x):Nat):Int)),(18,iv (((a+x+y):Nat):Int)),(24,iv (((m+y):Nat):Int)),(0,.v s.v),(1,iv (a:Int)),(2,iv (m:Int)),(3,iv (b:Int)),(4,cv)],.row s.v 3 178 ((P++(mrg zcv (L.take x) (R.take y)++((L.drop x)++((R.drop y)++Z)))).map zb9):: [],[]⟩) ?_ ?_
       ·refine rn ?_;refine y8 (fun hg43_3=> ?_) (fun hg43_3=> ?_)
        ·refine rn ?_;first|(rw [hg43_3,Bool.true_and];exact eA)|(rw [hg43_3,Bool.false_and];exact eA)
        ·refine rn ?_;first|(rw [hg43_3,Bool.true_and];exact eA)|(rw [hg43_3,Bool.false_and];exact eA)
       ·refine z7 rfl (fun hc213=> ?_) (fun hc213=> ?_)
        ·have hg:=hc213
         rw [Bool.and_eq_true,decide_eq_true_iff,decide_eq_true_iff] at hg
         rw [←List.append_assoc P (mrg zcv (L.take x) (R.take y)) ((L.drop x)++((R.drop y)++Z))]
         refine rn ?_;refine z8 rfl (w8 rfl rfl (y3.of_fun (ih (P++mrg zcv (L.take x) (R.take y)) (L.drop x) (R.drop y) Z (a+x+y) (m+y) b (by simp only [List.length_drop];omega) (by simp only [List.length_append,zfc,List.length_take];omega) (by simp only [List.length_drop];omega) (by simp only [List.length_drop];omega) (by simp only [List.length_drop];omega) (by simp only [List.length_drop];omega) (zv2 hL x) (zv2 hR y) (by simp only [List.length_append,zfc,List.length_take,List.length_drop];omega))) rfl ?_)
         rintro _ _ ⟨rfl,rfl⟩
         refine rn ?_;refine ygo ?_;exact ⟨by simp only [hmg,List.append_assoc],rfl⟩
        ·have hg:=hc213
         rw [Bool.and_eq_false_iff,decide_eq_false_iff_not,decide_eq_false_iff_not] at hg
         have hxy:(L.drop x)= []∨(R.drop y)= []:=by
          by_cases h0:x < L.length
          ·exact .inr (zrr (by omega))
          ·exact .inl (zrr h0)
         rw [←List.append_assoc P (mrg zcv (L.take x) (R.take y)) ((L.drop x)++((R.drop y)++Z)),zym (cmp:=zcv) (P:=P++mrg zcv (L.take x) (R.take y)) hxy]
         refine rn ?_;refine ygo ?_;exact ⟨by simp only [hmg,List.append_assoc],rfl⟩
theorem yqf (s:SV) (cv:AV) (hc:yhw cv):∀(n:Nat) (P L R Z:List zks) (a m b:Nat),L.length+R.length < n→P.length=a→a+L.length=m→m+R.length=b→1≤L.length→1≤R.length→L.Pairwise (LeC zcv)→R.Pairwise (LeC zcv)→(P++(L++(R++Z))).length≤1000000000→
 x4 Tryz.prog 216 [.v s.v,iv (a:Int),iv (m:Int),iv (b:Int),cv] [.row s.v 3 178 ((P++(L++(R++Z))).map zb9)] (fun r h'=>h'= [.row s.v 3 178 ((P++(mrg zcv L R++Z)).map zb9)]∧r= .tup [])
 |0,_,_,_,_,_,_,_,h,_,_,_,_,_,_,_,_=>absurd h (by omega)
 |n+1,P,L,R,Z,a,m,b,h,hP,hm,hb,hL1,hR1,hL,hR,hl=>by
  by_cases e1:L.length=1
  ·obtain ⟨x,rfl⟩:=List.length_eq_one_iff.1 e1
   exact ysf s P R Z x a m b cv hc hP hm hb hR hl
  ·by_cases e2:R.length=1
   ·obtain ⟨y,rfl⟩:=List.length_eq_one_iff.1 e2
    exact yse s P L Z y a m b cv hc hP hm hb e1 hL hl
   ·exact ysd s (L.length+R.length) P L R Z a m b cv hc rfl hP hm hb hL1 hR1 e1 e2 hL hR hl fun P' L' R' Z' a' m' b' q=>yqf s cv hc n P' L' R' Z' a' m' b' (by omega)
set_option maxHeartbeats 4000000 in
theorem yie (s:SV) (l:List zks) (cv:AV) (hc:yhw cv) (hl:l.length≤1000000000):x4 Tryz.prog 197 [.v s.v,iv (l.length:Int),cv] [.row s.v 3 178 ((l).map zb9)] (fun r h'=>∃c,zp6 yct l c∧h'= [.row s.v 3 178 ((c).map zb9)]∧r= .tup []):=by
 refine z6 Tryz.func197 rfl rfl rfl ?_
 refine rn ?_;refine zcp (fun z:Nat×List zks=>St1 yct 20 l z.2 z.1∧z.2.length=l.length) (fun z=>⟨[(6,iv 20),(7,iv (z.1:Int)),(8,iv ((z.1+20:Nat):Int)),(0,.v s.v),(1,iv (l.length:Int)),(2,cv)],.row s.v 3 178 ((z.2).map zb9):: [],[]⟩) (fun z=>l.length - z.1) (0,l) ⟨yqh 20 l,rfl⟩ es ?_
 rintro ⟨q,c⟩ ⟨hs,hcl⟩
 simp only at hs hcl
 show aw _ _ _ _ _ ⟨[(6,iv 20),(7,iv (q:Int)),(8,iv ((q+20:Nat):Int)),(0,.v s.v),(1,iv (l.length:Int)),(2,cv)],.row s.v 3 178 ((c).map zb9):: [],[]⟩
 refine rn ?_;refine z7 rfl (fun hc13=> ?_) (fun hc13=> ?_)
 ·have hb:q+20≤c.length:=by have q0:((q+20:Nat):Int)≤(l.length:Int):=of_decide_eq_true hc13;omega
  obtain ⟨P,M,Z,rfl,hP,hM,hs'⟩:=ydi hs hb
  have hcl2:=hcl
  simp only [List.length_append] at hcl2
  refine rn ?_;refine z8 rfl (w8 rfl rfl (y3.of_fun (yaw s P M Z q (q+20) cv hc hP (by omega) (by omega))) rfl ?_)
  rintro _ _ ⟨rfl,rfl⟩
  refine u4 (j9 ?_)
  refine x6 (y5 ?_)
  refine q1 ?_;refine q1 ?_;refine u4 (j9 ?_)
  refine y5 ?_;refine q1 ?_;refine q1 ?_;refine qq rfl rfl (zbl (k7 rfl rfl rfl (by omega)) (show iv _=iv ((q+20+20:Nat):Int) from congrArg iv (by omega))) ?_
  refine rn ?_;exact ⟨(q+20,P++(isL zcv M++Z)),⟨hs',by simp only [List.length_append,zid];omega⟩,eA,by simp only;omega⟩
 ·have hb:c.length < q+20:=by have q0:¬((q+20:Nat):Int)≤(l.length:Int):=of_decide_eq_false hc13;omega
  obtain ⟨P,M,rfl,hP,hs2⟩:=yii hs hb
  have hcl2:=hcl
  simp only [List.length_append] at hcl2
  rw [show P++M=P++(M++ []) by rw [List.append_nil]]
  refine rn ?_;refine z8 rfl (w8 rfl rfl (y3.of_fun (yaw s P M [] q l.length cv hc hP (by omega) (by simp only [List.length_append,List.length_nil];omega))) rfl ?_)
  rintro _ _ ⟨rfl,rfl⟩
  refine rn ?_;refine zcp (fun z:Nat×List zks=>1≤z.1∧St2 yct z.1 l z.2∧z.2.length=l.length) (fun z=>⟨[(6,iv (z.1:Int)),(0,.v s.v),(1,iv (l.length:Int)),(2,cv)],.row s.v 3 178 ((z.2).map zb9):: [],[]⟩) (fun z=>l.length - z.1) (20,P++isL zcv M) ⟨by show 1≤20;decide,hs2,by simp only [List.length_append,zid];omega⟩ (by rw [List.append_nil];exact es) ?_
  rintro ⟨bs,c⟩ ⟨h0,hs0,hcl⟩
  simp only at h0 hs0 hcl
  clear hs hb hs2 hcl2
  show aw _ _ _ _ _ ⟨[(6,iv (bs:Int)),(0,.v s.v),(1,iv (l.length:Int)),(2,cv)],.row s.v 3 178 ((c).map zb9):: [],[]⟩
  refine rn ?_;refine z7 rfl (fun hc30=> ?_) (fun hc30=> ?_)
  ·have hbs:bs < l.length:=by have q0:(bs:Int) < (l.length:Int):=of_decide_eq_true hc30;omega
   refine zab ?_;refine j9 ?_;refine zan ?_;refine x6 (y5 ?_)
   refine q1 ?_;refine qq rfl rfl (zbl (k7 rfl rfl rfl (by omega)) (show iv _=iv ((2 * bs:Nat):Int) from congrArg iv (by omega))) ?_
   refine rn ?_;refine zcp (fun z:Nat×List zks=>St3 yct bs l z.2 z.1∧z.2.length=l.length) (fun z=>⟨[(7,iv (z.1:Int)),(8,iv ((z.1+2 * bs:Nat):Int)),(6,iv (bs:Int)),(0,.v s.v),(1,iv (l.length:Int)),(2,cv)],.row s.v 3 178 ((z.2).map zb9):: [],[]⟩) (fun z=>l.length - z.1) (0,c) ⟨yqg hs0,hcl⟩ (by simp only [Nat.zero_add];exact es) ?_
   rintro ⟨q,d⟩ ⟨hs,hdl⟩
   simp only at hs hdl
   have hqd:=yif hs
   show aw _ _ _ _ _ ⟨[(7,iv (q:Int)),(8,iv ((q+2 * bs:Nat):Int)),(6,iv (bs:Int)),(0,.v s.v),(1,iv (l.length:Int)),(2,cv)],.row s.v 3 178 ((d).map zb9):: [],[]⟩
   refine rn ?_;refine z7 rfl (fun hc35=> ?_) (fun hc35=> ?_)
   ·have hb:q+2 * bs≤d.length:=by have q0:((q+2 * bs:Nat):Int)≤(l.length:Int):=of_decide_eq_true hc35;omega
    obtain ⟨P,L,R,Z,rfl,hP,hL,hR,sL,sR,hs'⟩:=ydh h0 hs hb
    have hdl2:=hdl
    simp only [List.length_append] at hdl2
    refine zab ?_;refine j9 ?_;refine zan ?_;refine x6 (y5 ?_)
    refine q1 ?_;refine q1 ?_;refine q1 ?_;refine q1 ?_;refine qq rfl rfl (zbl (k7 rfl rfl rfl (by omega)) (show iv _=iv ((q+bs:Nat):Int) from congrArg iv (by omega))) ?_
    refine rn ?_;refine z8 rfl (w8 rfl rfl (y3.of_fun (yqf s cv hc (L.length+R.length+1) P L R Z q (q+bs) (q+2 * bs) (by omega) hP (by omega) (by omega) (by omega) (by omega) sL sR (by omega))) rfl ?_)
    rintro _ _ ⟨rfl,rfl⟩
    refine u4 (j9 ?_)
    refine x6 (y5 ?_)
    refine q1 ?_;refine q1 ?_;refine u4 (j9 ?_)
    refine y5 ?_;refine q1 ?_;refine q1 ?_;refine q1 ?_;refine qq rfl rfl (zbl (k7 rfl rfl rfl (by omega)) (show iv _=iv ((q+2 * bs+2 * bs:Nat):Int) from congrArg iv (by omega))) ?_
    refine rn ?_;exact ⟨(q+2 * bs,P++(mrg zcv L R++Z)),⟨hs',by simp only [List.length_append,zfc];omega⟩,eA,by simp only;omega⟩
   ·have hb:d.length < q+2 * bs:=by have q0:¬((q+2 * bs:Nat):Int)≤(l.length:Int):=of_decide_eq_false hc35;omega
    have hen:=yig hs hb
    refine zhb ?_;refine zgs ?_;refine zgs ?_;refine zdr ?_;refine j9 ?_;refine x6 ?_;refine x6 (y5 ?_)
    refine q1 ?_;refine q1 ?_;refine qq rfl rfl (zbl (k7 rfl rfl rfl (by omega)) (show iv _=iv ((q+bs:Nat):Int) from congrArg iv (by omega))) ?_
    refine rn ?_;refine z7 rfl (fun hc54=> ?_) (fun hc54=> ?_)
    ·have hmn:q+bs < d.length:=by have q0:((q+bs:Nat):Int) < (l.length:Int):=of_decide_eq_true hc54;omega
     obtain ⟨_,P,L,R,rfl,hP,hL,sL,sR,hs2⟩:=hen.resolve_left (fun h=>by omega)
     have hdl2:=hdl
     simp only [List.length_append] at hdl2 hmn
     rw [show P++(L++R)=P++(L++(R++ [])) by rw [List.append_nil]]
     refine rn ?_;refine z8 rfl (w8 rfl rfl (y3.of_fun (yqf s cv hc (L.length+R.length+1) P L R [] q (q+bs) l.length (by omega) hP (by omega) (by omega) (by omega) (by omega) sL sR (by simp only [List.length_append,List.length_nil];omega))) rfl ?_)
     rintro _ _ ⟨rfl,rfl⟩
     refine u4 (j9 ?_)
     refine y5 ?_;refine q1 ?_;refine qq rfl rfl (zbl (k7 rfl rfl rfl (by omega)) (show iv _=iv ((2 * bs:Nat):Int) from congrArg iv (by omega))) ?_
     refine rn ?_;exact ⟨(2 * bs,P++mrg zcv L R),⟨by simp only;omega,hs2,by simp only [List.length_append,zfc];omega⟩,by rw [List.append_nil];exact eA,by simp only;omega⟩
    ·have hmn:d.length≤q+bs:=by have q0:¬((q+bs:Nat):Int) < (l.length:Int):=of_decide_eq_false hc54;omega
     obtain ⟨_,hs2⟩:=hen.resolve_right (fun h=>by have:=h.1;omega)
     refine zab ?_;refine j9 ?_;refine y5 ?_;refine q1 ?_;refine qq rfl rfl (zbl (k7 rfl rfl rfl (by omega)) (show iv _=iv ((2 * bs:Nat):Int) from congrArg iv (by omega))) ?_
     refine rn ?_;exact ⟨(2 * bs,d),⟨by simp only;omega,hs2,hdl⟩,eA,by simp only;omega⟩
  ·have hbs:c.length≤bs:=by have q0:¬(bs:Int) < (l.length:Int):=of_decide_eq_false hc30;omega
   refine rn ?_;refine ygo ?_;exact ⟨c,yih h0 hs0 hbs,rfl,rfl⟩
theorem zsm (s:SV) (l:List zks) (cv:AV) (hc:yhw cv) (hl:l.length≤1000000000):x4 Tryz.prog 157 [.v s.v,cv] [.row s.v 3 178 ((l).map zb9)] (fun r h'=>∃c,zp6 yct l c∧h'= [.row s.v 3 178 ((c).map zb9)]∧r= .tup []):=by
 refine z6 Tryz.func157 rfl rfl rfl ?_
 refine y5 ?_;refine q1 ?_;refine q1 ?_;refine qq rfl rfl (zbl (znn rfl) (show iv _=iv (l.length:Int) from by rw [List.length_map])) ?_
 refine rn ?_;refine z8 rfl (w8 rfl rfl (y3.of_fun (yie s l cv hc hl)) rfl ?_)
 rintro _ _ ⟨c,hst,rfl,rfl⟩
 refine rn ?_;refine ygo ?_;exact ⟨c,hst,rfl,rfl⟩
theorem yq3 (x y:zks):x4 Tryz.prog 156 [.agg (zb9 x),.agg (zb9 y)] [] (fun r h'=>h'= []∧r=iv (zcv x y)):=by
 refine z6 Tryz.func156 rfl rfl rfl ?_
 have hx:=x.2
 have hy:=y.2
 refine rn ?_;refine z8 rfl (x9 rfl rfl rfl fun b2=> ?_)
 refine z8 rfl (x9 rfl rfl rfl fun b3=> ?_)
 refine q1 ?_;refine u4 (j9 ?_)
 refine x6 (y5 ?_)
 refine q1 ?_;refine q1 ?_;refine q1 ?_;refine q1 ?_;refine qq rfl rfl (k7 rfl rfl rfl (by omega)) ?_
 refine rn ?_;refine rq 2 ?_
 exact ⟨rfl,rfl⟩
theorem ynv:yhw (.fn (.func 156) [] []):=fun x y=>y3.of_fun (yq3 x y)
theorem ymi (s:SV) (n:Nat) (l:List Acc) (hk:∀a∈l,0≤a.o∧a.o < n) (hn:n≤1000000) (hl:l.length≤1000000000):x4 Tryz.prog 157 [.v s.v,.fn (.func 156) [] []] [.row s.v 3 178 (l.map accR)] (fun r h'=>h'= [.row s.v 3 178 ((zp1 n l).map accR)]∧r= .tup []):=by
 obtain ⟨lB,e⟩:=ycj hn hk
 have hlen:lB.length=l.length:=by rw [←e,List.length_map]
 have h1:=zsm s lB _ ynv (by omega)
 have e1:lB.map zb9=l.map accR:=by rw [←e,List.map_map];rfl
 rw [e1] at h1
 refine h1.mono ?_;rintro _ _ ⟨c,hst,rfl,rfl⟩
 exact ⟨by rw [←ydg e hst hk,List.map_map];rfl,rfl⟩
theorem ykp (h:Hist) (la:Lim 4611686018427387904 h):x4 Tryz.prog 23 [.agg (x5 h)] [.glob 3 148 x7,.glob 5 276 x8,.glob 6 279 x3,.glob 2 197 j4] (fun r h'=>h'= [.glob 3 148 x7,.glob 5 276 x8,.glob 6 279 x3,.glob 2 197 j4]∧r=iv (j8 h)):=by
 refine z6 Tryz.func23 rfl rfl rfl ?_
 refine rn ?_;refine z8 rfl (x9 rfl rfl rfl fun b1=> ?_)
 refine rn ?_;refine qv rfl rfl (y4 rfl rfl (y3.qt (y3.of_fun (ypa h la)) ((pt1 _ _ _).trans (.cons _ ((pt1 _ _ _).trans (.cons _ (pt1 _ _ _))))))) ?_
 refine rn ?_;refine z7 rfl (fun hc7=> ?_) (fun hc7=> ?_)
 ·have hm:¬ze4 h=true:=by intro q;rw [zdu,if_pos q] at hc7;cases hc7
  have he:zdu h=210:=by rw [zdu,if_neg hm]
  refine rn ?_;refine rq 1 ?_
  exact ⟨rfl,by rw [j8,if_neg hm,he];rfl⟩
 ·have hm:ze4 h=true:=ybt.1 (by simpa using hc7)
  refine rn ?_;refine qv rfl rfl (y4 rfl rfl (y3.qt (y3.of_fun (ym6 h la)) ((pt1 _ _ _).trans (.cons _ ((pt1 _ _ _).trans (.cons _ ((pt1 _ _ _).trans (.cons _ (pt1 _ _ _))))))))) ?_
  refine rn ?_;refine z7 rfl (fun hc11=> ?_) (fun hc11=> ?_)
  ·refine rn ?_;refine rq 1 ?_
   exact ⟨rfl,by rw [j8,if_pos hm];simp_all;rfl⟩
  ·refine rn ?_;refine rq 1 ?_
   exact ⟨rfl,by rw [j8,if_pos hm];simp_all;rfl⟩
theorem zvr (h:Hist) (kd:Int) (W:List Res):x4 Tryz.prog 120 [.agg (x5 h),iv kd] W (fun r h'=>∃b1 b2,h'= .box b1 28 (x5 h):: .box b2 3 [iv kd]::W∧r= .fn (.func 158) [] [pZ b1,pZ b2]):=by
 refine z6 Tryz.func120 rfl rfl rfl ?_
 refine rn ?_;refine z8 rfl (x9 rfl rfl rfl fun b2=> ?_)
 refine z8 rfl (x9 rfl rfl rfl fun b3=> ?_)
 refine rn ?_;exact u7 rfl (.perm (pt1 _ _ _) _) ⟨_,_,rfl,rfl⟩
set_option maxHeartbeats 4000000 in
theorem zra {σ:Type} (h:Hist) (la:h.evs.length≤1000000) (kd:Int) (y:AV) (b1 b2:Nat) (p q:Nat→σ→Prop) (I F:Nat→σ→List Res) (x0:σ) (hp0:p 0 x0) (hy:∀k x,(hk:k < h.evs.length)→p k x→(h.evs[k].kind==kd)=true→y3 Tryz.prog y [iv k,.agg (evR h.evs[k])] (.box b1 28 (x5 h):: .box b2 3 [iv kd]::I k x) (fun r h'=>∃x',(r=bv true∧p (k+1) x'∧h'= .box b1 28 (x5 h):: .box b2 3 [iv kd]::I (k+1) x')∨(r=bv false∧q k x'∧h'= .box b1 28 (x5 h):: .box b2 3 [iv kd]::F k x'))) (hs:∀k x,(hk:k < h.evs.length)→p k x→(h.evs[k].kind==kd)=false→∃x',p (k+1) x'∧I (k+1) x'=I k x):x4 Tryz.prog 158 [y,pZ b1,pZ b2] (.box b1 28 (x5 h):: .box b2 3 [iv kd]::I 0 x0) (fun r h'=>(∃x,p h.evs.length x∧h'=I h.evs.length x)∨∃k x,q k x∧h'=F k x):=by
 refine z6 Tryz.func158 rfl rfl rfl ?_
 refine rn ?_;refine zig h.evs.length p (fun k x=>⟨[(9,iv k),(0,y),(2,pZ b2),(7,zmw h.evs),(8,iv (h.evs.map evR).length)],.box b1 28 (x5 h):: .box b2 3 [iv kd]::I k x,[]⟩) x0 hp0 es ?_
 intro k x lk zk
 refine rn ?_;refine z7 rfl (fun hc10=> ?_) (fun hc10=> ?_)
 ·have hk:=zao hc10
  have rk:=zad (f:=evR) hk
  refine rn ?_;refine z8 rfl (y7 rfl fun b5=> ?_)
  refine rn ?_;refine y8 (fun hg3_4=> ?_) (fun hg3_4=> ?_)
  ·refine q1 ?_;refine q1 ?_;refine q1 ?_;refine z8 rfl (w8 rfl rfl (y3.fr1 (hy k x hk zk (by simpa using hg3_4))) rfl ?_)
   rintro _ _ ⟨_,rfl,x',⟨rfl,hp,rfl⟩|⟨rfl,hq,rfl⟩⟩
   ·refine rn ?_;refine z7 rfl (fun hc24=> ?_) (fun hc24=> ?_)
    ·first|cases hc24|exact absurd hc24 (by decide)|(exfalso;simp_all;done)
    ·refine rn ?_;exact ⟨hk,x',hp,eA⟩
   ·refine rn ?_;refine z7 rfl (fun hc24=> ?_) (fun hc24=> ?_)
    ·refine rn ?_;exact zgj .nil (.drop [_,_,_] _ _) (.inr ⟨k,x',hq,rfl⟩)
    ·first|cases hc24|exact absurd hc24 (by decide)|(exfalso;simp_all;done)
  ·refine rn ?_;refine zew rfl ?_;refine rn ?_;obtain ⟨x',hp,e⟩:=hs k x hk zk (by simpa using hg3_4)
   exact ⟨hk,x',hp,by rw [e];exact eA⟩
 ·have qk:=zap hc10 lk
  subst qk
  refine rn ?_;exact ze2 .nil (.drop [_,_] _ _) (.inl ⟨x,zk,rfl⟩)
def zp4 {α:Type} (kd:Int) (x:Nat→Ev→α) (p:Nat→Ev→Bool) (k:Nat) (e:Ev):Option α:=if (e.kind==kd && p k e)=true then some (x k e) else none
theorem yos {α:Type} {kd:Int} {x:Nat→Ev→α} {p:Nat→Ev→Bool} {k:Nat} {e:Ev} (h:(e.kind==kd)=false):zp4 kd x p k e=none:=by rw [zp4,h];simp
theorem yor {α:Type} {kd:Int} {x:Nat→Ev→α} {p:Nat→Ev→Bool} {k:Nat} {e:Ev} (h:p k e=false):zp4 kd x p k e=none:=by rw [zp4,h];simp
theorem yoq {α:Type} {kd:Int} {x:Nat→Ev→α} {p:Nat→Ev→Bool} {k:Nat} {e:Ev} (h1:(e.kind==kd)=true) (h:p k e=true):zp4 kd x p k e=some (x k e):=by rw [zp4,h1,h];simp
theorem yg5 {α:Type} {f:Nat→Ev→Option α} {l:List Ev} {k:Nat} (h:k < l.length) (hf:f k l[k]=none):zlf f l (k+1)=zlf f l k:=by rw [ya0 h,hf];simp
theorem yop {α:Type} {f:Nat→Ev→Option α} {l:List Ev} {k:Nat} {a:α} (h:k < l.length) (hf:f k l[k]=some a):zlf f l (k+1)=zlf f l k++ [a]:=by rw [ya0 h,hf];rfl
set_option maxHeartbeats 4000000 in
theorem yg0 (h:Hist) (la:h.evs.length≤1000000) (kd:Int) (fv:AV) (hone:fv.cellsOf=some [fv]) (W:List Res) (x:Nat→Ev→Int) (p:Nat→Ev→Bool) (hp:∀k,(hk:k < h.evs.length)→(h.evs[k].kind==kd)=true→y3 Tryz.prog fv [iv k,.agg (evR h.evs[k])] W (fun r h'=>h'=W∧r= .tup [iv (x k h.evs[k]),bv (p k h.evs[k])])):x4 Tryz.prog 73 [.agg (x5 h),iv kd,fv] W (fun r h'=>∃s:SV,h'= .row s.v 1 3 ((zlf (zp4 kd x p) h.evs h.evs.length).map zal)::W∧r= .v s.v):=by
 refine z6 Tryz.func73 rfl rfl rfl ?_
 refine rn ?_;refine z8 rfl (x9 rfl rfl rfl fun b3=> ?_)
 refine z8 rfl (x9 rfl hone rfl fun b5=> ?_)
 refine rn ?_;refine z8 rfl (y7 rfl fun b7=> ?_)
 refine rn ?_;refine z8 rfl (w8 rfl rfl (y3.of_fun (zvr h kd _)) rfl ?_)
 rintro _ _ ⟨b1,b2,rfl,rfl⟩
 refine rn ?_;refine zgl (s':=⟨[(14,.fn (.func 158) [] [pZ b1,pZ b2]),(5,pZ b5),(7,pZ b7)],.box b1 28 (x5 h):: .box b2 3 [iv kd]:: .box b7 54 [.v (⟨none,0,0⟩:SV).v]:: .row (⟨none,0,0⟩:SV).v 1 3 ((zlf (zp4 kd x p) h.evs 0).map zal):: .box b5 129 [fv]:: .box b3 28 (x5 h)::W,[]⟩) (v6 (v6 (zaj 1 3) (za0 ((pt1 _ _ _).trans (.cons _ ((pt1 _ _ _).trans (.cons _ (pt1 _ _ _))))))) es) ?_
 refine zpr (fun pend h''=>pend=none∧∃s:SV,h''= .box b7 54 [.v s.v]:: .row s.v 1 3 ((zlf (zp4 kd x p) h.evs h.evs.length).map zal):: .box b5 129 [fv]:: .box b3 28 (x5 h)::W) rfl (fun fn l q lp hlp=> ?_) (fun q h'' hK=> ?_) (fun q h'' c hK=> ?_)
 ·suffices hy:∀k (s:SV),(hk:k < h.evs.length)→True→(h.evs[k].kind==kd)=true→y3 Tryz.prog (yv l) [iv k,.agg (evR h.evs[k])] (.box b1 28 (x5 h):: .box b2 3 [iv kd]::lp .ready none:: .defs q:: .box b7 54 [.v s.v]:: .row s.v 1 3 ((zlf (zp4 kd x p) h.evs k).map zal):: .box b5 129 [fv]:: .box b3 28 (x5 h)::W) (fun r h'=>∃s':SV,(r=bv true∧True∧h'= .box b1 28 (x5 h):: .box b2 3 [iv kd]::lp .ready none:: .defs q:: .box b7 54 [.v s'.v]:: .row s'.v 1 3 ((zlf (zp4 kd x p) h.evs (k+1)).map zal):: .box b5 129 [fv]:: .box b3 28 (x5 h)::W)∨(r=bv false∧False∧h'= .box b1 28 (x5 h):: .box b2 3 [iv kd]:: [])) by
   refine x4.mono (x4.perm ((pt2 _ _ _ _).trans (.cons _ (pt2 _ _ _ _))) (zra h la kd (yv l) b1 b2 (fun _ _=>True) (fun _ _=>False) (fun k (s:SV)=>lp .ready none:: .defs q:: .box b7 54 [.v s.v]:: .row s.v 1 3 ((zlf (zp4 kd x p) h.evs k).map zal):: .box b5 129 [fv]:: .box b3 28 (x5 h)::W) (fun _ _=> []) ⟨none,0,0⟩ trivial hy (fun k s hk _ hn=>⟨s,trivial,by rw [yg5 hk (yos hn)]⟩))) ?_
   rintro _ _ (⟨s,_,rfl⟩|⟨_,_,hF,_⟩)
   ·exact ⟨none,.ready,_,.refl _,by simp,rfl,s,rfl⟩
   ·exact hF.elim
  intro k s hk _ hkd
  refine y3.perm (pt2 _ _ _ _) (y3.ventE ?_)
  refine zet hlp rfl rfl ?_
  refine rn ?_;refine z8 rfl (y7 rfl fun b9=> ?_)
  refine rn ?_;refine ⟨[(8,iv k),(9,pZ b9),(5,pZ b5),(7,pZ b7)],.box b9 66 (evR h.evs[k]):: .box b1 28 (x5 h):: .box b2 3 [iv kd]:: .defs q:: .box b7 54 [.v s.v]:: .row s.v 1 3 ((zlf (zp4 kd x p) h.evs k).map zal):: .box b5 129 [fv]:: .box b3 28 (x5 h)::W,v6 (za0 (pt1 _ _ _)) es,?_⟩
  refine rn ?_;refine qv rfl rfl (y4 rfl rfl (y3.qt (h2:= [_,_,_,_,_,_,_,_,_]) (hp k hk hkd) (zep [_,_,_,_,_,_,_,_,_] _))) ?_
  refine rn ?_;refine z7 rfl (fun hc24=> ?_) (fun hc24=> ?_)
  ·refine y5 ?_;refine q1 ?_;refine q1 ?_;refine q1 ?_;refine q1 ?_;refine q1 ?_;refine qq rfl rfl (zxb rfl (by rfl) (by rfl)) ?_
   refine rn ?_;refine qv rfl rfl (q8 rfl rfl) ?_
   refine yf7 s.v ?_
   refine z8 rfl (j5 rfl rfl (by simp only [List.length_map,List.length_cons,List.length_nil];have:=zpg (zp4 kd x p) h.evs k;omega) rfl (fun s33=> ?_) (zjq [x k h.evs[k]]))
   refine zaf s33 fun sv hsv=> ?_
   subst hsv
   refine rn ?_;exact zh6 (.refl _) ⟨_,_,.trans (.perm ((pt1 _ _ _).trans (.cons _ ((pt1 _ _ _).trans (.cons _ (pt1 _ _ _))))) _) (.drop [_] _ _),sv,.inl ⟨rfl,trivial,by rw [yop hk (yoq hkd hc24),List.map_append];rfl⟩⟩
  ·refine rn ?_;exact zh6 (.refl _) ⟨_,_,.trans (.perm ((pt1 _ _ _).trans (.cons _ ((pt1 _ _ _).trans (.cons _ (pt1 _ _ _))))) _) (.drop [_] _ _),s,.inl ⟨rfl,trivial,by rw [yg5 hk (yor hc24)]⟩⟩
 ·obtain ⟨_,s,rfl⟩:=hK
  refine rn ?_;exact ziw (.refl _) (.cons _ _ _ _ (.tmp _ _ rfl) .nil) (.trans (.drop1 _ _ _) (.trans (.perm (pt1 _ _ _) _) (.trans (.drop [_] _ _) (.trans (.perm (pt1 _ _ _) _) (.drop [_] _ _))))) ⟨s,rfl,rfl⟩
 ·obtain ⟨hc,_⟩:=hK
  exact absurd hc (by simp)
theorem ykk (k s:Int) (e:Ev) (b2 b3 rm:Nat) (M:List (Int×Bool)):x4 Tryz.prog 74 [iv k,.agg (evR e),pZ b2,pZ b3] [.box b2 3 [iv s],.box b3 126 [mpv rm],.map rm (zac zce (zbz bv M))] (fun r h'=>h'= [.box b2 3 [iv s],.box b3 126 [mpv rm],.map rm (zac zce (zbz bv M))]∧r= .tup [iv e.t,bv (e.s==s && (zbu e.t M).getD false)]):=by
 refine z6 Tryz.func74 rfl rfl rfl ?_
 refine rn ?_;refine z8 rfl (x9 rfl rfl rfl fun b5=> ?_)
 refine rn ?_;refine j3 13 rfl ?_
 refine rn ?_;refine zd7 (fun hg1_6=> ?_) (fun hg1_6=> ?_)
 ·refine dq rfl rfl qrA ?_;refine dq rfl rfl qrA ?_;refine dq rfl rfl qrA ?_;refine dq rfl rfl (zck (enc:=zce) (k:=e.t) false rfl rfl) ?_
  refine rn ?_;refine rq 1 ?_
  exact ⟨rfl,by rw [hg1_6];rfl⟩
 ·refine rn ?_;refine rq 1 ?_
  exact ⟨rfl,by rw [hg1_6];rfl⟩
theorem ykl (k s:Int) (e:Ev) (b2 b3 rm:Nat) (M:List (Int×Bool)):x4 Tryz.prog 161 [iv k,.agg (evR e),pZ b2,pZ b3] [.box b2 3 [iv s],.box b3 126 [mpv rm],.map rm (zac zce (zbz bv M))] (fun r h'=>h'= [.box b2 3 [iv s],.box b3 126 [mpv rm],.map rm (zac zce (zbz bv M))]∧r= .tup [iv e.t,bv (e.o==s && (zbu e.t M).getD false)]):=by
 refine z6 Tryz.func161 rfl rfl rfl ?_
 refine rn ?_;refine z8 rfl (x9 rfl rfl rfl fun b5=> ?_)
 refine rn ?_;refine j3 13 rfl ?_
 refine rn ?_;refine zd7 (fun hg1_6=> ?_) (fun hg1_6=> ?_)
 ·refine dq rfl rfl qrA ?_;refine dq rfl rfl qrA ?_;refine dq rfl rfl qrA ?_;refine dq rfl rfl (zck (enc:=zce) (k:=e.t) false rfl rfl) ?_
  refine rn ?_;refine rq 1 ?_
  exact ⟨rfl,by rw [hg1_6];rfl⟩
 ·refine rn ?_;refine rq 1 ?_
  exact ⟨rfl,by rw [hg1_6];rfl⟩
theorem yq9 (x:Int) (s:Ord) (b1:Nat):x4 Tryz.prog 160 [.agg (zdg s),pZ b1] [.box b1 3 [iv x]] (fun r h'=>h'= [.box b1 3 [iv x]]∧r=bv (s.o==x)):=by
 refine z6 Tryz.func160 rfl rfl rfl ?_
 refine rn ?_;refine z8 rfl (x9 rfl rfl rfl fun b2=> ?_)
 refine rn ?_;refine rq 1 ?_
 exact ⟨rfl,rfl⟩
set_option maxHeartbeats 4000000 in
theorem yat (h:Hist) (la:h.evs.length≤1000000) (W:List Res):x4 Tryz.prog 72 [.agg (x5 h)] W (fun r h'=>∃rm,h'= .map rm (zac zce (zbz bv (zlh h.evs)))::W∧r=mpv rm):=by
 refine z6 Tryz.func72 rfl rfl rfl ?_
 refine rn ?_;refine z8 rfl (x9 rfl rfl rfl fun b1=> ?_)
 refine rn ?_;refine z8 rfl (zbg (enc:=zce) rfl fun b6=> ?_)
 refine z8 rfl (y7 rfl fun b3=> ?_)
 refine rn ?_;refine z8 rfl (w8 rfl rfl (y3.of_fun (zvr h 5 _)) rfl ?_)
 rintro _ _ ⟨e1,e2,rfl,rfl⟩
 refine rn ?_;refine zgl (s':=⟨[(8,.fn (.func 158) [] [pZ e1,pZ e2]),(3,pZ b3)],.box e1 28 (x5 h):: .box e2 3 [iv 5]:: .box b3 126 [mpv b6]:: .map b6 (zac zce (zbz bv (zlh (h.evs.take 0)))):: .box b1 28 (x5 h)::W,[]⟩) es ?_
 refine zpr (fun pend h''=>pend=none∧h''= .box b3 126 [mpv b6]:: .map b6 (zac zce (zbz bv (zlh (h.evs.take h.evs.length)))):: .box b1 28 (x5 h)::W) rfl (fun fn l q lp hlp=> ?_) (fun q h'' hK=> ?_) (fun q h'' c hK=> ?_)
 ·suffices hy:∀k (x:Unit),(hk:k < h.evs.length)→True→(h.evs[k].kind==5)=true→y3 Tryz.prog (yv l) [iv k,.agg (evR h.evs[k])] (.box e1 28 (x5 h):: .box e2 3 [iv 5]::lp .ready none:: .defs q:: .box b3 126 [mpv b6]:: .map b6 (zac zce (zbz bv (zlh (h.evs.take k)))):: .box b1 28 (x5 h)::W) (fun r h'=>∃x':Unit,(r=bv true∧True∧h'= .box e1 28 (x5 h):: .box e2 3 [iv 5]::lp .ready none:: .defs q:: .box b3 126 [mpv b6]:: .map b6 (zac zce (zbz bv (zlh (h.evs.take (k+1))))):: .box b1 28 (x5 h)::W)∨(r=bv false∧False∧h'= .box e1 28 (x5 h):: .box e2 3 [iv 5]:: [])) by
   refine x4.mono (x4.perm ((pt2 _ _ _ _).trans (.cons _ (pt2 _ _ _ _))) (zra h la 5 (yv l) e1 e2 (fun _ _=>True) (fun _ _=>False) (fun k (_:Unit)=>lp .ready none:: .defs q:: .box b3 126 [mpv b6]:: .map b6 (zac zce (zbz bv (zlh (h.evs.take k)))):: .box b1 28 (x5 h)::W) (fun _ _=> []) () trivial hy (fun k s hk _ hn=>⟨s,trivial,by rw [yo6 hk hn]⟩))) ?_
   rintro _ _ (⟨s,_,rfl⟩|⟨_,_,hF,_⟩)
   ·exact ⟨none,.ready,_,.refl _,by simp,rfl,rfl⟩
   ·exact hF.elim
  intro k s hk _ hkd
  refine y3.perm (pt2 _ _ _ _) (y3.ventE ?_)
  refine zet hlp rfl rfl ?_
  refine rn ?_;refine z8 rfl (y7 rfl fun b5=> ?_)
  refine rn ?_;refine ⟨[(5,pZ b5),(3,pZ b3)],.box b5 66 (evR h.evs[k]):: .box e1 28 (x5 h):: .box e2 3 [iv 5]:: .defs q:: .box b3 126 [mpv b6]:: .map b6 (zac zce (zbz bv (zlh (h.evs.take k)))):: .box b1 28 (x5 h)::W,v6 (za0 (pt1 _ _ _)) es,?_⟩
  refine rn ?_;refine z8 rfl (zbq (g:=bv) (enc:=zce) (k:=h.evs[k].t) (v:=true) rfl rfl rfl ?_)
  refine rn ?_;exact zh6 (.refl _) ⟨_,_,.trans (.perm ((pt1 _ _ _).trans (.cons _ ((pt1 _ _ _).trans (.cons _ (pt1 _ _ _))))) _) (.drop [_] _ _),(),.inl ⟨rfl,trivial,by rw [yo5 hk hkd]⟩⟩
 ·obtain ⟨_,rfl⟩:=hK
  refine rn ?_;exact ziw (.refl _) (.cons _ _ _ _ (.tmp _ _ rfl) .nil) (.trans (.drop1 _ _ _) (.trans (.perm (pt1 _ _ _) _) (.drop [_] _ _))) ⟨b6,by rw [List.take_length],rfl⟩
 ·obtain ⟨hc,_⟩:=hK
  exact absurd hc (by simp)
theorem yb8 {h:Hist} {n many:Int} (he:zko h n many≠0) (X:List Int):(onE (zko h n many) X).map zal= []:=by rw [onE,if_neg he];rfl
theorem yaz {α:Type} (kd:Int) (g:Ev→α) (q:Ev→Bool) (l:List Ev):zlf (zp4 kd (fun _ e=>g e) (fun _ e=>q e)) l l.length=(l.filter fun e=>e.kind==kd && q e).map g:=yff (fun _ _=>rfl) l
theorem yg1 (h:Hist) (la:Lim 4611686018427387904 h) (n many:Int) (fv:AV) (hone:fv.cellsOf=some [fv]) (X:List Int) (W:List Res) (hp:zko h n many=0→y3 Tryz.prog fv [] (.glob 3 148 x7:: .glob 5 276 x8:: .glob 6 279 x3:: .glob 2 197 j4::W) (fun r h'=>∃s:SV,h'= .row s.v 1 3 (X.map zal):: .glob 3 148 x7:: .glob 5 276 x8:: .glob 6 279 x3:: .glob 2 197 j4::W∧r= .v s.v)):x4 Tryz.prog 70 [.agg (x5 h),iv n,iv many,fv] (.glob 3 148 x7:: .glob 5 276 x8:: .glob 6 279 x3:: .glob 2 197 j4::W) (fun r h'=>∃s:SV,h'= .row s.v 1 3 ((onE (zko h n many) X).map zal):: .glob 3 148 x7:: .glob 5 276 x8:: .glob 6 279 x3:: .glob 2 197 j4::W∧r= .tup [.v s.v,iv (zko h n many)]):=by
 refine z6 Tryz.func70 rfl rfl rfl ?_
 refine rn ?_;refine z8 rfl (x9 rfl rfl rfl fun b4=> ?_)
 refine rn ?_;refine qv rfl rfl (y4 rfl rfl (y3.qt (y3.of_fun (ykp h la)) ((pt1 _ _ _).trans (.cons _ ((pt1 _ _ _).trans (.cons _ ((pt1 _ _ _).trans (.cons _ (pt1 _ _ _))))))))) ?_
 refine rn ?_;refine z7 rfl (fun hc15=> ?_) (fun hc15=> ?_)
 ·have hc:j8 h≠0:=by simpa using hc15
  refine rn ?_;exact zb4 rfl rfl (.trans (.drop [_] _ _) (zbj 1 3 _)) ⟨⟨none,0,0⟩,by rw [yb8 (by rw [ylu hc];exact hc)];rfl,by rw [ylu hc];rfl⟩
 ·have hc:j8 h=0:=by simpa using hc15
  refine rn ?_;refine y8 (fun hg5_2=> ?_) (fun hg5_2=> ?_)
  ·refine rn ?_;refine zdb rfl ?_;have hn:¬(0≤n∧n < many):=by first|(have q:=of_decide_eq_true hg5_2;omega)|(have q:=of_decide_eq_true hc24;omega)
   refine rn ?_;exact zb4 rfl rfl (.trans (.drop [_] _ _) (zbj 1 3 _)) ⟨⟨none,0,0⟩,by rw [yb8 (by rw [zxx hc hn];decide)];rfl,by rw [zxx hc hn];rfl⟩
  ·refine rn ?_;refine z7 rfl (fun hc24=> ?_) (fun hc24=> ?_)
   ·have hn:¬(0≤n∧n < many):=by first|(have q:=of_decide_eq_true hg5_2;omega)|(have q:=of_decide_eq_true hc24;omega)
    refine rn ?_;exact zb4 rfl rfl (.trans (.drop [_] _ _) (zbj 1 3 _)) ⟨⟨none,0,0⟩,by rw [yb8 (by rw [zxx hc hn];decide)];rfl,by rw [zxx hc hn];rfl⟩
   ·have hn:0≤n∧n < many:=by have q:=of_decide_eq_false hg5_2;have q':=of_decide_eq_false hc24;omega
    refine rn ?_;refine z8 rfl (w8 rfl rfl (y3.fr1 (hp (zxw hc hn))) rfl ?_)
    rintro _ _ ⟨_,rfl,s,rfl,rfl⟩
    refine rn ?_;exact zb4 rfl rfl (.drop [_] _ _) ⟨s,by rw [zxw hc hn];rfl,by rw [zxw hc hn];rfl⟩
theorem yb9 {h:Hist} {n many:Int} (he:zko h n many=0):Lim 3000 h:=zo3 (zfi (yca he).1).1
theorem ylt {h:Hist} {n many:Int} (he:zko h n many=0):h.evs.length≤1000000:=Nat.le_trans (yb9 he).evs (by decide)
theorem zg9 {h:Hist} (he:j8 h=0):Lim 3000 h:=zo3 (zfi (zdt.1 he)).1
theorem ye2 (l:List Ev) (s:Int):zlf (zp4 1 (fun _ e=>e.t) (fun _ e=>e.s==s && (zbu e.t (zlh l)).getD false)) l l.length=zaw l s:=by
 rw [yaz 1 Ev.t (fun e=>e.s==s && (zbu e.t (zlh l)).getD false),zaw];simp only [zv1]
theorem ykt (l:List Ev) (x:Int):zlf (zp4 2 (fun _ e=>e.t) (fun _ e=>e.o==x && (zbu e.t (zlh l)).getD false)) l l.length=yl7 l x:=by
 rw [yaz 2 Ev.t (fun e=>e.o==x && (zbu e.t (zlh l)).getD false),yl7];simp only [zv1]
theorem ynp {h:Hist} {x:Int} (hc:decide (zb1 (fun o:Ord=>o.o==x) 0 h.ords ≥ 0)=true):∃k,∃hk:k < h.ords.length,zb1 (fun o:Ord=>o.o==x) 0 h.ords=(k:Int)∧zfv h x=h.ords[k].ts:=by
 have:=zi7 (fun o:Ord=>o.o==x) h.ords 0
 cases hf:h.ords.find? (fun o=>o.o==x) with
 |none=>rw [hf] at this;simp only at this;rw [this] at hc;exact absurd hc (by decide)
 |some o=>
  rw [hf] at this
  obtain ⟨k,hk,e,eo,_⟩:=this
  exact ⟨k,hk,by rw [e,Nat.zero_add],by rw [zfv,hf,eo]⟩
theorem yno {h:Hist} {x:Int} (hc:decide (zb1 (fun o:Ord=>o.o==x) 0 h.ords ≥ 0)=false):zfv h x=zbk (yl7 h.evs x):=by
 have:=zi7 (fun o:Ord=>o.o==x) h.ords 0
 cases hf:h.ords.find? (fun o=>o.o==x) with
 |none=>rw [zfv,hf]
 |some o=>
  rw [hf] at this
  obtain ⟨k,hk,e,eo,_⟩:=this
  rw [e] at hc
  have:=of_decide_eq_false hc
  omega
set_option maxHeartbeats 4000000 in
theorem ykm (h:Hist) (la:h.evs.length≤1000000) (s:Int) (b2 b4:Nat):x4 Tryz.prog 71 [pZ b2,pZ b4] (.glob 3 148 x7:: .glob 5 276 x8:: .glob 6 279 x3:: .glob 2 197 j4:: .box b2 28 (x5 h):: .box b4 3 [iv s]:: []) (fun r h'=>∃s':SV,h'= .row s'.v 1 3 ((zaw h.evs s).map zal):: .glob 3 148 x7:: .glob 5 276 x8:: .glob 6 279 x3:: .glob 2 197 j4:: .box b2 28 (x5 h):: .box b4 3 [iv s]:: []∧r= .v s'.v):=by
 refine z6 Tryz.func71 rfl rfl rfl ?_
 refine rn ?_;refine z8 rfl (w8 rfl rfl (y3.of_fun (yat h la _)) rfl ?_)
 rintro _ _ ⟨rm,rfl,rfl⟩
 refine z8 rfl (y7 rfl fun b3=> ?_)
 refine rn ?_;refine z8 rfl (w8 rfl rfl (y3.of_fun (yg0 h la 1 _ rfl _ (fun _ e=>e.t) (fun _ e=>e.s==s && (zbu e.t (zlh h.evs)).getD false) (fun k hk _=>y3.qt (y3.of_acall (fs:= []) (cs:= [pZ b4,pZ b3]) (ykk k s h.evs[k] b4 b3 rm (zlh h.evs))) (pt7 _ _ _ _ _ _ _ _ _)))) rfl ?_)
 rintro _ _ ⟨s',rfl,rfl⟩
 refine rn ?_;exact u7 rfl (.trans (.perm ((pt1 _ _ _).trans (.cons _ (pt1 _ _ _))) _) (.drop [_,_] _ _)) ⟨s',by rw [ye2],rfl⟩
set_option maxHeartbeats 4000000 in
theorem ykn (h:Hist) (la:Lim 4611686018427387904 h) (n:Int):x4 Tryz.prog 28 [.agg (x5 h),iv n] (.glob 3 148 x7:: .glob 5 276 x8:: .glob 6 279 x3:: .glob 2 197 j4:: []) (fun r h'=>∃s:SV,h'= .row s.v 1 3 ((onE (zko h n h.ss.length) (zaw h.evs n)).map zal):: .glob 3 148 x7:: .glob 5 276 x8:: .glob 6 279 x3:: .glob 2 197 j4:: []∧r= .tup [.v s.v,iv (zko h n h.ss.length)]):=by
 refine z6 Tryz.func28 rfl rfl rfl ?_
 refine rn ?_;refine z8 rfl (x9 rfl rfl rfl fun b2=> ?_)
 refine z8 rfl (x9 rfl rfl rfl fun b3=> ?_)
 refine rn ?_;refine z8 rfl (w8 rfl rfl (y3.perm ((pt2 _ _ _ _).trans (.cons _ ((pt2 _ _ _ _).trans (.cons _ ((pt2 _ _ _ _).trans (.cons _ ((pt2 _ _ _ _).trans (.cons _ (pt1 _ _ _))))))))) (y3.of_fun (yg1 h la n (h.ss.map ze0).length (.fn (.func 71) [] [pZ b2,pZ b3]) rfl (zaw h.evs n) [.box b2 28 (x5 h),.box b3 3 [iv n]] (fun he=>y3.of_acall (fs:= []) (cs:= [pZ b2,pZ b3]) (ykm h (ylt he) n b2 b3))))) rfl ?_)
 rintro _ _ ⟨s,rfl,rfl⟩
 refine rn ?_;exact zb4 rfl rfl (.trans (.perm ((pt5 _ _ _ _ _ _ _).trans (.cons _ (pt5 _ _ _ _ _ _ _))) _) (.drop [_,_] _ _)) ⟨s,by simp only [List.length_map],by simp only [List.length_map];rfl⟩
theorem yod (h:Hist) (la:Lim 4611686018427387904 h) (n:Int):x4 Tryz.prog 28 [.agg (x5 h),iv n] (.glob 3 148 x7:: .glob 5 276 x8:: .glob 6 279 x3:: .glob 2 197 j4:: []) (fun r h'=>h'= .glob 3 148 x7:: .glob 5 276 x8:: .glob 6 279 x3:: .glob 2 197 j4:: []∧r= .tup [zca (onE (zko h n h.ss.length) (zaw h.evs n)),iv (zko h n h.ss.length)]):=
 (ykn h la n).ventR (by rintro _ _ ⟨s,rfl,rfl⟩;exact ⟨_,_,zbn [] [_],rfl,rfl⟩)
set_option maxHeartbeats 4000000 in
theorem yoh (h:Hist) (la:Lim 3000 h) (x:Int) (W:List Res):x4 Tryz.prog 122 [.agg (x5 h),iv x] W (fun r h'=>∃s:SV,h'= .row s.v 1 3 ((zfv h x).map zal)::W∧r= .v s.v):=by
 refine z6 Tryz.func122 rfl rfl rfl ?_
 have le:h.evs.length≤1000000:=Nat.le_trans la.evs (by decide)
 have lo:=la.ords
 refine rn ?_;refine z8 rfl (x9 rfl rfl rfl fun b2=> ?_)
 refine z8 rfl (x9 rfl rfl rfl fun b3=> ?_)
 refine rn ?_;refine qv rfl rfl (y4 rfl rfl (y3.of_fun (zkg h.ords _ (fun o:Ord=>o.o==x) _ (fun a _=>y3.qt (y3.of_acall (fs:= []) (cs:= [pZ b3]) (yq9 x a b3)) (.refl _)) (Nat.le_trans la.ords (by decide))))) ?_
 refine rn ?_;refine z7 rfl (fun hc13=> ?_) (fun hc13=> ?_)
 ·obtain ⟨k,hk,ek,hx⟩:=ynp hc13
  have rk:=zad (f:=zdg) hk
  rw [ek]
  refine rn ?_;refine z8 rfl (w8 rfl rfl (y3.fr (y3.rowS (y3.of_fun (zmo (h.ords[k].ts.map zal) (by rw [List.length_map];exact Nat.le_trans (la.ordts h.ords[k] (List.getElem_mem hk)) (by decide)) (zjq _)))) (.refl _)) rfl ?_)
  rintro _ _ ⟨_,rfl,s,rfl,rfl⟩
  refine rn ?_;exact u7 rfl (.trans (.perm ((pt1 _ _ _).trans (.cons _ (pt1 _ _ _))) _) (.drop [_,_] _ _)) ⟨s,by rw [hx],rfl⟩
 ·have hx:=yno hc13
  refine rn ?_;refine z8 rfl (w8 rfl rfl (y3.of_fun (yat h le _)) rfl ?_)
  rintro _ _ ⟨rm,rfl,rfl⟩
  refine z8 rfl (y7 rfl fun b6=> ?_)
  refine rn ?_;refine z8 rfl (w8 rfl rfl (y3.of_fun (yg0 h le 2 _ rfl _ (fun _ e=>e.t) (fun _ e=>e.o==x && (zbu e.t (zlh h.evs)).getD false) (fun k hk _=>y3.qt (y3.of_acall (fs:= []) (cs:= [pZ b3,pZ b6]) (ykl k x h.evs[k] b3 b6 rm (zlh h.evs))) (pt2 _ _ _ _)))) rfl ?_)
  rintro _ _ ⟨s,rfl,rfl⟩
  refine rn ?_;refine z8 rfl (w8 rfl rfl (zam (y3.of_fun (ylh s _ (by have:=(zpg (zp4 2 (fun _ e=>e.t) (fun _ e=>e.o==x && (zbu e.t (zlh h.evs)).getD false)) h.evs h.evs.length);omega)))) rfl ?_)
  rintro _ _ ⟨s',rfl,rfl⟩
  refine rn ?_;exact u7 rfl (.trans (.perm ((pt1 _ _ _).trans (.cons _ ((pt1 _ _ _).trans (.cons _ ((pt1 _ _ _).trans (.cons _ (pt1 _ _ _))))))) _) (.drop [_,_,_,_] _ _)) ⟨s',by rw [hx,ykt],rfl⟩
theorem yog (h:Hist) (la:Lim 3000 h) (x:Int) (b2 b3:Nat):x4 Tryz.prog 121 [pZ b2,pZ b3] (.glob 3 148 x7:: .glob 5 276 x8:: .glob 6 279 x3:: .glob 2 197 j4:: .box b2 28 (x5 h):: .box b3 3 [iv x]:: []) (fun r h'=>∃s:SV,h'= .row s.v 1 3 ((zfv h x).map zal):: .glob 3 148 x7:: .glob 5 276 x8:: .glob 6 279 x3:: .glob 2 197 j4:: .box b2 28 (x5 h):: .box b3 3 [iv x]:: []∧r= .v s.v):=by
 refine z6 Tryz.func121 rfl rfl rfl ?_
 refine rn ?_;refine z8 rfl (w8 rfl rfl (y3.of_fun (yoh h la x _)) rfl ?_)
 rintro _ _ ⟨s,rfl,rfl⟩
 refine rn ?_;exact u7 rfl (.refl _ _) ⟨s,rfl,rfl⟩
set_option maxHeartbeats 4000000 in
theorem yko (h:Hist) (la:Lim 4611686018427387904 h) (x:Int):x4 Tryz.prog 75 [.agg (x5 h),iv x] (.glob 3 148 x7:: .glob 5 276 x8:: .glob 6 279 x3:: .glob 2 197 j4:: []) (fun r h'=>∃s:SV,h'= .row s.v 1 3 ((onE (zko h x h.os.length) (zfv h x)).map zal):: .glob 3 148 x7:: .glob 5 276 x8:: .glob 6 279 x3:: .glob 2 197 j4:: []∧r= .tup [.v s.v,iv (zko h x h.os.length)]):=by
 refine z6 Tryz.func75 rfl rfl rfl ?_
 refine rn ?_;refine z8 rfl (x9 rfl rfl rfl fun b2=> ?_)
 refine z8 rfl (x9 rfl rfl rfl fun b3=> ?_)
 refine rn ?_;refine z8 rfl (w8 rfl rfl (y3.perm ((pt2 _ _ _ _).trans (.cons _ ((pt2 _ _ _ _).trans (.cons _ ((pt2 _ _ _ _).trans (.cons _ ((pt2 _ _ _ _).trans (.cons _ (pt1 _ _ _))))))))) (y3.of_fun (yg1 h la x (h.os.map ze0).length (.fn (.func 121) [] [pZ b2,pZ b3]) rfl (zfv h x) [.box b2 28 (x5 h),.box b3 3 [iv x]] (fun he=>y3.of_acall (fs:= []) (cs:= [pZ b2,pZ b3]) (yog h (yb9 he) x b2 b3))))) rfl ?_)
 rintro _ _ ⟨s,rfl,rfl⟩
 refine rn ?_;exact zb4 rfl rfl (.trans (.perm ((pt5 _ _ _ _ _ _ _).trans (.cons _ (pt5 _ _ _ _ _ _ _))) _) (.drop [_,_] _ _)) ⟨s,by simp only [List.length_map],by simp only [List.length_map];rfl⟩
theorem yoe (h:Hist) (la:Lim 4611686018427387904 h) (x:Int):x4 Tryz.prog 75 [.agg (x5 h),iv x] (.glob 3 148 x7:: .glob 5 276 x8:: .glob 6 279 x3:: .glob 2 197 j4:: []) (fun r h'=>h'= .glob 3 148 x7:: .glob 5 276 x8:: .glob 6 279 x3:: .glob 2 197 j4:: []∧r= .tup [zca (onE (zko h x h.os.length) (zfv h x)),iv (zko h x h.os.length)]):=
 (yko h la x).ventR (by rintro _ _ ⟨s,rfl,rfl⟩;exact ⟨_,_,zbn [] [_],rfl,rfl⟩)
theorem yan (l:List Ev) (t x:Int):∀k,k≤l.length→zbu (t,x) (zp3 (l.take k))=(zg0 l t x k).map Prod.fst
 |0,_=>rfl
 |k+1,hk=>by
  have ih:=yan l t x k (by omega)
  rw [List.take_succ_eq_append_getElem hk,zd5,zg0,List.getElem?_eq_getElem hk]
  simp only
  by_cases hw:zbe t x l[k]=true
  ·obtain ⟨h2,ht,hx⟩:=zfh.1 hw
   rw [if_pos (by simpa using h2),zcu,if_pos (by rw [kTO,ht,hx]),if_pos hw];rfl
  ·rw [if_neg hw]
   by_cases h2:l[k].kind=2
   ·rw [if_pos (by simpa using h2),zcu,if_neg,ih]
    intro e
    rw [kTO,Prod.mk.injEq] at e
    exact hw (zfh.2 ⟨h2,e.1,e.2⟩)
   ·rw [if_neg (by simpa using h2),ih]
theorem yki (h:Hist) (t x:Int):(zbu (t,x) (zp3 h.evs)).getD ⟨0,0⟩=zkr h x t:=by
 have:=yan h.evs t x h.evs.length (Nat.le_refl _)
 rw [List.take_length] at this
 rw [this,zkr,zvy]
 cases zg0 h.evs t x h.evs.length <;> rfl
abbrev rkS (h:Hist) (rk:Nat):Res:= .map rk (zac zfd (zbz iv (rkM h h.os.length)))
theorem yqo (h:Hist) (n:Nat):rkM h (n+1)=zhp h n 0 ((zfv h n).take (zfv h n).length) (zfq (zr9 n ⟨0,0⟩) 0 (rkM h n)):=by rw [List.take_length];rfl
theorem yok {h:Hist} (hc:j8 h=0) {x:Int} (h0:0≤x) (h1:x < h.os.length):(zfv h x).length≤3000:=by
 rw [(zma (zdt.1 hc) h0 h1).2.1]
 exact Nat.le_trans (zje h.evs x) (zg9 hc).evs
theorem yn9 {h:Hist} {j:Nat} (hj:j < h.evs.length) (hw:(h.evs[j].kind==2)=true):zp3 (h.evs.take (j+1))=zfq (h.evs[j].t,h.evs[j].o) h.evs[j].v (zp3 (h.evs.take j)):=by
 rw [List.take_succ_eq_append_getElem hj,zd5,if_pos hw];rfl
theorem yoa {h:Hist} {j:Nat} (hj:j < h.evs.length) (hw:(h.evs[j].kind==2)=false):zp3 (h.evs.take (j+1))=zp3 (h.evs.take j):=by
 rw [List.take_succ_eq_append_getElem hj,zd5,hw];rfl
theorem ycl {h:Hist} {t kd:Int} {k:Nat} {e:Ev} {r:Int} (ht:e.t=t) (hk:e.kind=kd) (hr:zvb h e.o e.v=some r):zmx h t kd k e= [⟨e.o,r,k⟩]:=by
 rw [zmx,if_pos (by simp [ht,hk]),hr]
theorem zwf {h:Hist} {t kd:Int} {k:Nat} {e:Ev} (hn:¬(e.t=t∧e.kind=kd)):zmx h t kd k e= []:=by
 rw [zmx,if_neg];intro q;rw [Bool.and_eq_true,beq_iff_eq,beq_iff_eq] at q;exact hn q
theorem yhu {h:Hist} {t kd:Int} {k:Nat} {e:Ev} (hr:zvb h e.o e.v=none):zmx h t kd k e= []:=by
 rw [zmx];split
 ·rw [hr]
 ·rfl
theorem zh4 {h:Hist} {t kd:Int} {k:Nat} (hk:k < h.evs.length):zpw h t kd (k+1)=zpw h t kd k++zmx h t kd k h.evs[k]:=by rw [zpw,List.getElem?_eq_getElem hk]
theorem yga (h:Hist) (t kd:Int) (k:Nat) (e:Ev):(zmx h t kd k e).length≤1:=by
 rw [zmx];split
 ·split <;> simp
 ·simp
theorem ze6 (h:Hist) (t kd:Int):∀k,(zpw h t kd k).length≤k
 |0=>Nat.le_refl _
 |k+1=>by
  have h1:=ze6 h t kd k
  rw [zpw,List.length_append]
  split
  ·have h2:=yga h t kd k
   rename_i e _
   have:=h2 e;omega
  ·simp;omega
theorem ypu {h:Hist} {t kd:Int} {a:Acc} (ha:a∈zpv h t kd):0≤a.o∧a.o < h.os.length:=by
 obtain ⟨k,hk,_,_,ho,_,hr⟩:=ypv ha
 by_cases q:((h.os.length:Nat):Int)≤h.evs[k].o∨h.evs[k].o < 0
 ·rw [zvb,zsv h _ _ _ q] at hr;cases hr
 ·rw [ho];omega
structure Dos where
 t:Int
 A:List Acc
 B:List Acc
abbrev zhc (l:List Acc):AV:= .list false 3 (l.map accR)
abbrev zcf (d:Dos):List AV:= [iv d.t,zhc d.A,zhc d.B]
abbrev zd8 (l:List Dos):AV:= .list false 3 (l.map zcf)
def zt1 (h:Hist) (t:Int):Dos:=⟨t,zp1 h.os.length (zpv h t 3),zp1 h.os.length (zpv h t 2)⟩
def k9 (h:Hist) (s:Int):List Dos:=(zaw h.evs s).map (zt1 h)
def zdh (h:Hist) (s:Int):Int:=zko h s h.ss.length
def ye3 (h:Hist) (s:Int):List Dos:=if zdh h s=0 then k9 h s else []
theorem zlb (h:Hist) (s:Int):(zaw h.evs s).length≤h.evs.length:=by
 rw [zaw,List.length_map];exact List.length_filter_le _ _
theorem ykh {h:Hist} {s:Int} (he:zdh h s≠0):ye3 h s= []:=if_neg he
theorem zto {h:Hist} {s:Int} (he:zdh h s=0):ye3 h s=k9 h s:=if_pos he
instance:Chk3 Tryz.prog 139:=⟨fun e w a b c=>by kernel_rfl⟩
theorem yof (h:Hist) (la:Lim 4611686018427387904 h) (hc:j8 h=0) (x:Int) (h0:0≤x) (h1:x < h.os.length):x4 Tryz.prog 75 [.agg (x5 h),iv x] (.glob 3 148 x7:: .glob 5 276 x8:: .glob 6 279 x3:: .glob 2 197 j4:: []) (fun r h'=>h'= .glob 3 148 x7:: .glob 5 276 x8:: .glob 6 279 x3:: .glob 2 197 j4:: []∧r= .tup [zca (zfv h x),iv 0]):=(yoe h la x).mono fun _ _ q=>⟨q.1,by rw [q.2,zxw hc ⟨h0,h1⟩];rfl⟩
set_option maxHeartbeats 4000000 in
theorem ydo (h:Hist) (la:Lim 4611686018427387904 h) (hc:j8 h=0):x4 Tryz.prog 117 [.agg (x5 h)] (.glob 3 148 x7:: .glob 5 276 x8:: .glob 6 279 x3:: .glob 2 197 j4:: []) (fun r h'=>∃rk,h'=rkS h rk:: .glob 3 148 x7:: .glob 5 276 x8:: .glob 6 279 x3:: .glob 2 197 j4:: []∧r=mpv rk):=by
 refine z6 Tryz.func117 rfl rfl rfl ?_
 have lA:=zg9 hc
 have lO:=lA.os
 have lE:=lA.evs
 refine rn ?_;refine z8 rfl (x9 rfl rfl rfl fun b1=> ?_)
 refine rn ?_;refine z8 rfl (zbg (enc:=zfd) rfl fun bO=> ?_)
 refine rn ?_;refine z8 rfl (zbg (enc:=zd0) rfl fun bL=> ?_)
 refine rn ?_;refine zb0 h.evs.length (fun _=>True) (fun j=>⟨[(17,iv j),(1,pZ b1),(3,mpv bO),(4,mpv bL),(15,zmw h.evs),(16,iv (h.evs.map evR).length)],.map bL (zac zd0 (zbz zwj (zp3 (h.evs.take j)))):: .map bO (zac zfd (zbz iv [])):: .box b1 28 (x5 h):: .glob 3 148 x7:: .glob 5 276 x8:: .glob 6 279 x3:: .glob 2 197 j4:: [],[]⟩) trivial es ?_
 intro j lj _
 refine rn ?_;refine z7 rfl (fun hc18=> ?_) (fun hc18=> ?_)
 ·have hj:=zao hc18
  have rj:=zad (f:=evR) hj
  refine rn ?_;refine z8 rfl (y7 rfl fun b6=> ?_)
  refine rn ?_;refine z7 rfl (fun hc23=> ?_) (fun hc23=> ?_)
  ·have hw:(h.evs[j].kind==2)=true:=by simpa using hc23
   refine y5 ?_;refine q1 ?_;refine q1 ?_;refine q1 ?_;refine q1 ?_;refine q1 ?_;refine qq rfl rfl (zc9 (out:= [iv h.evs[j].t,iv h.evs[j].o]) rfl (by rfl)) ?_
   refine rn ?_;refine z8 rfl (zbq (g:=zwj) (enc:=zd0) (k:=(h.evs[j].t,h.evs[j].o)) (v:=h.evs[j].v) rfl rfl rfl ?_)
   refine rn ?_;exact ⟨hj,trivial,by rw [yn9 hj hw];exact eA⟩
  ·have hw:(h.evs[j].kind==2)=false:=by simpa using hc23
   refine rn ?_;exact ⟨hj,trivial,by rw [yoa hj hw];exact eA⟩
 ·have qj:=zap hc18 lj
  subst qj
  rw [List.take_length]
  refine rn ?_;refine zb0 h.os.length (fun _=>True) (fun k=>⟨[(36,iv k),(1,pZ b1),(3,mpv bO),(4,mpv bL),(35,iv (h.os.map ze0).length)],.map bL (zac zd0 (zbz zwj (zp3 h.evs))):: .map bO (zac zfd (zbz iv (rkM h k))):: .box b1 28 (x5 h):: .glob 3 148 x7:: .glob 5 276 x8:: .glob 6 279 x3:: .glob 2 197 j4:: [],[]⟩) trivial es ?_
  intro k lk _
  refine rn ?_;refine z7 rfl (fun hc37=> ?_) (fun hc37=> ?_)
  ·have hk:k < h.os.length:=by have q:=of_decide_eq_true hc37;rw [List.length_map] at q;omega
   have k0:(0:Int)≤(k:Int):=by omega
   have k1:(k:Int) < h.os.length:=by omega
   have hb:=yok hc k0 k1
   refine zab ?_;refine j9 ?_;refine x6 ?_;refine zan ?_;refine x6 (y5 ?_)
   refine q1 ?_;refine q1 ?_;refine u4 (j9 ?_)
   refine x6 (y5 ?_)
   refine q1 ?_;refine q1 ?_;refine qq rfl rfl (zae (out:= [iv k,iv 0,iv 0]) rfl (by rfl)) ?_
   refine z8 rfl (zbq (g:=iv) (enc:=zfd) (k:=((k:Int),(0:Int),(0:Int))) (v:=(0:Int)) rfl rfl rfl ?_)
   refine rn ?_;refine qv rfl rfl (y4 rfl rfl (y3.qt (y3.of_fun (yof h la hc k k0 k1)) ((pt3 _ _ _ _ _).trans (.cons _ ((pt3 _ _ _ _ _).trans (.cons _ ((pt3 _ _ _ _ _).trans (.cons _ (pt3 _ _ _ _ _))))))))) ?_
   refine rn ?_;refine zb0 (zfv h k).length (fun _=>True) (fun j=>⟨[(50,iv j),(1,pZ b1),(3,mpv bO),(4,mpv bL),(7,iv k),(35,iv (h.os.map ze0).length),(36,iv k),(48,zca (zfv h k)),(49,iv ((zfv h k).map zal).length)],.map bL (zac zd0 (zbz zwj (zp3 h.evs))):: .map bO (zac zfd (zbz iv (zhp h k 0 ((zfv h k).take j) (zfq (zr9 k ⟨0,0⟩) 0 (rkM h k))))):: .box b1 28 (x5 h):: .glob 3 148 x7:: .glob 5 276 x8:: .glob 6 279 x3:: .glob 2 197 j4:: [],[]⟩) trivial es ?_
   intro j lj _
   refine rn ?_;refine z7 rfl (fun hc51=> ?_) (fun hc51=> ?_)
   ·have hj:=zao hc51
    have rj:=zad (f:=zal) hj
    refine zab ?_;refine j9 ?_;refine x6 ?_;refine zan ?_;refine x6 (y5 ?_)
    refine q1 ?_;refine q1 ?_;refine q1 ?_;refine q1 ?_;refine q1 ?_;refine u4 (j9 ?_)
    refine y5 ?_;refine q1 ?_;refine q1 ?_;refine q1 ?_;refine q1 ?_;refine q1 ?_;refine qq rfl rfl (zc9 (out:= [iv (zfv h k)[j],iv k]) rfl (by rfl)) ?_
    refine qq rfl rfl (zbl (zck (g:=zwj) (enc:=zd0) (k:=((zfv h k)[j],(k:Int))) (⟨0,0⟩:Ver) rfl rfl) (show zwj _=zwj (zkr h k (zfv h k)[j]) from congrArg zwj (yki h (zfv h k)[j] k))) ?_
    refine qq rfl rfl (zae (out:= [iv k,iv (zkr h k (zfv h k)[j]).t,iv (zkr h k (zfv h k)[j]).k]) rfl (by rfl)) ?_
    refine q1 ?_;refine qq rfl rfl (k7 rfl rfl rfl (by omega)) ?_
    refine z8 rfl (zbq (g:=iv) (enc:=zfd) (k:=((k:Int),(zkr h k (zfv h k)[j]).t,(zkr h k (zfv h k)[j]).k)) (v:=(j:Int)+1) rfl rfl rfl ?_)
    refine rn ?_;exact ⟨hj,trivial,by rw [yi4 hj];exact eA⟩
   ·have qj:=zap hc51 lj
    rw [qj,List.take_length]
    refine rn ?_;exact ⟨hk,trivial,by rw [yqo,List.take_length];exact eA⟩
  ·have qk:k=h.os.length:=by have q:=of_decide_eq_false hc37;rw [List.length_map] at q;omega
   refine rn ?_;exact u7 rfl (.trans (.perm (.cons _ (pt1 _ _ _)) _) (.drop [_,_] _ _)) ⟨bO,by rw [qk],rfl⟩
set_option maxHeartbeats 4000000 in
theorem yqk (h:Hist) (la:Lim 4611686018427387904 h) (hc:j8 h=0) (t:Int) (rO:Nat) (W:List Res):x4 Tryz.prog 118 [.agg (x5 h),iv t,mpv rO] (rkS h rO::W) (fun r h'=>h'=rkS h rO::W∧r= .agg (zcf (zt1 h t))):=by
 refine z6 Tryz.func118 rfl rfl rfl ?_
 have lA:=zg9 hc
 have lO:=lA.os
 have lE:=lA.evs
 refine rn ?_;refine z8 rfl (x9 rfl rfl rfl fun b3=> ?_)
 refine z8 rfl (y7 rfl fun b6=> ?_)
 refine rn ?_;refine z8 rfl (y7 rfl fun b7=> ?_)
 refine rn ?_;refine zig h.evs.length (fun _ (_:SV×SV)=>True) (fun k z=>⟨[(19,iv k),(1,iv t),(2,mpv rO),(6,pZ b6),(7,pZ b7),(17,zmw h.evs),(18,iv (h.evs.map evR).length)],.row z.1.v 3 178 ((zpw h t 3 k).map accR):: .row z.2.v 3 178 ((zpw h t 2 k).map accR):: .box b7 121 [iv t,.v z.1.v,.v z.2.v]:: .box b6 121 [iv 0,.v (.slice none 0 0),.v (.slice none 0 0)]:: .box b3 28 (x5 h)::rkS h rO::W,[]⟩) (⟨none,0,0⟩,⟨none,0,0⟩) trivial (v6 (zaj 3 178) (v6 (zaj 3 178) es)) ?_
 rintro k ⟨sR,sI⟩ lk -
 show aw _ _ _ _ _ ⟨[(19,iv k),(1,iv t),(2,mpv rO),(6,pZ b6),(7,pZ b7),(17,zmw h.evs),(18,iv (h.evs.map evR).length)],.row sR.v 3 178 ((zpw h t 3 k).map accR):: .row sI.v 3 178 ((zpw h t 2 k).map accR):: .box b7 121 [iv t,.v sR.v,.v sI.v]:: .box b6 121 [iv 0,.v (.slice none 0 0),.v (.slice none 0 0)]:: .box b3 28 (x5 h)::rkS h rO::W,[]⟩
 refine rn ?_;refine z7 rfl (fun hc20=> ?_) (fun hc20=> ?_)
 ·have hk:=zao hc20
  have rk:=zad (f:=evR) hk
  refine rn ?_;refine z8 rfl (y7 rfl fun b9=> ?_)
  refine rn0 ?_;refine x6 ?_;refine zgm (⟨[(37,bv (h.evs[k].t !=t||(h.evs[k].kind !=3 && h.evs[k].kind !=2))),(8,iv k),(9,pZ b9),(19,iv k),(1,iv t),(2,mpv rO),(6,pZ b6),(7,pZ b7),(17,zmw h.evs),(18,iv (h.evs.map evR).length)],.box b9 66 (evR h.evs[k]):: .row sR.v 3 178 ((zpw h t 3 k).map accR):: .row sI.v 3 178 ((zpw h t 2 k).map accR):: .box b7 121 [iv t,.v sR.v,.v sI.v]:: .box b6 121 [iv 0,.v (.slice none 0 0),.v (.slice none 0 0)]:: .box b3 28 (x5 h)::rkS h rO::W,[]⟩) ?_ ?_
  ·refine rn ?_;refine y8 (fun hg5_4=> ?_) (fun hg5_4=> ?_)
   ·refine rn ?_;first|(rw [hg5_4,Bool.true_or];exact eA)|(rw [hg5_4,Bool.false_or,hg5_8,Bool.true_and];exact eA)|(rw [hg5_4,Bool.false_or,hg5_8,Bool.false_and];exact eA)
   ·refine rn ?_;refine y8 (fun hg5_8=> ?_) (fun hg5_8=> ?_)
    ·refine rn ?_;first|(rw [hg5_4,Bool.true_or];exact eA)|(rw [hg5_4,Bool.false_or,hg5_8,Bool.true_and];exact eA)|(rw [hg5_4,Bool.false_or,hg5_8,Bool.false_and];exact eA)
    ·refine rn ?_;first|(rw [hg5_4,Bool.true_or];exact eA)|(rw [hg5_4,Bool.false_or,hg5_8,Bool.true_and];exact eA)|(rw [hg5_4,Bool.false_or,hg5_8,Bool.false_and];exact eA)
  ·refine z7 rfl (fun hc37=> ?_) (fun hc37=> ?_)
   ·have hn3:zmx h t 3 k h.evs[k]= []:=zwf (by rintro ⟨e1,e2⟩;have q:=hc37;rw [e1,e2] at q;simp at q)
    have hn2:zmx h t 2 k h.evs[k]= []:=zwf (by rintro ⟨e1,e2⟩;have q:=hc37;rw [e1,e2] at q;simp at q)
    refine rn ?_;exact ⟨hk,(sR,sI),trivial,by rw [zh4 hk,zh4 hk,hn3,hn2,List.append_nil,List.append_nil];exact eA⟩
   ·have q:=hc37
    rw [Bool.or_eq_false_iff,Bool.and_eq_false_iff] at q
    have ht:h.evs[k].t=t:=by simpa using q.1
    have hkk:h.evs[k].kind=3∨h.evs[k].kind=2:=by simpa using q.2
    refine zab ?_;refine j9 ?_;refine x6 (y5 ?_)
    refine q1 ?_;refine q1 ?_;refine q1 ?_;refine q1 ?_;refine q1 ?_;refine qq rfl rfl (zae (out:= [iv h.evs[k].o,iv h.evs[k].v.t,iv h.evs[k].v.k]) rfl (by rfl)) ?_
    refine qq rfl rfl (zqu (g:=iv) (enc:=zfd) (k:=(h.evs[k].o,h.evs[k].v.t,h.evs[k].v.k)) (0:Int) rfl rfl rfl) ?_
    refine q1 ?_;refine q1 ?_;refine q1 ?_;refine q1 ?_;refine q1 ?_;refine u4 (j9 ?_)
    refine x6 (y5 ?_)
    refine q1 ?_;refine q1 ?_;refine q1 ?_;refine q1 ?_;refine qq rfl rfl (zae (out:= [iv h.evs[k].o,iv ((zbu (h.evs[k].o,h.evs[k].v.t,h.evs[k].v.k) (rkM h h.os.length)).getD 0),iv k]) rfl (by rfl)) ?_
    refine z8 rfl (y7 rfl fun b12=> ?_)
    refine rn ?_;refine z7 rfl (fun hc59=> ?_) (fun hc59=> ?_)
    ·have hr:zvb h h.evs[k].o h.evs[k].v=none:=by
      have q:(zbu (h.evs[k].o,h.evs[k].v.t,h.evs[k].v.k) (rkM h h.os.length)).isSome=false:=by simpa using hc59
      exact Option.isNone_iff_eq_none.1 (by rw [←Option.not_isSome];show (!(zbu (h.evs[k].o,h.evs[k].v.t,h.evs[k].v.k) (rkM h h.os.length)).isSome)=true;rw [q];rfl)
     have hn3:zmx h t 3 k h.evs[k]= []:=yhu hr
     have hn2:zmx h t 2 k h.evs[k]= []:=yhu hr
     refine rn ?_;exact ⟨hk,(sR,sI),trivial,by rw [zh4 hk,zh4 hk,hn3,hn2,List.append_nil,List.append_nil];exact eA⟩
    ·obtain ⟨r0,hr⟩:∃r,(zbu (h.evs[k].o,h.evs[k].v.t,h.evs[k].v.k) (rkM h h.os.length))=some r:=Option.isSome_iff_exists.1 (by simpa using hc59)
     have hr':zvb h h.evs[k].o h.evs[k].v=some r0:=hr
     rw [hr,Option.getD_some,Option.isSome_some]
     refine rn ?_;refine z7 rfl (fun hc62=> ?_) (fun hc62=> ?_)
     ·have h3:h.evs[k].kind=3:=by simpa using hc62
      have hn3:zmx h t 3 k h.evs[k]= [⟨h.evs[k].o,r0,k⟩]:=ycl ht h3 hr'
      have hn2:zmx h t 2 k h.evs[k]= []:=zwf (fun q=>by rw [h3] at q;exact absurd q.2 (by decide))
      refine rn ?_;refine qv rfl rfl (q8 rfl rfl) ?_
      refine z8 rfl (j5 rfl rfl (by simp only [List.length_map,List.length_cons,List.length_nil];have:=ze6 h t 3 k;omega) rfl (fun s70=> ?_) (fun r hr=>by rw [List.mem_singleton.1 hr];rfl))
      refine zaf s70 fun sv hsv=> ?_
      subst hsv
      refine rn ?_;exact ⟨hk,(sv,sI),trivial,by rw [zh4 hk,zh4 hk,hn3,hn2,List.append_nil,List.map_append];exact eA⟩
     ·have h3:h.evs[k].kind=2:=hkk.resolve_left (by simpa using hc62)
      have hn2:zmx h t 2 k h.evs[k]= [⟨h.evs[k].o,r0,k⟩]:=ycl ht h3 hr'
      have hn3:zmx h t 3 k h.evs[k]= []:=zwf (fun q=>by rw [h3] at q;exact absurd q.2 (by decide))
      refine rn ?_;refine qv rfl rfl (q8 rfl rfl) ?_
      refine z8 rfl (j5 rfl rfl (by simp only [List.length_map,List.length_cons,List.length_nil];have:=ze6 h t 2 k;omega) rfl (fun s57=> ?_) (fun r hr=>by rw [List.mem_singleton.1 hr];rfl))
      refine zaf s57 fun sv hsv=> ?_
      subst hsv
      refine rn ?_;exact ⟨hk,(sR,sv),trivial,by rw [zh4 hk,zh4 hk,hn3,hn2,List.append_nil,List.map_append];exact eA⟩
 ·have qk:=zap hc20 lk
  subst qk
  refine rn ?_;refine z8 rfl (w8 rfl rfl (zhm (y3.of_fun (ymi sR h.os.length (zpv h t 3) (fun a ha=>ypu ha) (by omega) (by have:=ze6 h t 3 h.evs.length;show (zpw h t 3 h.evs.length).length≤_;omega)))) rfl ?_)
  rintro _ _ ⟨rfl,rfl⟩
  refine rn ?_;refine z8 rfl (w8 rfl rfl (zhm (y3.of_fun (ymi sI h.os.length (zpv h t 2) (fun a ha=>ypu ha) (by omega) (by have:=ze6 h t 2 h.evs.length;show (zpw h t 2 h.evs.length).length≤_;omega)))) rfl ?_)
  rintro _ _ ⟨rfl,rfl⟩
  refine u4 (j9 ?_)
  refine x6 (y5 ?_)
  refine zpt (v6 (za0 (.cons _ (pt1 _ _ _))) (v6 (zh2 [iv t] [.v sI.v]) (v6 (za0 (pt1 _ _ _)) (zh2 [iv t,zhc (zp1 h.os.length (zpv h t 3))] [])))) ?_
  refine rn ?_;exact zgj (.cons _ _ _ _ (.agg _ _ _ _ _ _ _ rfl inferInstance inferInstance inferInstance rfl) .nil) (.drop [_,_,_] _ _) ⟨rfl,rfl⟩
set_option maxHeartbeats 4000000 in
theorem ydp (h:Hist) (la:Lim 4611686018427387904 h) (s:Int):x4 Tryz.prog 65 [.agg (x5 h),iv s] (.glob 3 148 x7:: .glob 5 276 x8:: .glob 6 279 x3:: .glob 2 197 j4:: []) (fun r h'=>∃v:SV,h'= .row v.v 3 121 ((ye3 h s).map zcf):: .glob 3 148 x7:: .glob 5 276 x8:: .glob 6 279 x3:: .glob 2 197 j4:: []∧r= .tup [.v v.v,iv (zdh h s)]):=by
 refine z6 Tryz.func65 rfl rfl rfl ?_
 refine rn ?_;refine z8 rfl (x9 rfl rfl rfl fun b2=> ?_)
 refine rn ?_;refine qv rfl rfl (y4 rfl rfl (y3.qt (y3.of_fun (yod h la s)) ((pt1 _ _ _).trans (.cons _ ((pt1 _ _ _).trans (.cons _ ((pt1 _ _ _).trans (.cons _ (pt1 _ _ _))))))))) ?_
 refine rn ?_;refine z7 rfl (fun hc19=> ?_) (fun hc19=> ?_)
 ·have he:zdh h s≠0:=nzT hc19
  refine rn ?_;exact zb4 rfl rfl (.trans (.drop [_] _ _) (zbj 3 121 _)) ⟨⟨none,0,0⟩,by rw [ykh he];rfl,rfl⟩
 ·have he:zdh h s=0:=nzF hc19
  have hc:j8 h=0:=zdt.2 (yca he).1
  have lE:=(zg9 hc).evs
  have lL:=zlb h s
  rw [show onE (zko h s h.ss.length) (zaw h.evs s)=(zaw h.evs s) by rw [show zko h s h.ss.length=0 from he,onE,if_pos rfl]]
  refine rn ?_;refine z8 rfl (w8 rfl rfl (y3.fr1 (y3.of_fun (ydo h la hc))) rfl ?_)
  rintro _ _ ⟨_,rfl,rO,rfl,rfl⟩
  refine rn ?_;refine zee (zaw h.evs s).length (fun k v=>⟨[(25,iv k),(9,.v v.v),(2,pZ b2),(8,mpv rO),(23,zca (zaw h.evs s)),(24,iv ((zaw h.evs s).map zal).length)],.row v.v 3 121 ((((zaw h.evs s).take k).map (zt1 h)).map zcf):: .box b2 28 (x5 h)::rkS h rO:: .glob 3 148 x7:: .glob 5 276 x8:: .glob 6 279 x3:: .glob 2 197 j4:: [],[]⟩) ⟨none,0,0⟩ (v6 (zaj 3 121) es) ?_
  intro k v lk
  refine rn ?_;refine z7 rfl (fun hc26=> ?_) (fun hc26=> ?_)
  ·have hk:=zao hc26
   have rk:=zad (f:=zal) hk
   refine rn ?_;refine qv rfl rfl (y4 rfl rfl (y3.qt (y3.of_fun (yqk h la hc (zaw h.evs s)[k] rO [])) (pt2 _ _ _ _))) ?_
   refine qv rfl rfl (q8 rfl rfl) ?_
   refine z8 rfl (j5 rfl rfl (by simp only [List.length_map,List.length_cons,List.length_nil];have:=List.length_take_le k (zaw h.evs s);omega) rfl (fun s35=> ?_) (fun r hr=>by rw [List.mem_singleton.1 hr];rfl))
   refine zaf s35 fun sv hsv=> ?_
   subst hsv
   refine rn ?_;exact ⟨hk,sv,by rw [List.take_succ_eq_append_getElem hk,List.map_append,List.map_append];exact eA⟩
  ·have qk:=zap hc26 lk
   subst qk
   rw [List.take_length]
   refine rn ?_;exact zb4 rfl rfl (.trans (.perm ((pt1 _ _ _).trans (.cons _ (pt1 _ _ _))) _) (.drop [_,_] _ _)) ⟨v,by rw [zto he];rfl,by rw [he];rfl⟩
theorem zyt (h:Hist) (la:Lim 4611686018427387904 h) (s:Int):x4 Tryz.prog 65 [.agg (x5 h),iv s] (.glob 3 148 x7:: .glob 5 276 x8:: .glob 6 279 x3:: .glob 2 197 j4:: []) (fun r h'=>h'= .glob 3 148 x7:: .glob 5 276 x8:: .glob 6 279 x3:: .glob 2 197 j4:: []∧r= .tup [zd8 (ye3 h s),iv (zdh h s)]):=(ydp h la s).ventR (by rintro _ _ ⟨v,rfl,rfl⟩;exact ⟨_,_,zbn [] [_],rfl,rfl⟩)
abbrev yfi:AV:= .fn (.func 244) [] []
abbrev yfh:AV:= .fn (.func 248) [] []
def w9:List AV:= [iv 1,yfi,yfh,iv 2,yfh,yfh,iv 4,yfi,yfi,iv 8,yfh,yfi]
def zh1 (k:Nat):Int:=if k=0 then 1 else if k=1 then 2 else if k=2 then 4 else 8
def gFn (k:Nat):Nat:=if k=0∨k=2 then 244 else 248
def gSn (k:Nat):Nat:=if k=0∨k=1 then 248 else 244
abbrev yqa (k:Nat):AV:= .fn (.func (gFn k)) [] []
abbrev yp9 (k:Nat):AV:= .fn (.func (gSn k)) [] []
abbrev zvt (k:Nat):List AV:= [iv (zh1 k),yqa k,yp9 k]
theorem ykz {k:Nat} (hk:k < 4):(w9.drop (k * 3)).take 3=zvt k:=by
 rcases (by omega:k=0∨k=1∨k=2∨k=3) with rfl|rfl|rfl|rfl <;> rfl
def zds (k:Nat) (d:Dos):List Acc:=if k=0∨k=2 then d.B else d.A
def zhf (k:Nat) (d:Dos):List Acc:=if k=0∨k=1 then d.A else d.B
def giK (g:Int):Nat→Int
 |0=> -1
 |k+1=>if zh1 k=g then (k:Int) else giK g k
def zpe (g:Int):Int:=if g=1 then 0 else if g=2 then 1 else if g=4 then 2 else if g=8 then 3 else -1
theorem ysz (g:Int):giK g 4=zpe g:=by
 simp only [giK,zh1,zpe]
 by_cases h1:g=1
 ·subst h1;decide
 by_cases h2:g=2
 ·subst h2;decide
 by_cases h3:g=4
 ·subst h3;decide
 by_cases h4:g=8
 ·subst h4;decide
 simp [h1,h2,h3,h4,Ne.symm h1,Ne.symm h2,Ne.symm h3,Ne.symm h4]
theorem yoo {g:Int} (h:¬zpe g < 0):∃k,k < 4∧zpe g=(k:Nat)∧zh1 k=g:=by
 rw [zpe] at h ⊢
 split
 ·exact ⟨0,by decide,rfl,by rename_i e;rw [e];rfl⟩
 ·split
  ·exact ⟨1,by decide,rfl,by rename_i e;rw [e];rfl⟩
  ·split
   ·exact ⟨2,by decide,rfl,by rename_i e;rw [e];rfl⟩
   ·split
    ·exact ⟨3,by decide,rfl,by rename_i e;rw [e];rfl⟩
    ·exfalso;simp_all
def zgh (h:Hist) (s g:Int):Int:=if zdh h s≠0 then zdh h s else if zpe g < 0 then 2 else 0
def yhm (h:Hist) (s g:Int):List Dos:=if zgh h s g=0 then k9 h s else []
def yhn (h:Hist) (s g:Int):Int:=if zgh h s g=0 then zpe g else 0
theorem zij {h:Hist} {s g:Int} (he:zdh h s≠0):zgh h s g=zdh h s∧yhm h s g= []∧yhn h s g=0:=by
 have:zgh h s g=zdh h s:=if_pos he
 exact ⟨this,by rw [yhm,this,if_neg he],by rw [yhn,this,if_neg he]⟩
theorem zmu {h:Hist} {s g:Int} (he:zdh h s=0) (hg:zpe g < 0):zgh h s g=2∧yhm h s g= []∧yhn h s g=0:=by
 have:zgh h s g=2:=by rw [zgh,if_neg (by simpa using he),if_pos hg]
 exact ⟨this,by rw [yhm,this,if_neg (by decide)],by rw [yhn,this,if_neg (by decide)]⟩
theorem zii {h:Hist} {s g:Int} (he:zdh h s=0) (hg:¬zpe g < 0):zgh h s g=0∧yhm h s g=k9 h s∧yhn h s g=zpe g:=by
 have:zgh h s g=0:=by rw [zgh,if_neg (by simpa using he),if_neg hg]
 exact ⟨this,by rw [yhm,this,if_pos rfl],by rw [yhn,this,if_pos rfl]⟩
def zkm (k:Nat) (e l:Dos):List Brch:=(zds k e).flatMap fun a=>(zhf k l).filterMap (brk (zh1 k) e.t l.t a)
theorem yrs {g t1 t2:Int} {a b:Acc} (h1:(a.o==b.o)=true) (h2:decide (b.r < a.r)=true):brk g t1 t2 a b=some ⟨g,t1,t2,a.o,a.a,b.a⟩:=by rw [brk,h1,h2];rfl
theorem ybz {g t1 t2:Int} {a b:Acc} (h1:(a.o==b.o)=false):brk g t1 t2 a b=none:=by rw [brk,h1];rfl
theorem yby {g t1 t2:Int} {a b:Acc} (h2:decide (b.r < a.r)=false):brk g t1 t2 a b=none:=by rw [brk,h2,Bool.and_false];rfl
theorem yk6 {α β:Type} {f:α→Option β} {l:List α} {k:Nat} {b:β} (hk:k < l.length) (h:f l[k]=some b):(l.take (k+1)).filterMap f=(l.take k).filterMap f++ [b]:=by
 rw [List.take_succ_eq_append_getElem hk,List.filterMap_append];simp [h]
theorem ya3 {α β:Type} {f:α→Option β} {l:List α} {k:Nat} (hk:k < l.length) (h:f l[k]=none):(l.take (k+1)).filterMap f=(l.take k).filterMap f:=by
 rw [List.take_succ_eq_append_getElem hk,List.filterMap_append];simp [h]
def zt6 (k:Nat) (e l:Dos) (i:Nat):List Brch:=((zds k e).take i).flatMap fun a=>(zhf k l).filterMap (brk (zh1 k) e.t l.t a)
theorem ypk {k i:Nat} {e l:Dos} (hi:i < (zds k e).length):zt6 k e l (i+1)=zt6 k e l i++(zhf k l).filterMap (brk (zh1 k) e.t l.t (zds k e)[i]):=by
 rw [zt6,List.take_succ_eq_append_getElem hi,List.flatMap_append];simp [zt6]
theorem ylm {k i j:Nat} {e l:Dos} {d:Brch} (hi:i < (zds k e).length) (hj:j < (zhf k l).length) (hd:brk (zh1 k) e.t l.t (zds k e)[i] (zhf k l)[j]=some d):
 ∃rest,zkm k e l=(zt6 k e l i++((zhf k l).take j).filterMap (brk (zh1 k) e.t l.t (zds k e)[i]))++d::rest:=by
 have e1:(zhf k l).filterMap (brk (zh1 k) e.t l.t (zds k e)[i])=((zhf k l).take j).filterMap (brk (zh1 k) e.t l.t (zds k e)[i])++d::((zhf k l).drop (j+1)).filterMap (brk (zh1 k) e.t l.t (zds k e)[i]):=by
  conv=>lhs;rw [←List.take_append_drop j (zhf k l),List.drop_eq_getElem_cons hj]
  rw [List.filterMap_append,List.filterMap_cons,hd]
 refine ⟨((zhf k l).drop (j+1)).filterMap (brk (zh1 k) e.t l.t (zds k e)[i])++((zds k e).drop (i+1)).flatMap (fun a=>(zhf k l).filterMap (brk (zh1 k) e.t l.t a)),?_⟩
 rw [zkm]
 conv=>lhs;rw [←List.take_append_drop i (zds k e),List.drop_eq_getElem_cons hi]
 rw [List.flatMap_append,List.flatMap_cons,e1,zt6]
 simp [List.append_assoc]
theorem yfx (l:List Brch):∀r∈l.map zch,r.all AV.one=true:=by
 intro r hr;obtain ⟨a,_,rfl⟩:=List.mem_map.1 hr;rfl
theorem zyu (d:Dos):x4 Tryz.prog 244 [.agg (zcf d)] [] (fun r h'=>h'= []∧r=zhc d.B):=by
 refine z6 Tryz.func244 rfl rfl rfl ?_
 refine rn ?_;refine z8 rfl (x9 rfl rfl rfl fun b1=> ?_)
 refine rn ?_;refine rq 1 ?_
 exact ⟨rfl,rfl⟩
theorem zyr (d:Dos):x4 Tryz.prog 248 [.agg (zcf d)] [] (fun r h'=>h'= []∧r=zhc d.A):=by
 refine z6 Tryz.func248 rfl rfl rfl ?_
 refine rn ?_;refine z8 rfl (x9 rfl rfl rfl fun b1=> ?_)
 refine rn ?_;refine rq 1 ?_
 exact ⟨rfl,rfl⟩
theorem zvu (k:Nat) (d:Dos):y3 Tryz.prog (yqa k) [.agg (zcf d)] [] (fun r h'=>h'= []∧r=zhc (zds k d)):=by
 rw [yqa,gFn,zds];split
 ·exact y3.of_fun (zyu d)
 ·exact y3.of_fun (zyr d)
theorem zuz (k:Nat) (d:Dos):y3 Tryz.prog (yp9 k) [.agg (zcf d)] [] (fun r h'=>h'= []∧r=zhc (zhf k d)):=by
 rw [yp9,gSn,zhf];split
 ·exact y3.of_fun (zyr d)
 ·exact y3.of_fun (zyu d)
set_option maxHeartbeats 4000000 in
theorem zu4 (h:Hist) (la:Lim 4611686018427387904 h) (s g:Int):x4 Tryz.prog 58 [.agg (x5 h),iv s,iv g] (.glob 0 117 w9:: .glob 3 148 x7:: .glob 5 276 x8:: .glob 6 279 x3:: .glob 2 197 j4:: []) (fun r h'=>h'= .glob 0 117 w9:: .glob 3 148 x7:: .glob 5 276 x8:: .glob 6 279 x3:: .glob 2 197 j4:: []∧r= .tup [zd8 (yhm h s g),iv (yhn h s g),iv (zgh h s g)]):=by
 refine z6 Tryz.func58 rfl rfl rfl ?_
 refine rn ?_;refine z8 rfl (x9 rfl rfl rfl fun b3=> ?_)
 refine rn ?_;refine zb0 4 (fun _=>True) (fun k=>⟨[(15,iv (k:Nat)),(9,iv (giK g k)),(1,iv s),(2,iv g),(3,pZ b3),(14,.agg w9)],.box b3 28 (x5 h):: .glob 0 117 w9:: .glob 3 148 x7:: .glob 5 276 x8:: .glob 6 279 x3:: .glob 2 197 j4:: [],[]⟩) trivial es ?_
 intro k lk _
 refine rn ?_;refine z7 rfl (fun hc16=> ?_) (fun hc16=> ?_)
 ·have hk:k < 4:=by have q:=of_decide_eq_true hc16;omega
  refine zab ?_;refine j9 ?_;refine x6 ?_;refine zan ?_;refine x6 (y5 ?_)
  refine q1 ?_;refine qq rfl rfl (zgk (i:=k) (out:=zvt k) rfl rfl hk (by show k * 3+3≤12;omega) (ykz hk)) ?_
  refine z8 rfl (y7 rfl fun b11=> ?_)
  refine rn ?_;refine z7 rfl (fun hc22=> ?_) (fun hc22=> ?_)
  ·have hg:zh1 k=g:=by simpa using hc22
   refine rn ?_;exact ⟨hk,trivial,by rw [giK,if_pos hg];exact eA⟩
  ·have hg:¬zh1 k=g:=by simpa using hc22
   refine rn ?_;exact ⟨hk,trivial,by rw [giK,if_neg hg];exact eA⟩
 ·have qk:k=4:=by have q:=of_decide_eq_false hc16;omega
  subst qk
  rw [ysz]
  refine rn ?_;refine qv rfl rfl (y4 rfl rfl (y3.qt (y3.of_fun (zyt h la s)) ((pt2 _ _ _ _).trans (.cons _ ((pt2 _ _ _ _).trans (.cons _ ((pt2 _ _ _ _).trans (.cons _ (pt2 _ _ _ _))))))))) ?_
  refine rn ?_;refine z7 rfl (fun hc31=> ?_) (fun hc31=> ?_)
  ·have he:zdh h s≠0:=nzT hc31
   refine rn ?_;exact zgj (.cons _ _ _ _ (.tmp _ _ rfl) (.cons _ _ _ _ (.tmp _ _ rfl) (.cons _ _ _ _ (.tmp _ _ rfl) .nil))) (.trans (.drop [_] _ _) (.trans (zbj 3 121 _) (zbn [] [_,_]))) ⟨rfl,by rw [(zij (g:=g) he).1,(zij (g:=g) he).2.1,(zij (g:=g) he).2.2];rfl⟩
  ·have he:zdh h s=0:=nzF hc31
   refine rn ?_;refine z7 rfl (fun hc35=> ?_) (fun hc35=> ?_)
   ·have hg:zpe g < 0:=of_decide_eq_true hc35
    refine rn ?_;exact zgj (.cons _ _ _ _ (.tmp _ _ rfl) (.cons _ _ _ _ (.tmp _ _ rfl) (.cons _ _ _ _ (.tmp _ _ rfl) .nil))) (.trans (.drop [_] _ _) (.trans (zbj 3 121 _) (zbn [] [_,_]))) ⟨rfl,by rw [(zmu he hg).1,(zmu he hg).2.1,(zmu he hg).2.2];rfl⟩
   ·have hg:¬zpe g < 0:=of_decide_eq_false hc35
    refine rn ?_;exact zgj (.cons _ _ _ _ (.tmp _ _ rfl) (.cons _ _ _ _ (.tmp _ _ rfl) (.cons _ _ _ _ (.tmp _ _ rfl) .nil))) (.drop [_] _ _) ⟨rfl,by rw [(zii he hg).1,(zii he hg).2.1,(zii he hg).2.2,zto he];rfl⟩
theorem yiu (k:Nat) (e l:Dos) (W:List Res):x4 Tryz.prog 69 [iv (k:Int),.agg (zcf e),.agg (zcf l)] W (fun r h'=>∃bi be bl,h'= .box bl 121 (zcf l):: .box be 121 (zcf e):: .box bi 3 [iv (k:Int)]::W∧r= .fn (.func 119) [] [pZ bi,pZ bl,pZ be]):=by
 refine z6 Tryz.func69 rfl rfl rfl ?_
 refine rn ?_;refine z8 rfl (x9 rfl rfl rfl fun b3=> ?_)
 refine z8 rfl (x9 rfl rfl rfl fun b4=> ?_)
 refine z8 rfl (x9 rfl rfl rfl fun b5=> ?_)
 refine rn ?_;exact u7 rfl (.refl _ _) ⟨_,_,_,rfl,rfl⟩
set_option maxHeartbeats 4000000 in
theorem yit (k:Nat) (hk:k < 4) (e l:Dos) (h1:(zds k e).length≤1000000) (h2:(zhf k l).length≤1000000) (y:AV) (bi be bl:Nat) {σ:Type} (p:List Brch→σ→Prop) (q:σ→Prop) (I:List Brch→σ→List Res) (X:σ→List Res) (x0:σ) (hp0:p [] x0) (hy:∀pre d rest x,(zkm k e l)=pre++d::rest→p pre x→y3 Tryz.prog y [.agg (zch d)] (.box bl 121 (zcf l):: .box be 121 (zcf e):: .box bi 3 [iv ((k:Nat):Int)]:: .glob 0 117 w9::I pre x) (fun r h'=>∃x',(r=bv true∧p (pre++ [d]) x'∧h'= .box bl 121 (zcf l):: .box be 121 (zcf e):: .box bi 3 [iv ((k:Nat):Int)]:: .glob 0 117 w9::I (pre++ [d]) x')∨(r=bv false∧q x'∧h'= .box bl 121 (zcf l):: .box be 121 (zcf e):: .box bi 3 [iv ((k:Nat):Int)]:: .glob 0 117 w9::X x'))):x4 Tryz.prog 119 [y,pZ bi,pZ bl,pZ be] (.box bl 121 (zcf l):: .box be 121 (zcf e):: .box bi 3 [iv ((k:Nat):Int)]:: .glob 0 117 w9::I [] x0) (fun r h'=>∃x,(p (zkm k e l) x∧h'= .box bl 121 (zcf l):: .box be 121 (zcf e):: .box bi 3 [iv ((k:Nat):Int)]:: .glob 0 117 w9::I (zkm k e l) x)∨(q x∧h'= .box bl 121 (zcf l):: .box be 121 (zcf e):: .box bi 3 [iv ((k:Nat):Int)]:: .glob 0 117 w9::X x)):=by
 refine z6 Tryz.func119 rfl rfl rfl ?_
 refine x6 (y5 ?_)
 refine q1 ?_;refine qq rfl rfl (q7 (i:=k) rfl rfl (by omega)) ?_
 refine qq rfl rfl (zbl (zh8 rfl (by show 0+k * 3+3≤12;omega)) (show AV.agg _=AV.agg (zvt k) from congrArg AV.agg (by rw [Nat.zero_add];exact ykz hk))) ?_
 refine z8 rfl (y7 rfl fun b5=> ?_)
 refine rn ?_;refine qv rfl rfl (y4 rfl rfl (y3.pure (R:=fun r=>r=zhc (zhf k l)) (zuz k l))) ?_
 refine rn ?_;refine qv rfl rfl (y4 rfl rfl (y3.pure (R:=fun r=>r=zhc (zds k e)) (zvu k e))) ?_
 refine rn ?_;refine zig (zds k e).length (fun i (x:σ)=>p (zt6 k e l i) x) (fun i x=>⟨[(23,iv i),(0,y),(2,pZ bl),(3,pZ be),(5,pZ b5),(6,zhc (zhf k l)),(21,zhc (zds k e)),(22,iv ((zds k e).map accR).length)],.box b5 116 (zvt k):: .box bl 121 (zcf l):: .box be 121 (zcf e):: .box bi 3 [iv ((k:Nat):Int)]:: .glob 0 117 w9::I (zt6 k e l i) x,[]⟩) x0 hp0 es ?_
 intro i x li zi
 refine rn ?_;refine z7 rfl (fun hc24=> ?_) (fun hc24=> ?_)
 ·have hi:=zao hc24
  have ri:=zad (f:=accR) hi
  refine rn ?_;refine z8 rfl (y7 rfl fun b8=> ?_)
  refine rn ?_;refine zig (zhf k l).length (fun j (x:σ)=>p ((zt6 k e l i)++((zhf k l).take j).filterMap (brk (zh1 k) e.t l.t (zds k e)[i])) x) (fun j x=>⟨[(29,iv j),(0,y),(2,pZ bl),(3,pZ be),(5,pZ b5),(6,zhc (zhf k l)),(8,pZ b8),(21,zhc (zds k e)),(22,iv ((zds k e).map accR).length),(23,iv i),(27,zhc (zhf k l)),(28,iv ((zhf k l).map accR).length)],.box b8 178 (accR (zds k e)[i]):: .box b5 116 (zvt k):: .box bl 121 (zcf l):: .box be 121 (zcf e):: .box bi 3 [iv ((k:Nat):Int)]:: .glob 0 117 w9::I ((zt6 k e l i)++((zhf k l).take j).filterMap (brk (zh1 k) e.t l.t (zds k e)[i])) x,[]⟩) x (by simpa using zi) (by simpa using eA) ?_
  intro j x lj zj
  refine rn ?_;refine z7 rfl (fun hc30=> ?_) (fun hc30=> ?_)
  ·have hj:=zao hc30
   have rj:=zad (f:=accR) hj
   refine rn ?_;refine z8 rfl (y7 rfl fun b10=> ?_)
   refine rn ?_;refine y8 (fun hg8_5=> ?_) (fun hg8_5=> ?_)
   ·refine rn ?_;refine y8 (fun hg8_12=> ?_) (fun hg8_12=> ?_)
    ·refine q1 ?_;refine q1 ?_;refine q1 ?_;refine q1 ?_;refine q1 ?_;refine q1 ?_;refine q1 ?_;refine q1 ?_;refine q1 ?_;refine q1 ?_;refine q1 ?_;refine q1 ?_;refine q1 ?_;refine qq rfl rfl (zae (out:= [iv (zh1 k),iv e.t,iv l.t,iv (zds k e)[i].o,iv (zds k e)[i].a,iv (zhf k l)[j].a]) rfl (by rfl)) ?_
     have hbk:=yrs (g:=zh1 k) (t1:=e.t) (t2:=l.t) hg8_5 hg8_12
     obtain ⟨rest,hL⟩:=ylm hi hj hbk
     refine z8 rfl (w8 rfl rfl (y3.fr3 (hy ((zt6 k e l i)++((zhf k l).take j).filterMap (brk (zh1 k) e.t l.t (zds k e)[i])) _ rest x hL zj)) rfl ?_)
     rintro _ _ ⟨_,rfl,x',⟨rfl,hp',rfl⟩|⟨rfl,hq',rfl⟩⟩
     ·refine rn ?_;refine z7 rfl (fun hc62=> ?_) (fun hc62=> ?_)
      ·first|cases hc62|exact absurd hc62 (by decide)|(exfalso;simp_all;done)
      ·refine rn ?_;exact ⟨hj,x',by rw [yk6 hj hbk,←List.append_assoc];exact hp',by rw [yk6 hj hbk,←List.append_assoc];exact eA⟩
     ·refine rn ?_;refine z7 rfl (fun hc62=> ?_) (fun hc62=> ?_)
      ·refine rn ?_;exact zgj .nil (.drop [_,_,_] _ _) ⟨x',.inr ⟨hq',rfl⟩⟩
      ·first|cases hc62|exact absurd hc62 (by decide)|(exfalso;simp_all;done)
    ·refine rn ?_;refine zew rfl ?_;refine rn ?_;exact ⟨hj,x,by rw [ya3 hj (yby hg8_12)];exact zj,by rw [ya3 hj (yby hg8_12)];exact eA⟩
   ·refine rn ?_;refine zew rfl ?_;refine rn ?_;exact ⟨hj,x,by rw [ya3 hj (ybz hg8_5)];exact zj,by rw [ya3 hj (ybz hg8_5)];exact eA⟩
  ·have qj:=zap hc30 lj
   refine rn ?_;have e1:((zt6 k e l i)++((zhf k l).take j).filterMap (brk (zh1 k) e.t l.t (zds k e)[i]))=(zt6 k e l (i+1)):=by rw [ypk hi,qj,List.take_length]
   exact ⟨hi,x,by rw [←e1];exact zj,by rw [←e1];exact eA⟩
 ·have qi:=zap hc24 li
  refine rn ?_;have e1:(zt6 k e l i)=(zkm k e l):=by rw [qi,zt6,List.take_length];rfl
  exact ze2 .nil (.drop [_] _ _) ⟨x,.inl ⟨by rw [←e1];exact zi,by rw [←e1]⟩⟩
end Go.Proofs
set_option maxRecDepth 100000
namespace Go.Proofs.YtcaijocpofcbdaaGreatDoor
open Go Go.Ab Go.H Go.ChangeShapes Go.WideShapes Go.ChangeAt Go.RowKit
def zo9:List (String×DataW Unit):= [("unicode/utf8.acceptRanges",Rows.laid_unicode_utf8_acceptRanges),("yardarm/history.limits",Rows.laid_yardarm_history_limits),("yardarm/rules.asks",Rows.laid_yardarm_rules_asks),("yardarm/session.guards",Rows.laid_yardarm_session_guards),("unicode/utf8.first",Rows.laid_unicode_utf8_first)]
theorem zvq:(zo9.filter fun x=>x.2.handleName?.isNone)=ztr:=by kernel_rfl
theorem ye8 {W:World} (h:laidMetH Tryz.prog zo9 W):laidMet Tryz.prog ztr W:=by
 have:=(laidMetH_iff.1 h).1
 rw [zvq] at this
 exact this
theorem yon {w:World} (h:laidMetH Tryz.prog zo9 w):(Res.glob 2 197 j4).holds w noX:=by
 obtain ⟨g,t,cs,fuel,p,hg,ht,hv,hd⟩:=h.funcs (n:= "yardarm/rules.asks") (d:=ylr) (.tail _ (.tail _ (.head _)))
 obtain rfl:=Option.some.inj ((show Tryz.prog.globalNamed "yardarm/rules.asks" =some 2 by kernel_rfl).symm.trans hg)
 obtain rfl:=Option.some.inj ((show (Tryz.prog.globals[2]?).map (·.type)=some 197 by kernel_rfl).symm.trans ht)
 rw [yb7] at hd
 have c1:Tryz.prog.cellsOf 196=1:=by kernel_rfl
 have c11:Tryz.prog.cellsOf 197=11:=by kernel_rfl
 have hlen:cs.toList.length=11:=by
  obtain ⟨_,_,_,_,hl,_⟩:=DataW.trod_array Tryz.underlying197 hd
  rw [hl,c11]
 unfold World.var? at hv
 rw [hg] at hv
 simp only [Option.bind_some] at hv
 split at hv
 ·rename_i c T0 fr hh
  cases hv
  refine zvs hh (by rw [show j4.length=11 from rfl];simpa using hlen.symm) fun j h1 h2=> ?_
  cases j with
  |zero=>exact .any _
  |succ k=>
   have hk:k < 10:=by have:j4.length=11:=rfl;omega
   obtain ⟨b,r,hn,hone,ha⟩:=yf5 k hk
   obtain ⟨f',d,q,e1,e2⟩:=Lib.array_elem Tryz.underlying197 hd (k+1) (by omega)
   have e1':d= .held (b::r):=by
    rw [List.getElem?_cons_succ,List.getElem?_map,List.getElem?_drop,Nat.add_comm 1 k,hn] at e1
    exact (Option.some.inj e1).symm
   subst e1'
   rw [c1,Nat.mul_one,List.drop_eq_getElem_cons (by simpa using h2),List.take_succ_cons,List.take_zero] at e2
   have:=func_of_trod (f0:=fnA.getD k 0) Tryz.underlying196 hone e2
   rw [Array.getElem_toList] at this
   rw [this,show j4[k+1]= .fn (.func (fnA.getD k 0)) [] [] from Option.some.inj ((List.getElem?_eq_getElem h1).symm.trans ha)]
   exact zi5 _ _
 ·cases hv
def nmI:List UInt8:= [121,97,114,100,97,114,109,47,115,101,115,115,105,111,110,46,100,111,105,110,103,115,41,46,105,110,115,116,97,108,108]
def nmR:List UInt8:= [121,97,114,100,97,114,109,47,115,101,115,115,105,111,110,46,100,111,105,110,103,115,41,46,114,101,97,100]
def yr4:DataW Unit:=match (Rows.laid_yardarm_session_guards:DataW Unit) with| .iface _ d=>d|d=>d
theorem yfe:yr4.funcsOut= .agg [.agg [.lit (.int .i64 1),.held (40::nmI),.held (40::nmR)],.agg [.lit (.int .i64 2),.held (40::nmR),.held (40::nmR)],.agg [.lit (.int .i64 4),.held (40::nmI),.held (40::nmI)],.agg [.lit (.int .i64 8),.held (40::nmR),.held (40::nmI)]]:=by kernel_rfl
theorem yp5:((List.range Tryz.prog.funcs.size).filter fun f=>(Tryz.prog.funcs[f]?).any (·.name.toUTF8.data.toList==40::nmI))= [244]:=by kernel_rfl
theorem yp4:((List.range Tryz.prog.funcs.size).filter fun f=>(Tryz.prog.funcs[f]?).any (·.name.toUTF8.data.toList==40::nmR))= [248]:=by kernel_rfl
theorem zpd {w:World} {base:Nat} {sp:Nat→Bool} {fuel:Nat} {cs:List Value} {z:Int} {r1 r2:List UInt8} {f1 f2:FuncId} {q:List MemPlace} (h1:((List.range Tryz.prog.funcs.size).filter fun f=>(Tryz.prog.funcs[f]?).any (·.name.toUTF8.data.toList==40::r1))= [f1]) (h2:((List.range Tryz.prog.funcs.size).filter fun f=>(Tryz.prog.funcs[f]?).any (·.name.toUTF8.data.toList==40::r2))= [f2])
 (h:DataW.trod (funcToken Tryz.prog) Tryz.prog w base sp true fuel 116 cs=some (.agg [.lit (.int .i64 z),.held (40::r1),.held (40::r2)],q)):cs= [.int .i64 z,.func (.func f1) #[] #[],.func (.func f2) #[] #[]]:=by
 obtain ⟨xs,n,_,hx,hl,hlen,hf⟩:=DataW.trod_struct Tryz.underlying116 h
 rw [show Tryz.prog.cellsOf 116=3 by kernel_rfl] at hl
 match xs,hlen with
 | [y0,y1,y2],_=>
   have hx:=congrArg Prod.fst hx
   simp only [List.map_cons,List.map_nil,DataW.agg.injEq,List.cons.injEq,and_true] at hx
   obtain ⟨x0,x1,x2⟩:=hx
   match cs,hl,hf with
   | [v0,v1,v2],_,hf=>
     have f0:DataW.trod (funcToken Tryz.prog) Tryz.prog w base sp true n 3 (([v0,v1,v2].drop 0).take (Tryz.prog.cellsOf 3))= [y0,y1,y2][0]? :=hf 0 _ rfl
     have f1':DataW.trod (funcToken Tryz.prog) Tryz.prog w base sp true n 115 (([v0,v1,v2].drop 1).take (Tryz.prog.cellsOf 115))= [y0,y1,y2][1]? :=hf 1 _ rfl
     have f2':DataW.trod (funcToken Tryz.prog) Tryz.prog w base sp true n 115 (([v0,v1,v2].drop 2).take (Tryz.prog.cellsOf 115))= [y0,y1,y2][2]? :=hf 2 _ rfl
     rw [show Tryz.prog.cellsOf 3=1 by kernel_rfl] at f0
     rw [show Tryz.prog.cellsOf 115=1 by kernel_rfl] at f1' f2'
     simp only [List.drop_zero,List.drop_succ_cons,List.take_succ_cons,List.take_zero,List.getElem?_cons_zero,List.getElem?_cons_succ] at f0 f1' f2'
     obtain ⟨z',e0,ey,_⟩:=DataW.trod_int Tryz.underlying3 f0
     rw [ey] at x0
     simp only [DataW.lit.injEq,Lit.int.injEq,true_and] at x0
     subst x0
     simp only [List.cons.injEq,and_true] at e0
     rw [e0,func_of_trod (v:=v1) (f0:=f1) Tryz.underlying115 h1 (q:=y1.2) (by rw [x1];exact f1'),func_of_trod (v:=v2) (f0:=f2) Tryz.underlying115 h2 (q:=y2.2) (by rw [x2];exact f2')]
def guaV:List Value:= [.int .i64 1,.func (.func 244) #[] #[],.func (.func 248) #[] #[],.int .i64 2,.func (.func 248) #[] #[],.func (.func 248) #[] #[],.int .i64 4,.func (.func 244) #[] #[],.func (.func 244) #[] #[],.int .i64 8,.func (.func 248) #[] #[],.func (.func 244) #[] #[]]
theorem yrb {w:World} (h:laidMetH Tryz.prog zo9 w):(Res.glob 0 117 w9).holds w noX:=by
 obtain ⟨g,t,cs,fuel,p,hg,ht,hv,hd⟩:=h.funcs (n:= "yardarm/session.guards") (d:=yr4) (.tail _ (.tail _ (.tail _ (.head _))))
 obtain rfl:=Option.some.inj ((show Tryz.prog.globalNamed "yardarm/session.guards" =some 0 by kernel_rfl).symm.trans hg)
 obtain rfl:=Option.some.inj ((show (Tryz.prog.globals[0]?).map (·.type)=some 117 by kernel_rfl).symm.trans ht)
 rw [yfe] at hd
 have c3:Tryz.prog.cellsOf 116=3:=by kernel_rfl
 have c12:Tryz.prog.cellsOf 117=12:=by kernel_rfl
 have hlen:cs.toList.length=4 * 3:=by
  obtain ⟨_,_,_,_,hl,_⟩:=DataW.trod_array Tryz.underlying117 hd
  rw [hl,c12]
 have hcs:cs.toList=guaV:=by
  refine (ybs 3 4 cs.toList (fun i=>(guaV.drop (i * 3)).take 3) hlen fun i hi=> ?_).trans rfl
  obtain ⟨f',d,q,e1,e2⟩:=Lib.array_elem Tryz.underlying117 hd i hi
  rw [c3] at e2
  match i,hi with
  |0,_=>obtain rfl:=Option.some.inj e1;exact zpd yp5 yp4 e2
  |1,_=>obtain rfl:=Option.some.inj e1;exact zpd yp4 yp4 e2
  |2,_=>obtain rfl:=Option.some.inj e1;exact zpd yp5 yp5 e2
  |3,_=>obtain rfl:=Option.some.inj e1;exact zpd yp4 yp5 e2
 unfold World.var? at hv
 rw [hg] at hv
 simp only [Option.bind_some] at hv
 split at hv
 ·rename_i c T0 fr hh
  cases hv
  have hc:cs=guaV.toArray:=by rw [←hcs]
  subst hc
  refine zvs hh rfl fun j h1 h2=> ?_
  match j,h1 with
  |0,_=>exact .v _
  |1,_=>exact zi5 _ _
  |2,_=>exact zi5 _ _
  |3,_=>exact .v _
  |4,_=>exact zi5 _ _
  |5,_=>exact zi5 _ _
  |6,_=>exact .v _
  |7,_=>exact zi5 _ _
  |8,_=>exact zi5 _ _
  |9,_=>exact .v _
  |10,_=>exact zi5 _ _
  |11,_=>exact zi5 _ _
  |n+12,h1=>exact absurd h1 (by show ¬n+12 < 12;omega)
 ·cases hv
theorem yl1:OO [.glob 0 117 w9,.glob 3 148 x7,.glob 5 276 x8,.glob 6 279 x3,.glob 2 197 j4] noX=noX:=by funext b;simp [OO,u5,noX,Res.own]
theorem zxm {W:World} (h:laidMetH Tryz.prog zo9 W):HRel noX W [.glob 0 117 w9,.glob 3 148 x7,.glob 5 276 x8,.glob 6 279 x3,.glob 2 197 j4]:=by
 have h':=ye8 h
 have h0:=yre (Lib.laidMet.reads h' (.tail _ (.head _)))
 have h1:=yrd (Lib.laidMet.reads h' (.tail _ (.tail _ (.head _))))
 have h2:=yrc (Lib.laidMet.reads h' (.head _))
 refine ⟨by simp [u5,Res.own],fun b hb=>by simp [u5,Res.own] at hb,fun b hb=>hb.elim,fun r hr=> ?_⟩
 rw [yl1]
 simp only [List.mem_cons,List.not_mem_nil,or_false] at hr
 rcases hr with rfl|rfl|rfl|rfl|rfl
 ·exact yrb h
 ·exact h0
 ·exact h1
 ·exact h2
 ·exact yon h
noncomputable def wit50 (os:Os):World:={World.holding Tryz.prog os ⟨#[], #[],[]⟩ with heap:=((World.holding Tryz.prog os ⟨#[], #[],[]⟩).heap.modify 2 (Lay.setRow yrw)).modify 0 (Lay.setRow guaV)}
noncomputable def wit5 (os:Os):World:=(wit50 os).layVars Tryz.prog ztr
theorem yh1 (os:Os):(wit5 os).os=os:=World.layVars_os _ _ _
theorem yc3 (os:Os) (args:Array Value):laidMetH Tryz.prog zo9 ((wit5 os).forCall (fun _ _=>0) ⟨#[],args,[]⟩).memory:=by
 refine laidMetH_of_parts3 (fuel:=8) ?_ (by kernel_rfl) (by kernel_rfl)
 rw [zvq]
 have h:laidMet Tryz.prog ztr (wit5 os):=laidMet_layVars (w0:=wit50 os) (ztr.map (·.1)) [] (by kernel_rfl) (by kernel_rfl) (by kernel_rfl) (by
  rw [show (ztr.filter fun x=> !(ztr.map (·.1)).contains x.1)= [] by kernel_rfl];exact LaidIn.none)
 exact h.of_heap (by simp [World.memory,World.forCall,Input.heap])
end Go.Proofs.YtcaijocpofcbdaaGreatDoor
set_option maxRecDepth 10000
namespace Go.Proofs
open Go Go.Ab
attribute [local irreducible] QR QV OE zcw aw zdw zc3 zb7 za6 thn zg2 zes jch zf8
open Go.H
theorem yrg {k:Nat} (hk:k < 4):w9[0+k * 3+2]? =some (yp9 k):=by
 rcases (by omega:k=0∨k=1∨k=2∨k=3) with rfl|rfl|rfl|rfl <;> rfl
theorem yrh {k:Nat} (hk:k < 4):w9[0+k * 3+1]? =some (yqa k):=by
 rcases (by omega:k=0∨k=1∨k=2∨k=3) with rfl|rfl|rfl|rfl <;> rfl
def yp2 (M:List (Int×Int)) (b:Acc):Bool:=decide (b.r < (zbu b.o M).getD 0)
def ymh (k:Nat) (d:Dos) (M:List (Int×Int)):Bool:=(zhf k d).any (yp2 M)
def zk4 (M:List (Int×Int)) (l:List Acc):List (Int×Int):=l.foldl (fun m a=>zfq a.o (max ((zbu a.o m).getD 0) a.r) m) M
theorem ynx {M:List (Int×Int)} {l:List Acc} {i:Nat} (hi:i < l.length):zk4 M (l.take (i+1))=zfq l[i].o (max ((zbu l[i].o (zk4 M (l.take i))).getD 0) l[i].r) (zk4 M (l.take i)):=by
 rw [zk4,List.take_succ_eq_append_getElem hi,List.foldl_append];rfl
theorem zz2 (o:Int):∀(l:List Acc) (M:List (Int×Int)),(zbu o M).getD 0≤(zbu o (zk4 M l)).getD 0∧∀a∈l,a.o=o→a.r≤(zbu o (zk4 M l)).getD 0
 | [],M=>⟨Int.le_refl _,by simp⟩
 |a::l,M=>by
  obtain ⟨h1,h2⟩:=zz2 o l (zfq a.o (max ((zbu a.o M).getD 0) a.r) M)
  have e:zk4 M (a::l)=zk4 (zfq a.o (max ((zbu a.o M).getD 0) a.r) M) l:=rfl
  rw [zcu] at h1
  by_cases q:a.o=o
  ·subst q
   rw [if_pos rfl,Option.getD_some] at h1
   refine ⟨by rw [e];omega,fun b hb ho=> ?_⟩
   rcases List.mem_cons.1 hb with rfl|hb
   ·rw [e];omega
   ·rw [e];exact h2 b hb ho
  ·rw [if_neg q] at h1
   refine ⟨by rw [e];exact h1,fun b hb ho=> ?_⟩
   rcases List.mem_cons.1 hb with rfl|hb
   ·exact absurd ho q
   ·rw [e];exact h2 b hb ho
def zob (k:Nat) (L:List Dos) (j:Nat) (M:List (Int×Int)):Prop:=∀e∈L.take j,∀a∈zds k e,a.r≤(zbu a.o M).getD 0
theorem yny (k:Nat) (L:List Dos):zob k L 0 []:=fun e he=>by simp at he
theorem ygx {k j:Nat} {L:List Dos} {M:List (Int×Int)} (hM:zob k L j M) (hj:j < L.length):zob k L (j+1) (zk4 M (zds k L[j])):=by
 intro e he a ha
 rw [List.take_succ_eq_append_getElem hj,List.mem_append,List.mem_singleton] at he
 rcases he with he|rfl
 ·have h1:=hM e he a ha
  have h2:=(zz2 a.o (zds k L[j]) M).1
  omega
 ·exact (zz2 a.o _ M).2 a ha rfl
def hdW (k:Nat) (d e:Dos):Option Brch:=(zkm k e d).head?
def brW (k:Nat) (L:List Dos):Nat→List Brch
 |0=> []
 |j+1=>brW k L j++(match L[j]? with|some d=>(L.take j).filterMap (hdW k d)|none=> [])
theorem yli {k j:Nat} {L:List Dos} (hj:j < L.length):brW k L (j+1)=brW k L j++(L.take j).filterMap (hdW k L[j]):=by rw [brW,List.getElem?_eq_getElem hj]
theorem ymg {k j:Nat} {L:List Dos} {M:List (Int×Int)} (hM:zob k L j M) (hj:j < L.length) (hs:ymh k L[j] M=false):brW k L (j+1)=brW k L j:=by
 rw [yli hj]
 have:(L.take j).filterMap (hdW k L[j])= []:=by
  rw [List.filterMap_eq_nil_iff]
  intro e he
  have:zkm k e L[j]= []:=by
   rw [zkm,List.flatMap_eq_nil_iff]
   intro a ha
   rw [List.filterMap_eq_nil_iff]
   intro b hb
   by_cases q:(a.o==b.o)=true
   ·refine yby (decide_eq_false fun hlt=> ?_)
    have h1:=hM e he a ha
    have h2:=List.any_eq_false.1 hs b hb
    rw [yp2,←eq_of_beq q] at h2
    simp only [decide_eq_true_eq] at h2
    omega
   ·exact ybz (by simpa using q)
  rw [hdW,this];rfl
 rw [this,List.append_nil]
theorem yhg {k m:Nat} {L:List Dos}:∀{n},m≤n→∃R,brW k L n=brW k L m++R
 |0,hm=>⟨[],by rw [Nat.le_zero.1 hm,List.append_nil]⟩
 |n+1,hm=>by
  by_cases e:m=n+1
  ·exact ⟨[],by rw [e,List.append_nil]⟩
  ·obtain ⟨R,hR⟩:=yhg (k:=k) (m:=m) (L:=L) (n:=n) (by omega)
   exact ⟨_,by rw [brW,hR,List.append_assoc]⟩
def brP (k:Nat) (L:List Dos) (j:Nat) (d:Dos) (i:Nat):List Brch:=brW k L j++((L.take j).take i).filterMap (hdW k d)
theorem yrv (k:Nat) (L:List Dos) (j:Nat) (d:Dos):brP k L j d 0=brW k L j:=by simp [brP]
theorem ype {k j i:Nat} {L:List Dos} {d:Dos} {b:Brch} {rest:List Brch} (hi:i < (L.take j).length) (h:zkm k (L.take j)[i] d=b::rest):brP k L j d (i+1)=brP k L j d i++ [b]:=by
 rw [brP,yk6 hi (show hdW k d (L.take j)[i]=some b by rw [hdW,h];rfl),brP,List.append_assoc]
theorem ypf {k j i:Nat} {L:List Dos} {d:Dos} (hi:i < (L.take j).length) (h:zkm k (L.take j)[i] d= []):brP k L j d (i+1)=brP k L j d i:=by
 rw [brP,ya3 hi (show hdW k d (L.take j)[i]=none by rw [hdW,h];rfl),brP]
theorem yru {k j i:Nat} {L:List Dos} (hj:j < L.length) (hi:i=(L.take j).length):brP k L j L[j] i=brW k L (j+1):=by
 rw [yli hj,brP,hi,List.take_length]
theorem ypc {k j i:Nat} {L:List Dos} {b:Brch} {rest:List Brch} (hj:j < L.length) (hi:i < (L.take j).length) (h:zkm k (L.take j)[i] L[j]=b::rest):∃R,brW k L L.length=brP k L j L[j] i++b::R:=by
 obtain ⟨R,hR⟩:=yhg (k:=k) (L:=L) (m:=j+1) (n:=L.length) hj
 have e:(L.take j).filterMap (hdW k L[j])=((L.take j).take i).filterMap (hdW k L[j])++b::((L.take j).drop (i+1)).filterMap (hdW k L[j]):=by
  conv=>lhs;rw [←List.take_append_drop i (L.take j),List.drop_eq_getElem_cons hi]
  rw [List.filterMap_append,List.filterMap_cons,hdW,h];rfl
 exact ⟨_,by rw [hR,yli hj,e,brP];simp only [List.append_assoc,List.cons_append];rfl⟩
def hdB (l:List Brch):Brch:=l.headD ⟨0,0,0,0,0,0⟩
theorem y3.fr11 {P:Program} {fv:AV} {args:List AV} {G:List Res} {R:AV→List Res→Prop} {a0 a1 a2 a3 a4 a5 a6 a7 a8 a9 a10:Res} (hc:y3 P fv args G R):y3 P fv args (a0::a1::a2::a3::a4::a5::a6::a7::a8::a9::a10::G) (fun r h'=>∃h'',h'=a0::a1::a2::a3::a4::a5::a6::a7::a8::a9::a10::h''∧R r h''):=hc.frL [a0,a1,a2,a3,a4,a5,a6,a7,a8,a9,a10]
theorem zi0 (q:Nat) (A B:List Res) (dfs:List Nat):(Res.defs q::(A++(B++dfs.map Res.defs))).Perm (A++(B++(q::dfs).map Res.defs)):=by
 rw [←List.append_assoc,←List.append_assoc];exact List.perm_middle.symm
theorem zvf (A B:List Res) (dfs:List Nat):(A++(B++dfs.map Res.defs)).Perm (dfs.map Res.defs++(A++B)):=by
 rw [←List.append_assoc];exact List.perm_append_comm
theorem zrf {full:Bool} (l:List Acc) (fv:AV) (p:Acc→Bool) (G:List Res) (hp:∀a∈l,y3 Tryz.prog fv [.agg (accR a)] G (fun r h'=>h'=G∧r=bv (p a))) (hlen:l.length≤4611686018427387904):x4 Tryz.prog 153 [.list full 3 (l.map accR),fv] G (fun r h'=>h'=G∧r=iv (zb1 p 0 l)):=by
 refine z6 Tryz.func153 rfl rfl rfl ?_
 refine rn ?_;refine u9 (fun k:Nat=>k≤l.length∧zb1 p 0 l=zb1 p k (l.drop k)) (fun k=>⟨[(8,iv k),(7,iv (l.map accR).length),(0,.list full 3 (l.map accR)),(1,fv)],G,[]⟩) (fun k=>l.length - k) 0 ⟨Nat.zero_le _,by simp⟩
  (w7 (.cons _ _ _ rfl (.cons _ _ _ rfl (.cons _ _ _ rfl (.cons _ _ _ rfl (.nil)))))) ?_
 rintro k ⟨hk,hnot⟩
 refine rn ?_;refine z7 rfl (fun hc9=> ?_) (fun hc9=> ?_)
 ·have hk2:k < l.length:=by simpa using hc9
  have hrow:(l.map accR)[k]? =some (accR l[k]):=by simp [hk2]
  have hd:=List.drop_eq_getElem_cons hk2
  refine rn ?_;refine qv rfl rfl (y4 rfl rfl (hp l[k] (by simp))) ?_
  refine rn ?_;refine z7 rfl (fun hc16=> ?_) (fun hc16=> ?_)
  ·refine rn ?_;exact u7 rfl (.refl _ _) ⟨rfl,by rw [hnot,hd,zb1,if_pos hc16];rfl⟩
  ·refine rn ?_;exact ⟨k+1,⟨by omega,by rw [hnot,hd,zb1,if_neg (by simp [hc16])]⟩,(w7 (.cons _ _ _ rfl (.cons _ _ _ rfl (.cons _ _ _ rfl (.cons _ _ _ rfl (.nil)))))),by omega⟩
 ·have hk3:k=l.length:=by
   have:l.length≤k:=by simpa using hc9
   omega
  refine rn ?_;exact u7 rfl (.refl _ _) ⟨rfl,by rw [hnot,hk3,List.drop_length,zb1];rfl⟩
theorem zmj {full:Bool} (l:List Acc) (fv:AV) (p:Acc→Bool) (G:List Res) (hp:∀a∈l,y3 Tryz.prog fv [.agg (accR a)] G (fun r h'=>h'=G∧r=bv (p a))) (hlen:l.length≤4611686018427387904):x4 Tryz.prog 111 [.list full 3 (l.map accR),fv] G (fun r h'=>h'=G∧r=bv (l.any p)):=by
 refine z6 Tryz.func111 rfl rfl rfl ?_
 refine rn ?_;refine qv rfl rfl (y4 rfl rfl (y3.of_fun (zrf l _ p G hp hlen))) ?_
 refine rn ?_;exact u7 rfl (.refl _ _) ⟨rfl,by simp only [←zec p l 0];rfl⟩
theorem ymq (b:Acc) (b4 bm:Nat) (M:List (Int×Int)):x4 Tryz.prog 112 [.agg (accR b),pZ b4] (.box b4 141 [mpv bm]:: .map bm (zac zce (zbz iv M)):: []) (fun r h'=>h'= .box b4 141 [mpv bm]:: .map bm (zac zce (zbz iv M)):: []∧r=bv (yp2 M b)):=by
 refine z6 Tryz.func112 rfl rfl rfl ?_
 refine rn ?_;refine z8 rfl (x9 rfl rfl rfl fun b2=> ?_)
 refine q1 ?_;refine u4 (j9 ?_)
 refine x6 (y5 ?_)
 refine q1 ?_;refine q1 ?_;refine q1 ?_;refine q1 ?_;refine q1 ?_;refine qq rfl rfl (zck (g:=iv) (enc:=zce) (k:=b.o) (0:Int) rfl rfl) ?_
 refine rn ?_;refine rq 1 ?_
 exact ⟨rfl,rfl⟩
set_option maxHeartbeats 4000000 in
theorem ymp (k:Nat) (hk:k < 4) (d:Dos) (h2:(zhf k d).length≤1000000) (bi b4 bm:Nat) (M:List (Int×Int)):x4 Tryz.prog 110 [.agg (zcf d),pZ bi,pZ b4] (.box bi 3 [iv (k:Int)]:: .box b4 141 [mpv bm]:: .map bm (zac zce (zbz iv M)):: .glob 0 117 w9:: []) (fun r h'=>h'= .box bi 3 [iv (k:Int)]:: .box b4 141 [mpv bm]:: .map bm (zac zce (zbz iv M)):: .glob 0 117 w9:: []∧r=bv (ymh k d M)):=by
 refine z6 Tryz.func110 rfl rfl rfl ?_
 refine rn ?_;refine z8 rfl (x9 rfl rfl rfl fun b3=> ?_)
 refine rn ?_;refine j3 7 rfl ?_
 refine dq rfl rfl qrA ?_;refine dq rfl rfl (q7 (i:=k) rfl rfl (by omega)) ?_
 refine dq rfl rfl qrA ?_;refine dq rfl rfl (k8 rfl (yrg hk)) ?_
 refine rn ?_;refine dv rfl rfl (by exact y4 rfl rfl (y3.pure (R:=fun r=>r=zhc (zhf k d)) (zuz k d))) ?_
 refine rn ?_;refine qv rfl rfl (y4 rfl rfl (y3.of_fun (zmj (zhf k d) _ (yp2 M) _ (fun b _=>y3.qt (y3.of_acall (fs:= []) (cs:= [pZ b4]) (ymq b b4 bm M)) ((pt2 _ _ _ _).trans (.cons _ (pt2 _ _ _ _)))) (Nat.le_trans h2 (by decide))))) ?_
 refine rn ?_;refine rq 1 ?_
 exact ⟨rfl,rfl⟩
theorem zyw (k:Nat) (L:List Dos) (W:List Res):x4 Tryz.prog 59 [iv (k:Int),zd8 L] W (fun r h'=>∃bi bl,h'= .box bl 101 [zd8 L]:: .box bi 3 [iv (k:Int)]::W∧r= .fn (.func 109) [] [pZ bi,pZ bl]):=by
 refine z6 Tryz.func59 rfl rfl rfl ?_
 refine rn ?_;refine z8 rfl (x9 rfl rfl rfl fun b2=> ?_)
 refine z8 rfl (x9 rfl rfl rfl fun b3=> ?_)
 refine rn ?_;exact u7 rfl (.refl _ _) ⟨_,_,rfl,rfl⟩
set_option maxHeartbeats 8000000 in
theorem zyv (k:Nat) (hk:k < 4) (L:List Dos) (hL:L.length≤1000000) (hf:∀d∈L,(zds k d).length≤1000000) (hs:∀d∈L,(zhf k d).length≤1000000) (y:AV) (hone:y.cellsOf=some [y]) (bi bl:Nat) {σ:Type} (p:List Brch→σ→Prop) (q:σ→Prop) (I:List Brch→σ→List Res) (X:σ→List Res) (x0:σ) (hp0:p [] x0) (hy:∀pre d rest x,(brW k L L.length)=pre++d::rest→p pre x→y3 Tryz.prog y [.agg (zch d)] (.box bl 101 [zd8 L]:: .box bi 3 [iv ((k:Nat):Int)]:: .glob 0 117 w9::I pre x) (fun r h'=>∃x',(r=bv true∧p (pre++ [d]) x'∧h'= .box bl 101 [zd8 L]:: .box bi 3 [iv ((k:Nat):Int)]:: .glob 0 117 w9::I (pre++ [d]) x')∨(r=bv false∧q x'∧h'= .box bl 101 [zd8 L]:: .box bi 3 [iv ((k:Nat):Int)]:: .glob 0 117 w9::X x'))):x4 Tryz.prog 109 [y,pZ bi,pZ bl] (.box bl 101 [zd8 L]:: .box bi 3 [iv ((k:Nat):Int)]:: .glob 0 117 w9::I [] x0) (fun r h'=>∃x,(p (brW k L L.length) x∧h'= .box bl 101 [zd8 L]:: .box bi 3 [iv ((k:Nat):Int)]:: .glob 0 117 w9::I (brW k L L.length) x)∨(q x∧h'= .box bl 101 [zd8 L]:: .box bi 3 [iv ((k:Nat):Int)]:: .glob 0 117 w9::X x)):=by
 refine z6 Tryz.func109 rfl rfl rfl ?_
 have hyF:∀pre d rest x (W:List Res),(brW k L L.length)=pre++d::rest→p pre x→y3 Tryz.prog y [.agg (zch d)] (.box bl 101 [zd8 L]:: .box bi 3 [iv ((k:Nat):Int)]:: .glob 0 117 w9::(I pre x++W)) (fun r h'=>∃x',(r=bv true∧p (pre++ [d]) x'∧h'= .box bl 101 [zd8 L]:: .box bi 3 [iv ((k:Nat):Int)]:: .glob 0 117 w9::(I (pre++ [d]) x'++W))∨(r=bv false∧q x'∧h'= .box bl 101 [zd8 L]:: .box bi 3 [iv ((k:Nat):Int)]:: .glob 0 117 w9::(X x'++W))):=fun pre d rest x W e hp=>((hy pre d rest x e hp).frame W).mono (by
  rintro _ _ ⟨_,rfl,x',⟨rfl,hp',rfl⟩|⟨rfl,hq',rfl⟩⟩
  ·exact ⟨x',.inl ⟨rfl,hp',rfl⟩⟩
  ·exact ⟨x',.inr ⟨rfl,hq',rfl⟩⟩)
 refine rn ?_;refine z8 rfl (x9 rfl hone rfl fun b3=> ?_)
 refine rn ?_;refine zlk ?_;refine rn ?_;refine z8 rfl (zbg (enc:=zce) rfl fun bm=> ?_)
 refine z8 rfl (y7 rfl fun b4=> ?_)
 refine rn ?_;refine zig L.length (fun j (z:σ×List (Int×Int)×List Nat)=>p (brW k L j) z.1∧zob k L j z.2.1) (fun j z=>⟨[(18,iv j),(1,pZ bi),(2,pZ bl),(3,pZ b3),(4,pZ b4),(5,.fn (.func 110) [] [pZ bi,pZ b4]),(16,zd8 L),(17,iv (L.map zcf).length)],.box b4 141 [mpv bm]:: .map bm (zac zce (zbz iv z.2.1)):: .box b3 175 [y]:: .box bl 101 [zd8 L]:: .box bi 3 [iv ((k:Nat):Int)]:: .glob 0 117 w9::(I (brW k L j) z.1++(z.2.2.map Res.defs)),z.2.2⟩) (x0,[],[]) ⟨hp0,yny k L⟩ (by simp only [List.map_nil,List.append_nil];exact es) ?_
 rintro j ⟨x,M,dfs⟩ lj ⟨hx,hM⟩
 have hx:p (brW k L j) x:=hx
 have hM:zob k L j M:=hM
 show aw _ _ _ _ _ ⟨[(18,iv j),(1,pZ bi),(2,pZ bl),(3,pZ b3),(4,pZ b4),(5,.fn (.func 110) [] [pZ bi,pZ b4]),(16,zd8 L),(17,iv (L.map zcf).length)],.box b4 141 [mpv bm]:: .map bm (zac zce (zbz iv M)):: .box b3 175 [y]:: .box bl 101 [zd8 L]:: .box bi 3 [iv ((k:Nat):Int)]:: .glob 0 117 w9::(I (brW k L j) x++(dfs.map Res.defs)),dfs⟩
 refine rn ?_;refine z7 rfl (fun hc19=> ?_) (fun hc19=> ?_)
 ·have hj:=zao hc19
  have rj:=zad (f:=zcf) hj
  refine rn ?_;refine z8 rfl (y7 rfl fun b7=> ?_)
  refine rn ?_;refine qv rfl rfl (y4 rfl rfl (y3.qt (y3.of_acall (fs:= []) (cs:= [pZ bi,pZ b4]) (ymp k hk L[j] (hs _ (List.getElem_mem hj)) bi b4 bm M)) ((pt5 _ _ _ _ _ _ _).trans (.cons _ ((pt1 _ _ _).trans (.cons _ ((pt1 _ _ _).trans (.cons _ (pt3 _ _ _ _ _))))))))) ?_
  refine rn ?_;refine j3 8 rfl ?_
  refine dq rfl rfl qrA ?_;refine dq rfl rfl (q7 (i:=k) rfl rfl (by omega)) ?_
  refine dq rfl rfl qrA ?_;refine dq rfl rfl (k8 rfl (yrh hk)) ?_
  refine rn ?_;refine dv rfl rfl (by exact y4 rfl rfl (y3.pure (R:=fun r=>r=zhc (zds k L[j])) (zvu k L[j]))) ?_
  refine rn ?_;refine zb0 (zds k L[j]).length (fun _=>True) (fun u=>⟨[(33,iv u),(1,pZ bi),(2,pZ bl),(3,pZ b3),(4,pZ b4),(5,.fn (.func 110) [] [pZ bi,pZ b4]),(6,iv j),(7,pZ b7),(8,bv (ymh k L[j] M)),(16,zd8 L),(17,iv (L.map zcf).length),(18,iv j),(31,zhc (zds k L[j])),(32,iv ((zds k L[j]).map accR).length)],.box b7 121 (zcf L[j]):: .box b4 141 [mpv bm]:: .map bm (zac zce (zbz iv (zk4 M ((zds k L[j]).take u)))):: .box b3 175 [y]:: .box bl 101 [zd8 L]:: .box bi 3 [iv ((k:Nat):Int)]:: .glob 0 117 w9::(I (brW k L j) x++(dfs.map Res.defs)),dfs⟩) trivial es ?_
  intro u lu _
  refine rn ?_;refine z7 rfl (fun hc34=> ?_) (fun hc34=> ?_)
  ·have hu:=zao hc34
   have ru:=zad (f:=accR) hu
   have hfl:=hf _ (List.getElem_mem hj)
   refine rn ?_;refine z8 rfl (y7 rfl fun b10=> ?_)
   first|refine z8 rfl (zai rfl rfl rfl ?_)|refine z8 rfl (zba rfl rfl rfl rfl (Nat.le_of_ble_eq_true rfl) ?_)
   refine u4 (j9 ?_)
   refine y5 ?_;refine q1 ?_;refine q1 ?_;refine q1 ?_;refine q1 ?_;refine q1 ?_;refine q1 ?_;refine qq rfl rfl (zck (g:=iv) (enc:=zce) (k:=(zds k L[j])[u].o) (0:Int) rfl rfl) ?_
   refine rn ?_;refine z8 rfl (zbq (g:=iv) (enc:=zce) (k:=(zds k L[j])[u].o) (v:=max ((zbu (zds k L[j])[u].o (zk4 M ((zds k L[j]).take u))).getD 0) (zds k L[j])[u].r) rfl rfl rfl ?_)
   refine rn ?_;exact ⟨hu,trivial,by rw [ynx hu];exact eA⟩
  ·have qu:=zap hc34 lu
   subst qu
   rw [List.take_length]
   refine rn ?_;refine z7 rfl (fun hc49=> ?_) (fun hc49=> ?_)
   ·have hsw:ymh k L[j] M=false:=by simpa using hc49
    refine rn ?_;have hw:=ymg hM hj hsw
    exact ⟨hj,(x,(zk4 M (zds k L[j])),dfs),⟨by simp only;rw [hw];exact hx,ygx hM hj⟩,by simp only;rw [hw];exact eA⟩
   ·have hsw:ymh k L[j] M=true:=by simpa using hc49
    refine zab ?_;refine j9 ?_;refine x6 (y5 ?_)
    refine q1 ?_;refine q1 ?_;refine qq rfl rfl (za4 (k:=j) rfl rfl (by rw [List.length_map];omega)) ?_
    rw [←List.map_take]
    refine rn ?_;have hx0:=hx
    rw [←yrv k L j L[j]] at hx ⊢
    refine zig (L.take j).length (fun i (z:σ×List Nat)=>p (brP k L j L[j] i) z.1) (fun i z=>⟨[(54,iv i),(1,pZ bi),(2,pZ bl),(3,pZ b3),(4,pZ b4),(5,.fn (.func 110) [] [pZ bi,pZ b4]),(7,pZ b7),(16,zd8 L),(17,iv (L.map zcf).length),(18,iv j),(52,zd8 (L.take j)),(53,iv ((L.take j).map zcf).length)],.box b7 121 (zcf L[j]):: .box b4 141 [mpv bm]:: .map bm (zac zce (zbz iv (zk4 M (zds k L[j])))):: .box b3 175 [y]:: .box bl 101 [zd8 L]:: .box bi 3 [iv ((k:Nat):Int)]:: .glob 0 117 w9::(I (brP k L j L[j] i) z.1++(z.2.map Res.defs)),z.2⟩) (x,dfs) hx es ?_
    clear hx hx0
    rintro i ⟨x,dfs⟩ li hx
    have hx:p (brP k L j L[j] i) x:=hx
    show aw _ _ _ _ _ ⟨[(54,iv i),(1,pZ bi),(2,pZ bl),(3,pZ b3),(4,pZ b4),(5,.fn (.func 110) [] [pZ bi,pZ b4]),(7,pZ b7),(16,zd8 L),(17,iv (L.map zcf).length),(18,iv j),(52,zd8 (L.take j)),(53,iv ((L.take j).map zcf).length)],.box b7 121 (zcf L[j]):: .box b4 141 [mpv bm]:: .map bm (zac zce (zbz iv (zk4 M (zds k L[j])))):: .box b3 175 [y]:: .box bl 101 [zd8 L]:: .box bi 3 [iv ((k:Nat):Int)]:: .glob 0 117 w9::(I (brP k L j L[j] i) x++(dfs.map Res.defs)),dfs⟩
    refine rn ?_;refine z7 rfl (fun hc55=> ?_) (fun hc55=> ?_)
    ·have hi:=zao hc55
     have ri:=zad (f:=zcf) hi
     have hil:=List.length_take_le j L
     refine rn ?_;refine z8 rfl (y7 rfl fun b12=> ?_)
     refine rn ?_;refine z8 rfl (w8 rfl rfl (y3.of_fun (yiu k (L.take j)[i] L[j] _)) rfl ?_)
     rintro _ _ ⟨ci,ce,cl,rfl,rfl⟩
     refine rn ?_;refine zpr (fun pend h''=>(pend=none∧(zkm k (L.take j)[i] L[j])= []∧h''= .box cl 121 (zcf L[j]):: .box ce 121 (zcf (L.take j)[i]):: .box ci 3 [iv (k:Int)]:: .glob 0 117 w9:: .box b12 121 (zcf (L.take j)[i]):: .box b7 121 (zcf L[j]):: .box b4 141 [mpv bm]:: .map bm (zac zce (zbz iv (zk4 M (zds k L[j])))):: .box b3 175 [y]:: .box bl 101 [zd8 L]:: .box bi 3 [iv (k:Int)]::(I (brP k L j L[j] i) x++(dfs.map Res.defs)))∨(pend=some (.exit 6)∧∃b rest x',(zkm k (L.take j)[i] L[j])=b::rest∧p ((brP k L j L[j] i)++ [b]) x'∧h''= .box cl 121 (zcf L[j]):: .box ce 121 (zcf (L.take j)[i]):: .box ci 3 [iv (k:Int)]:: .glob 0 117 w9:: .box b12 121 (zcf (L.take j)[i]):: .box b7 121 (zcf L[j]):: .box b4 141 [mpv bm]:: .map bm (zac zce (zbz iv (zk4 M (zds k L[j])))):: .box b3 175 [y]:: .box bl 101 [zd8 L]:: .box bi 3 [iv (k:Int)]::(I ((brP k L j L[j] i)++ [b]) x'++(dfs.map Res.defs)))∨(pend=some .ret∧∃x',q x'∧h''= .box cl 121 (zcf L[j]):: .box ce 121 (zcf (L.take j)[i]):: .box ci 3 [iv (k:Int)]:: .glob 0 117 w9:: .box b12 121 (zcf (L.take j)[i]):: .box b7 121 (zcf L[j]):: .box b4 141 [mpv bm]:: .map bm (zac zce (zbz iv (zk4 M (zds k L[j])))):: .box b3 175 [y]:: .box bl 101 [zd8 L]:: .box bi 3 [iv (k:Int)]::(X x'++(dfs.map Res.defs)))) rfl (fun fn l q0 lp hlp=> ?_) (fun q0 h'' hK=> ?_) (fun q0 h'' cc hK=> ?_)
     ·suffices hy2:∀pre d' rest z,(zkm k (L.take j)[i] L[j])=pre++d'::rest→(fun (pre:List Brch) (_:Bool×σ)=>pre= []) pre z→y3 Tryz.prog (yv l) [.agg (zch d')] (.box cl 121 (zcf L[j]):: .box ce 121 (zcf (L.take j)[i]):: .box ci 3 [iv (k:Int)]:: .glob 0 117 w9::(fun (_:List Brch) (_:Bool×σ)=>lp .ready none:: .defs q0:: .box b12 121 (zcf (L.take j)[i]):: .box b7 121 (zcf L[j]):: .box b4 141 [mpv bm]:: .map bm (zac zce (zbz iv (zk4 M (zds k L[j])))):: .box b3 175 [y]:: .box bl 101 [zd8 L]:: .box bi 3 [iv (k:Int)]::(I (brP k L j L[j] i) x++(dfs.map Res.defs))) pre z) (fun r h'=>∃z',(r=bv true∧(fun (pre:List Brch) (_:Bool×σ)=>pre= []) (pre++ [d']) z'∧h'= .box cl 121 (zcf L[j]):: .box ce 121 (zcf (L.take j)[i]):: .box ci 3 [iv (k:Int)]:: .glob 0 117 w9::(fun (_:List Brch) (_:Bool×σ)=>lp .ready none:: .defs q0:: .box b12 121 (zcf (L.take j)[i]):: .box b7 121 (zcf L[j]):: .box b4 141 [mpv bm]:: .map bm (zac zce (zbz iv (zk4 M (zds k L[j])))):: .box b3 175 [y]:: .box bl 101 [zd8 L]:: .box bi 3 [iv (k:Int)]::(I (brP k L j L[j] i) x++(dfs.map Res.defs))) (pre++ [d']) z')∨(r=bv false∧(fun z:Bool×σ=>(z.1=true∧(∃b rest,(zkm k (L.take j)[i] L[j])=b::rest)∧p ((brP k L j L[j] i)++ [hdB (zkm k (L.take j)[i] L[j])]) z.2)∨(z.1=false∧q z.2)) z'∧h'= .box cl 121 (zcf L[j]):: .box ce 121 (zcf (L.take j)[i]):: .box ci 3 [iv (k:Int)]:: .glob 0 117 w9::(fun z:Bool×σ=>lp .done (some (bif z.1 then .exit 6 else .ret)):: .defs q0:: .box b12 121 (zcf (L.take j)[i]):: .box b7 121 (zcf L[j]):: .box b4 141 [mpv bm]:: .map bm (zac zce (zbz iv (zk4 M (zds k L[j])))):: .box b3 175 [y]:: .box bl 101 [zd8 L]:: .box bi 3 [iv (k:Int)]::((bif z.1 then I ((brP k L j L[j] i)++ [hdB (zkm k (L.take j)[i] L[j])]) z.2 else X z.2)++(dfs.map Res.defs))) z')) by
       refine x4.mono (x4.perm ((pt2 _ _ _ _).trans (.cons _ ((pt2 _ _ _ _).trans (.cons _ ((pt2 _ _ _ _).trans (.cons _ (pt9 _ _ _ _ _ _ _ _ _ _ _))))))) (yit k hk (L.take j)[i] L[j] (hf _ (List.mem_of_mem_take (List.getElem_mem hi))) (hs _ (List.getElem_mem hj)) (yv l) ci ce cl (fun (pre:List Brch) (_:Bool×σ)=>pre= []) (fun z:Bool×σ=>(z.1=true∧(∃b rest,(zkm k (L.take j)[i] L[j])=b::rest)∧p ((brP k L j L[j] i)++ [hdB (zkm k (L.take j)[i] L[j])]) z.2)∨(z.1=false∧q z.2)) (fun (_:List Brch) (_:Bool×σ)=>lp .ready none:: .defs q0:: .box b12 121 (zcf (L.take j)[i]):: .box b7 121 (zcf L[j]):: .box b4 141 [mpv bm]:: .map bm (zac zce (zbz iv (zk4 M (zds k L[j])))):: .box b3 175 [y]:: .box bl 101 [zd8 L]:: .box bi 3 [iv (k:Int)]::(I (brP k L j L[j] i) x++(dfs.map Res.defs))) (fun z:Bool×σ=>lp .done (some (bif z.1 then .exit 6 else .ret)):: .defs q0:: .box b12 121 (zcf (L.take j)[i]):: .box b7 121 (zcf L[j]):: .box b4 141 [mpv bm]:: .map bm (zac zce (zbz iv (zk4 M (zds k L[j])))):: .box b3 175 [y]:: .box bl 101 [zd8 L]:: .box bi 3 [iv (k:Int)]::((bif z.1 then I ((brP k L j L[j] i)++ [hdB (zkm k (L.take j)[i] L[j])]) z.2 else X z.2)++(dfs.map Res.defs))) (false,x) rfl hy2)) ?_
       rintro _ _ ⟨⟨b,x'⟩,⟨hn,rfl⟩|⟨⟨e1,⟨b0,rest,hn⟩,hp1⟩|⟨e1,hq1⟩,rfl⟩⟩
       ·exact ⟨none,.ready,_,((pt4 _ _ _ _ _ _).trans (.cons _ (pt4 _ _ _ _ _ _))),by simp,.inl ⟨rfl,hn,rfl⟩⟩
       ·have e1:b=true:=e1
        subst e1
        have hd1:hdB (zkm k (L.take j)[i] L[j])=b0:=by rw [hn];rfl
        exact ⟨some (.exit 6),.done,_,((pt4 _ _ _ _ _ _).trans (.cons _ (pt4 _ _ _ _ _ _))),by simp,.inr (.inl ⟨rfl,b0,rest,x',hn,by rw [←hd1];exact hp1,by rw [←hd1];rfl⟩)⟩
       ·have e1:b=false:=e1
        subst e1
        exact ⟨some .ret,.done,_,((pt4 _ _ _ _ _ _).trans (.cons _ (pt4 _ _ _ _ _ _))),by simp,.inr (.inr ⟨rfl,x',hq1,rfl⟩)⟩
      intro pre d' rest z hL hpre
      obtain rfl:pre= []:=hpre
      have hL1:(zkm k (L.take j)[i] L[j])=d'::rest:=hL
      obtain ⟨R,hL2⟩:=ypc hj hi hL1
      have hd1:hdB (zkm k (L.take j)[i] L[j])=d':=by rw [hL1];rfl
      refine y3.perm (pt4 _ _ _ _ _ _) (y3.ventE ?_)
      refine zet hlp rfl rfl ?_
      refine rn ?_;refine z8 rfl (y7 rfl fun b13=> ?_)
      refine rn ?_;refine ⟨[(13,pZ b13),(3,pZ b3)],.box b13 36 (zch d'):: .box cl 121 (zcf L[j]):: .box ce 121 (zcf (L.take j)[i]):: .box ci 3 [iv (k:Int)]:: .glob 0 117 w9:: .defs q0:: .box b12 121 (zcf (L.take j)[i]):: .box b7 121 (zcf L[j]):: .box b4 141 [mpv bm]:: .map bm (zac zce (zbz iv (zk4 M (zds k L[j])))):: .box b3 175 [y]:: .box bl 101 [zd8 L]:: .box bi 3 [iv (k:Int)]::(I (brP k L j L[j] i) x++(dfs.map Res.defs)),v6 (za0 (pt1 _ _ _)) es,?_⟩
      refine zan ?_;refine x6 ?_;refine x6 (y5 ?_)
      refine q1 ?_;refine q1 ?_;refine z8 rfl (w8 rfl rfl (y3.perm (.cons _ (.cons _ (.cons _ (.cons _ (.cons _ ((pt1 _ _ _).trans (.cons _ ((pt1 _ _ _).trans (.cons _ ((pt1 _ _ _).trans (.cons _ ((pt1 _ _ _).trans (.cons _ ((pt1 _ _ _).trans (.cons _ ((pt1 _ _ _).trans (.cons _ ((pt1 _ _ _).trans (.cons _ (pt1 _ _ _)))))))))))))))))))) (y3.fr11 (hyF (brP k L j L[j] i) d' R x (dfs.map Res.defs) hL2 hx))) rfl ?_)
      rintro _ _ ⟨_,rfl,x',⟨rfl,hp',rfl⟩|⟨rfl,hq',rfl⟩⟩
      ·refine rn ?_;refine z7 rfl (fun hc66=> ?_) (fun hc66=> ?_)
       ·first|cases hc66|exact absurd hc66 (by decide)|(exfalso;simp_all;done)
       ·refine rn ?_;exact zor (.refl _) ⟨_,_,.trans (.perm ((pt1 _ _ _).trans (.cons _ ((pt1 _ _ _).trans (.cons _ ((pt1 _ _ _).trans (.cons _ ((pt1 _ _ _).trans (.cons _ (pt9 _ _ _ _ _ _ _ _ _ _ _))))))))) _) (.drop [_] _ _),(true,x'),.inr ⟨rfl,.inl ⟨rfl,⟨_,_,hL1⟩,by rw [hd1];exact hp'⟩,by rw [hd1];rfl⟩⟩
      ·refine rn ?_;refine z7 rfl (fun hc66=> ?_) (fun hc66=> ?_)
       ·refine rn ?_;exact zoq (.refl _) ⟨_,_,.trans (.perm ((pt1 _ _ _).trans (.cons _ ((pt1 _ _ _).trans (.cons _ ((pt1 _ _ _).trans (.cons _ ((pt1 _ _ _).trans (.cons _ (pt9 _ _ _ _ _ _ _ _ _ _ _))))))))) _) (.drop [_] _ _),(false,x'),.inr ⟨rfl,.inr ⟨rfl,hq'⟩,rfl⟩⟩
       ·first|cases hc66|exact absurd hc66 (by decide)|(exfalso;simp_all;done)
     ·obtain ⟨_,hFE,rfl⟩|⟨hc',_⟩|⟨hc',_⟩:=hK
      rotate_left
      ·cases hc'
      ·cases hc'
      refine rn ?_;exact ⟨hi,(x,q0::dfs),by simp only;rw [ypf hi hFE];exact hx,by simp only;rw [ypf hi hFE];exact v6 (za0 ((List.Perm.cons _ (.cons _ (.cons _ (.cons _ ((pt1 _ _ _).trans (.cons _ ((pt1 _ _ _).trans (.cons _ ((pt1 _ _ _).trans (.cons _ ((pt1 _ _ _).trans (.cons _ ((pt1 _ _ _).trans (.cons _ ((pt1 _ _ _).trans (.cons _ (pt1 _ _ _))))))))))))))))).trans (zi0 _ [_,_,_,_,_,_,_,_,_,_,_] _ _))) (v6 (zco (h1:= [_,_,_,_])) es)⟩
     ·obtain ⟨hc',_⟩|⟨hc',b,rest,x',hFE,hpp,rfl⟩|⟨hc',x',hqq,rfl⟩:=hK
      ·cases hc'
      ·obtain rfl:cc= .exit 6:=by simpa using hc'
       refine rn ?_;exact ⟨hi,(x',q0::dfs),by simp only;rw [ype hi hFE];exact hpp,by simp only;rw [ype hi hFE];exact v6 (za0 ((List.Perm.cons _ (.cons _ (.cons _ (.cons _ ((pt1 _ _ _).trans (.cons _ ((pt1 _ _ _).trans (.cons _ ((pt1 _ _ _).trans (.cons _ ((pt1 _ _ _).trans (.cons _ ((pt1 _ _ _).trans (.cons _ ((pt1 _ _ _).trans (.cons _ (pt1 _ _ _))))))))))))))))).trans (zi0 _ [_,_,_,_,_,_,_,_,_,_,_] _ _))) (v6 (zco (h1:= [_,_,_,_])) es)⟩
      ·obtain rfl:cc= .ret:=by simpa using hc'
       refine rn ?_;refine ⟨fun l h=>(by cases h),?_⟩
       exact ziw (.cons _ (zvf [_,_,_,_,_,_,_,_,_,_,_] _ dfs)) .nil (.trans (.perm (.cons _ (.cons _ (.cons _ ((pt1 _ _ _).trans (.cons _ ((pt1 _ _ _).trans (.cons _ ((pt1 _ _ _).trans (.cons _ ((pt1 _ _ _).trans (.cons _ ((pt1 _ _ _).trans (.cons _ ((pt1 _ _ _).trans (.cons _ (pt1 _ _ _)))))))))))))))) _) (.drop [_,_,_,_,_,_,_,_] _ _)) ⟨x',.inr ⟨hqq,rfl⟩⟩
    ·have qi:=zap hc55 li
     refine rn ?_;have hw:=yru (k:=k) hj qi
     exact ⟨hj,(x,(zk4 M (zds k L[j])),dfs),⟨by simp only;rw [←hw];exact hx,ygx hM hj⟩,by simp only;rw [←hw];exact eA⟩
 ·have qj:=zap hc19 lj
  subst qj
  refine rn ?_;refine ⟨fun l h=>(by cases h),?_⟩
  exact yi7 (zvf [_,_,_,_,_,_] _ dfs) .nil (.drop [_,_,_] _ _) ⟨x,.inl ⟨hx,rfl⟩⟩
end Go.Proofs
