/- The walks of swapRangeCmpFunc, rotateCmpFunc, insertionSortCmpFunc. Conditions: none. -/
import Derived.Test.YtcaijocpofcbdaaGreatDoorSAsH
import Derived.ChangeArms
set_option linter.unusedSectionVars false
set_option linter.unusedSimpArgs false
set_option linter.unusedVariables false
set_option maxRecDepth 10000
namespace Go.Proofs
open Go Go.Ab
attribute [local irreducible] QR QV OE zb4 aw zcn zby zbe zaj thn ze7 zdh jch zeh
open Go.H
def zzt (cv:AV):Prop:=∀x y:zh4,z8 Tryz.prog cv [.agg (zbg x),.agg (zbg y)] [] (fun r h'=>h'= []∧r=iv (zbu x y))
set_option maxHeartbeats 4000000 in
theorem zg6 (s:SV) (l:List zh4) (a b n:Nat) (cv:AV) (h1:a+n≤b) (h2:b+n≤l.length) (hl:l.length≤1000000000):x3 Tryz.prog 228 [.v s.v,iv (a:Int),iv (b:Int),iv (n:Int),cv] [.row s.v 3 178 ((l).map zbg)] (fun r h'=>h'= [.row s.v 3 178 ((swN l a b n).map zbg)]∧r= .tup []):=by
 refine z6 Tryz.func228 rfl rfl rfl ?_
 refine rn ?_;refine zaw n (fun _=>True) (fun k=>⟨[(10,iv (k:Int)),(0,.v s.v),(1,iv (a:Int)),(2,iv (b:Int)),(3,iv (n:Int))],.row s.v 3 178 ((swN l a b k).map zbg):: [],[]⟩) trivial es ?_
 intro k lk _
 refine rn ?_;refine y3 rfl (fun hc13=> ?_) (fun hc13=> ?_)
 ·have hk:k < n:=by simpa using hc13
  obtain ⟨vx,hx⟩:∃v,(swN l a b k)[a+k]? =some v:=⟨_,List.getElem?_eq_getElem (by rw [zi1];omega)⟩
  obtain ⟨vy,hy⟩:∃v,(swN l a b k)[b+k]? =some v:=⟨_,List.getElem?_eq_getElem (by rw [zi1];omega)⟩
  have hxy:a+k≠b+k:=by omega
  refine zad ?_;refine rn0 ?_;refine x8 ?_;refine zac ?_;refine ziv 22 [21] [] [12,13,18,19,20] (fun he=>True) rfl rfl rfl trivial ?_
  refine jq rfl (fun he hC=>by replace hC:=hC.2;exact qrA) ?_
  refine jq rfl (fun he hC=>by replace hC:=hC.2;exact qrA) ?_
  refine jq rfl (fun he hC=>by replace hC:=hC.2;exact qrA) ?_
  refine jq rfl (fun he hC=>by replace hC:=hC.2;exact qrA) ?_
  refine jq rfl (fun he hC=>by replace hC:=hC.2;exact qrA) ?_
  refine jq rfl (fun he hC=>by replace hC:=hC.2;exact qrA) ?_
  refine jq rfl (fun he hC=>by replace hC:=hC.2;exact qrA) ?_
  refine jq rfl (fun he hC=>by replace hC:=hC.2;exact qrA) ?_
  refine jq rfl (fun he hC=>by replace hC:=hC.2;exact qrA) ?_
  refine jq rfl (fun he hC=>by replace hC:=hC.2;exact qrA) ?_
  refine jq rfl (fun he hC=>by replace hC:=hC.2;exact qrA) ?_
  refine jq rfl (fun he hC=>by replace hC:=hC.2;exact qrA) ?_
  refine jq rfl (fun he hC=>by obtain rfl:=hC.1 rfl;exact q7 (k:=(b+k)) rfl rfl (by rw [List.length_map];exact (zc7 hy))) ?_
  refine jq rfl (fun he hC=>by obtain rfl:=hC.1 rfl;exact u4 (row:=zbg vy) rfl (zbh hy) rfl) ?_
  refine jq rfl (fun he hC=>by replace hC:=hC.2;exact qrA) ?_
  refine jq rfl (fun he hC=>by replace hC:=hC.2;exact qrA) ?_
  refine jq rfl (fun he hC=>by replace hC:=hC.2;exact qrA) ?_
  refine jq rfl (fun he hC=>by replace hC:=hC.2;exact qrA) ?_
  refine jq rfl (fun he hC=>by obtain rfl:=hC.1 rfl;exact q7 (k:=(a+k)) rfl rfl (by rw [List.length_map];exact (zc7 hx))) ?_
  refine jq rfl (fun he hC=>by obtain rfl:=hC.1 rfl;exact u4 (row:=zbg vx) rfl (zbh hx) rfl) ?_
  refine jq rfl (fun he hC=>by obtain rfl:=hC.1 rfl;exact q7 (k:=(a+k)) rfl rfl (by rw [List.length_map];exact (zc7 hx))) ?_
  refine je rfl ?_;refine zxz ?_;refine jce rfl fun u=> ?_
  refine za9 (k:=(a+k)) rfl rfl rfl (zbh hx) rfl (Nat.le_of_ble_eq_true rfl) ⟨.any,_,rfl,trivial,?_⟩
  refine jcn ?_;refine ln ?_;refine qq rfl rfl (q7 (k:=(b+k)) rfl rfl (by rw [List.length_set,List.length_map];exact zc7 hy)) ?_
  refine z7 rfl (za9 (k:=(b+k)) rfl rfl rfl (row:=zbg vy) (by rw [List.getElem?_set_ne hxy];exact zbh hy) rfl (Nat.le_of_ble_eq_true rfl) ?_)
  have hsw:=zia (f:=zbg) hx hy
  refine rn ?_;exact ⟨hk,trivial,by rw [show (swN l a b (k+1)).map zbg=_ from hsw.symm];exact eA⟩
 ·have qk:k=n:=by have q:¬(k:Int) < n:=(by simpa using hc13);omega
  refine rn ?_;refine zy4 ?_;rw [qk];exact ⟨rfl,rfl⟩
set_option maxHeartbeats 4000000 in
theorem yaq (s:SV) (l tg:List zh4) (a m b:Nat) (cv:AV) (hR:Rot m (m - a) (b - m) l tg) (h1:a < m) (h2:m < b) (hb:b≤l.length) (hl:l.length≤1000000000):x3 Tryz.prog 226 [.v s.v,iv (a:Int),iv (m:Int),iv (b:Int),cv] [.row s.v 3 178 ((l).map zbg)] (fun r h'=>h'= [.row s.v 3 178 ((tg).map zbg)]∧r= .tup []):=by
 refine z6 Tryz.func226 rfl rfl rfl ?_
 refine x8 (y7 ?_)
 refine q1 ?_;refine q1 ?_;refine qq rfl rfl (za0 (j8 rfl rfl rfl (by omega)) (show iv _=iv ((m - a:Nat):Int) from congrArg iv (by omega))) ?_
 refine q1 ?_;refine u2 (j7 ?_)
 refine x8 (y7 ?_)
 refine q1 ?_;refine q1 ?_;refine qq rfl rfl (za0 (j8 rfl rfl rfl (by omega)) (show iv _=iv ((b - m:Nat):Int) from congrArg iv (by omega))) ?_
 refine rn ?_;refine zcu (fun x:Nat×Nat×List zh4=>Rot m x.1 x.2.1 x.2.2 tg∧1≤x.1∧1≤x.2.1∧x.2.2.length=l.length) (fun x=>⟨[(10,iv (x.1:Int)),(11,iv (x.2.1:Int)),(0,.v s.v),(2,iv (m:Int)),(4,cv)],.row s.v 3 178 ((x.2.2).map zbg):: [],[]⟩) (fun x=>x.1+x.2.1) (m - a,b - m,l) ⟨hR,by show 1≤m - a;omega,by show 1≤b - m;omega,rfl⟩ es ?_
 rintro ⟨i,j,c⟩ ⟨hr,hi,hj,hcl⟩
 simp only at hr hi hj hcl
 have hrl:=yar hr
 show aw _ _ _ _ _ ⟨[(10,iv (i:Int)),(11,iv (j:Int)),(0,.v s.v),(2,iv (m:Int)),(4,cv)],.row s.v 3 178 ((c).map zbg):: [],[]⟩
 refine rn ?_;refine y3 rfl (fun hc20=> ?_) (fun hc20=> ?_)
 ·have hne:i≠j:=by have q:¬(i:Int)=j:=(by simpa using hc20);omega
  refine rn ?_;refine y3 rfl (fun hc23=> ?_) (fun hc23=> ?_)
  ·have hlt:j < i:=by have q:(i:Int) > j:=(by simpa using hc23);omega
   refine x8 (y7 ?_)
   refine q1 ?_;refine q1 ?_;refine q1 ?_;refine qq rfl rfl (za0 (j8 rfl rfl rfl (by omega)) (show iv _=iv ((m - i:Nat):Int) from congrArg iv (by omega))) ?_
   refine rn ?_;refine z7 rfl (w7 rfl rfl (z8.of_fun (zg6 s c (m - i) m j cv (by omega) (by omega) (by omega))) rfl ?_)
   rintro _ _ ⟨rfl,rfl⟩
   refine u2 (j7 ?_)
   refine y7 ?_;refine q1 ?_;refine q1 ?_;refine qq rfl rfl (za0 (j8 rfl rfl rfl (by omega)) (show iv _=iv ((i - j:Nat):Int) from congrArg iv (by omega))) ?_
   refine rn ?_;exact ⟨(i - j,j,swN c (m - i) m j),⟨ydw hr hlt,by simp only;omega,hj,by rw [zi1];exact hcl⟩,eA,by simp only;omega⟩
  ·have hlt:i < j:=by have q:¬(i:Int) > j:=(by simpa using hc23);omega
   refine x8 (y7 ?_)
   refine q1 ?_;refine q1 ?_;refine q1 ?_;refine qq rfl rfl (za0 (j8 rfl rfl rfl (by omega)) (show iv _=iv ((m - i:Nat):Int) from congrArg iv (by omega))) ?_
   refine q1 ?_;refine q1 ?_;refine q1 ?_;refine q1 ?_;refine qq rfl rfl (za0 (j8 rfl rfl rfl (by omega)) (show iv _=iv ((m+j - i:Nat):Int) from congrArg iv (by omega))) ?_
   refine rn ?_;refine z7 rfl (w7 rfl rfl (z8.of_fun (zg6 s c (m - i) (m+j - i) i cv (by omega) (by omega) (by omega))) rfl ?_)
   rintro _ _ ⟨rfl,rfl⟩
   refine u2 (j7 ?_)
   refine y7 ?_;refine q1 ?_;refine q1 ?_;refine qq rfl rfl (za0 (j8 rfl rfl rfl (by omega)) (show iv _=iv ((j - i:Nat):Int) from congrArg iv (by omega))) ?_
   refine rn ?_;exact ⟨(i,j - i,swN c (m - i) (m+j - i) i),⟨ydv hr hlt,hi,by simp only;omega,by rw [zi1];exact hcl⟩,eA,by simp only;omega⟩
 ·have hij:i=j:=by have q:(i:Int)=j:=(by simpa using hc20);omega
  subst hij
  refine zfe ?_;refine zf7 ?_;refine zf7 ?_;refine zc0 ?_;refine j7 ?_;refine y7 ?_;refine q1 ?_;refine q1 ?_;refine q1 ?_;refine qq rfl rfl (za0 (j8 rfl rfl rfl (by omega)) (show iv _=iv ((m - i:Nat):Int) from congrArg iv (by omega))) ?_
  refine rn ?_;refine z7 rfl (w7 rfl rfl (z8.of_fun (zg6 s c (m - i) m i cv (by omega) (by omega) (by omega))) rfl ?_)
  rintro _ _ ⟨rfl,rfl⟩
  refine rn ?_;refine zy4 ?_;rw [ydx hr];exact ⟨rfl,rfl⟩
set_option maxHeartbeats 4000000 in
theorem zuj (s:SV) (P M Z:List zh4) (a b:Nat) (cv:AV) (hc:zzt cv) (hP:P.length=a) (hM:a+M.length=b) (hl:(P++(M++Z)).length≤1000000000):x3 Tryz.prog 215 [.v s.v,iv (a:Int),iv (b:Int),cv] [.row s.v 3 178 ((P++(M++Z)).map zbg)] (fun r h'=>h'= [.row s.v 3 178 ((P++(isL zbu M++Z)).map zbg)]∧r= .tup []):=by
 refine z6 Tryz.func215 rfl rfl rfl ?_
 simp only [List.length_append] at hl
 refine rn ?_;refine zaw M.length (fun _=>True) (fun k=>⟨[(8,iv ((a+1+k:Nat):Int)),(0,.v s.v),(1,iv (a:Int)),(2,iv (b:Int)),(3,cv)],.row s.v 3 178 ((P++(isL zbu (M.take (k+1))++(M.drop (k+1)++Z))).map zbg):: [],[]⟩) trivial (by rw [yb0];exact es) ?_
 intro k lk _
 refine rn ?_;refine y3 rfl (fun hc14=> ?_) (fun hc14=> ?_)
 ·have hk:k+1 < M.length:=by have q:((a+1+k:Nat):Int) < b:=(by simpa using hc14);omega
  have hS:(isL zbu (M.take (k+1))).Pairwise (LeC zbu):=(zla zv3 _).1
  have hSl:(isL zbu (M.take (k+1))).length=k+1:=by rw [zgc,List.length_take];omega
  have e0:P++((isL zbu (M.take (k+1)))++(M.drop (k+1)++Z))=P++((isL zbu (M.take (k+1))).take (k+1)++M[k+1]::((isL zbu (M.take (k+1))).drop (k+1)++(M.drop (k+1+1)++Z))):=zx0 hSl hk
  obtain ⟨x,hxm⟩:∃x,M[k+1]'hk=x:=⟨_,rfl⟩
  rw [e0,hxm]
  refine rn ?_;refine zcu (fun q:Nat=>q≤(isL zbu (M.take (k+1))).length∧∀z∈(isL zbu (M.take (k+1))).drop q,zbu x z < 0) (fun q=>⟨[(9,iv ((a+q:Nat):Int)),(8,iv ((a+1+k:Nat):Int)),(0,.v s.v),(1,iv (a:Int)),(2,iv (b:Int)),(3,cv)],.row s.v 3 178 ((P++((isL zbu (M.take (k+1))).take q++x::((isL zbu (M.take (k+1))).drop q++(M.drop (k+1+1)++Z)))).map zbg):: [],[]⟩) (fun q=>q) (k+1) ⟨by omega,fun z hz=>absurd hz (by rw [List.drop_eq_nil_of_le (Nat.le_of_eq hSl)];simp)⟩ (by rw [show a+(k+1)=a+1+k by omega];exact es) ?_
  rintro q ⟨hq,hz⟩
  refine rn ?_;refine j5 14 rfl ?_
  refine rn ?_;refine zea (fun hg4_3=> ?_) (fun hg4_3=> ?_)
  ·refine dq rfl rfl qrA ?_;refine dq rfl rfl qrA ?_;refine dq rfl rfl qrA ?_;refine dq rfl rfl (q7 (k:=a+q) rfl rfl (by rw [List.length_map];exact zc7 (yfb hP hq))) ?_
   refine dq rfl rfl (u4 (row:=zbg x) rfl (zbh (yfb hP hq)) rfl) ?_
   refine dq rfl rfl qrA ?_;refine dq rfl rfl qrA ?_;refine dq rfl rfl (za0 (j8 rfl rfl rfl (by omega)) (show iv _=iv ((a+q - 1:Nat):Int) from congrArg iv (by have h0:=of_decide_eq_true hg4_3;omega))) ?_
   refine dq rfl rfl (q7 (k:=a+q - 1) rfl rfl (by rw [List.length_map];exact zc7 (ygv hP hq (by have h0:=of_decide_eq_true hg4_3;omega)))) ?_
   refine dq rfl rfl (u4 (row:=zbg ((isL zbu (M.take (k+1))).getD (q - 1) x)) rfl (zbh (ygv hP hq (by have h0:=of_decide_eq_true hg4_3;omega))) rfl) ?_
   refine rn ?_;refine qv rfl rfl (y6 rfl rfl (z8.pure (R:=fun r=>r=iv (zbu x ((isL zbu (M.take (k+1))).getD (q - 1) x))) (hc x ((isL zbu (M.take (k+1))).getD (q - 1) x)))) ?_
   refine rn ?_;refine y3 rfl (fun hc34=> ?_) (fun hc34=> ?_)
   ·have hq1:1≤q:=(by have h0:=of_decide_eq_true hg4_3;omega)
    have hlt:zbu x ((isL zbu (M.take (k+1))).getD (q - 1) x) < 0:=of_decide_eq_true hc34
    have hx:=yfb (Z:=(M.drop (k+1+1)++Z)) (x:=x) hP hq
    have hy:=ygv (Z:=(M.drop (k+1+1)++Z)) (x:=x) hP hq hq1
    obtain ⟨v,hv⟩:∃v,((isL zbu (M.take (k+1))).getD (q - 1) x)=v:=⟨_,rfl⟩
    rw [hv] at hy
    have hxy:a+q≠a+q - 1:=by omega
    refine zad ?_;refine rn0 ?_;refine x8 ?_;refine zac ?_;refine ziv 16 [15] [] [8,9,12,13,14] (fun he=>True) rfl rfl rfl trivial ?_
    refine jq rfl (fun he hC=>by replace hC:=hC.2;exact qrA) ?_
    refine jq rfl (fun he hC=>by replace hC:=hC.2;exact qrA) ?_
    refine jq rfl (fun he hC=>by replace hC:=hC.2;exact qrA) ?_
    refine jq rfl (fun he hC=>by replace hC:=hC.2;exact qrA) ?_
    refine jq rfl (fun he hC=>by replace hC:=hC.2;exact za0 (j8 rfl rfl rfl (by omega)) (show iv _=iv ((a+q - 1:Nat):Int) from congrArg iv (by omega))) ?_
    refine jq rfl (fun he hC=>by replace hC:=hC.2;exact qrA) ?_
    refine jq rfl (fun he hC=>by replace hC:=hC.2;exact qrA) ?_
    refine jq rfl (fun he hC=>by replace hC:=hC.2;exact za0 (j8 rfl rfl rfl (by omega)) (show iv _=iv ((a+q - 1:Nat):Int) from congrArg iv (by omega))) ?_
    refine jq rfl (fun he hC=>by obtain rfl:=hC.1 rfl;exact q7 (k:=(a+q - 1)) rfl rfl (by rw [List.length_map];exact (zc7 hy))) ?_
    refine jq rfl (fun he hC=>by obtain rfl:=hC.1 rfl;exact u4 (row:=zbg v) rfl (zbh hy) rfl) ?_
    refine jq rfl (fun he hC=>by replace hC:=hC.2;exact qrA) ?_
    refine jq rfl (fun he hC=>by replace hC:=hC.2;exact qrA) ?_
    refine jq rfl (fun he hC=>by obtain rfl:=hC.1 rfl;exact q7 (k:=(a+q)) rfl rfl (by rw [List.length_map];exact (zc7 hx))) ?_
    refine jq rfl (fun he hC=>by obtain rfl:=hC.1 rfl;exact u4 (row:=zbg x) rfl (zbh hx) rfl) ?_
    refine jq rfl (fun he hC=>by obtain rfl:=hC.1 rfl;exact q7 (k:=(a+q)) rfl rfl (by rw [List.length_map];exact (zc7 hx))) ?_
    refine je rfl ?_;refine zxz ?_;refine jce rfl fun u=> ?_
    refine za9 (k:=(a+q)) rfl rfl rfl (zbh hx) rfl (Nat.le_of_ble_eq_true rfl) ⟨.any,_,rfl,trivial,?_⟩
    refine jcn ?_;refine ln ?_;refine qq rfl rfl (q7 (k:=(a+q - 1)) rfl rfl (by rw [List.length_set,List.length_map];exact zc7 hy)) ?_
    refine z7 rfl (za9 (k:=(a+q - 1)) rfl rfl rfl (row:=zbg v) (by rw [List.getElem?_set_ne hxy];exact zbh hy) rfl (Nat.le_of_ble_eq_true rfl) ?_)
    have hsw:=zia (f:=zbg) hx hy
    refine u2 ?_;refine zje ?_;refine j7 ?_;refine y7 ?_;refine q1 ?_;refine qq rfl rfl (za0 (j8 rfl rfl rfl (by omega)) (show iv _=iv ((a+(q - 1):Nat):Int) from congrArg iv (by omega))) ?_
    refine rn ?_;exact ⟨q - 1,⟨by omega,yb1 hq hq1 hlt hz⟩,by rw [←zuh hP hq hq1,←hsw];exact eA,by omega⟩
   ·have hst:1≤q→¬zbu x ((isL zbu (M.take (k+1))).getD (q - 1) x) < 0:=by first|exact fun _=>of_decide_eq_false hc34|exact fun h1=>absurd (of_decide_eq_false hg4_3) (by omega)
    refine rn ?_;subst hxm
    exact ⟨by omega,trivial,by rw [←zzd zjr hS hk hq hz hst];exact eA⟩
  ·refine rn ?_;refine zpq rfl ?_;have hst:1≤q→¬zbu x ((isL zbu (M.take (k+1))).getD (q - 1) x) < 0:=by first|exact fun _=>of_decide_eq_false hc34|exact fun h1=>absurd (of_decide_eq_false hg4_3) (by omega)
   refine rn ?_;subst hxm
   exact ⟨by omega,trivial,by rw [←zzd zjr hS hk hq hz hst];exact eA⟩
 ·have hk:M.length≤k+1:=by have q:¬((a+1+k:Nat):Int) < b:=(by simpa using hc14);omega
  refine rn ?_;refine zy4 ?_;rw [List.take_of_length_le hk,List.drop_eq_nil_of_le hk];exact ⟨rfl,rfl⟩
set_option maxHeartbeats 4000000 in
theorem yi0 (s:SV) (P R Z:List zh4) (x:zh4) (a m b:Nat) (cv:AV) (hc:zzt cv) (hP:P.length=a) (hm:a+ [x].length=m) (hb:m+R.length=b) (hR:R.Pairwise (LeC zbu)) (hl:(P++([x]++(R++Z))).length≤1000000000):x3 Tryz.prog 216 [.v s.v,iv (a:Int),iv (m:Int),iv (b:Int),cv] [.row s.v 3 178 ((P++([x]++(R++Z))).map zbg)] (fun r h'=>h'= [.row s.v 3 178 ((P++(mrg zbu [x] R++Z)).map zbg)]∧r= .tup []):=by
 refine z6 Tryz.func216 rfl rfl rfl ?_
 simp only [List.length_append] at hl
 refine x8 ?_;refine x8 (y7 ?_)
 refine q1 ?_;refine q1 ?_;refine q1 ?_;refine qq rfl rfl (zgs (c:=true) rfl rfl (congrArg some (beq_iff_eq.2 (by simp at hm;omega)))) ?_
 refine rn ?_;refine y3 rfl (fun hc28=> ?_) (fun hc28=> ?_)
 ·refine rn ?_;refine zcu (fun z:Nat×Nat=>z.1≤z.2∧z.2≤R.length∧(1≤z.1→zbu (R.getD (z.1 - 1) zcv) x < 0)∧(z.2 < R.length→¬zbu (R.getD z.2 zcv) x < 0)) (fun z=>⟨[(10,iv ((m+z.1:Nat):Int)),(11,iv ((m+z.2:Nat):Int)),(0,.v s.v),(1,iv (a:Int)),(2,iv (m:Int)),(3,iv (b:Int)),(4,cv)],.row s.v 3 178 ((P++([x]++(R++Z))).map zbg):: [],[]⟩) (fun z=>z.2 - z.1) (0,R.length) ⟨Nat.zero_le _,Nat.le_refl _,fun h=>absurd h (by simp),fun h=>absurd h (by simp)⟩ (by simp only [Nat.add_zero,hb];exact es) ?_
  rintro ⟨u,v⟩ ⟨huv0,hu0,h1,h2⟩
  simp only at huv0 hu0 h1 h2
  show aw _ _ _ _ _ ⟨[(10,iv ((m+u:Nat):Int)),(11,iv ((m+v:Nat):Int)),(0,.v s.v),(1,iv (a:Int)),(2,iv (m:Int)),(3,iv (b:Int)),(4,cv)],.row s.v 3 178 ((P++([x]++(R++Z))).map zbg):: [],[]⟩
  refine rn ?_;refine y3 rfl (fun hc33=> ?_) (fun hc33=> ?_)
  ·have huv:u < v:=by have q:((m+u:Nat):Int) < ((m+v:Nat):Int):=of_decide_eq_true hc33;omega
   refine zad ?_;refine j7 ?_;refine zac ?_;refine x8 (y7 ?_)
   refine q1 ?_;refine q1 ?_;refine qq rfl rfl (za0 (j8 rfl rfl rfl (by omega)) (show iv _=iv (((m+u)+(m+v):Nat):Int) from congrArg iv (by omega))) ?_
   refine qq rfl rfl (zaz (m:=(((m+u)+(m+v):Nat):Int)) rfl (zh8 (by omega))) ?_
   refine qq rfl rfl (zgr (c:=((((m+u)+(m+v)) / 2:Nat):Int)) rfl rfl (zh9 (by omega)) (by decide)) ?_
   refine qq rfl rfl (zaz (m:=((((m+u)+(m+v)) / 2:Nat):Int)) rfl (zim (by omega))) ?_
   refine rn0 ?_;refine x8 ?_;rw [show (m+u+(m+v)) / 2=m+((u+v) / 2) by omega]
   refine j5 9 rfl ?_
   refine dq rfl rfl qrA ?_;refine dq rfl rfl qrA ?_;refine dq rfl rfl qrA ?_;refine dq rfl rfl (q7 (k:=(m+((u+v) / 2))) rfl rfl (by rw [List.length_map];exact (zc7 (yc4 (L:= [x]) hP hm zcv (by omega) (by omega))))) ?_
   refine dq rfl rfl (u4 (row:=zbg (R.getD (m+((u+v) / 2) - m) zcv)) rfl (zbh (yc4 (L:= [x]) hP hm zcv (by omega) (by omega))) rfl) ?_
   refine dq rfl rfl qrA ?_;refine dq rfl rfl qrA ?_;refine dq rfl rfl (q7 (k:=a) rfl rfl (by rw [List.length_map];exact (zc7 (yc5 (L:= [x]) (R:=R) (Z:=Z) hP zcv (Nat.le_refl a) (by simp))))) ?_
   refine dq rfl rfl (u4 (row:=zbg ([x].getD (a - a) zcv)) rfl (zbh (yc5 (L:= [x]) (R:=R) (Z:=Z) hP zcv (Nat.le_refl a) (by simp))) rfl) ?_
   refine rn ?_;refine qv rfl rfl (y6 rfl rfl (z8.pure (R:=fun r=>r=iv (zbu (R.getD (m+((u+v) / 2) - m) zcv) ([x].getD (a - a) zcv))) (hc (R.getD (m+((u+v) / 2) - m) zcv) ([x].getD (a - a) zcv)))) ?_
   refine rn ?_;refine y3 rfl (fun hc50=> ?_) (fun hc50=> ?_)
   ·have hlt:zbu (R.getD (m+((u+v) / 2) - m) zcv) ([x].getD (a - a) zcv) < 0:=of_decide_eq_true hc50
    rw [show m+((u+v) / 2) - m=((u+v) / 2) by omega,show [x].getD (a - a) zcv=x by rw [Nat.sub_self];rfl] at hlt
    refine y7 ?_;refine q1 ?_;refine qq rfl rfl (za0 (j8 rfl rfl rfl (by omega)) (show iv _=iv ((m+(((u+v) / 2)+1):Nat):Int) from congrArg iv (by omega))) ?_
    refine rn ?_;exact ⟨(((u+v) / 2)+1,v),⟨by simp only;omega,hu0,fun _=>by simp only;rw [Nat.add_sub_cancel];exact hlt,h2⟩,eA,by simp only;omega⟩
   ·have hlt:¬zbu (R.getD (m+((u+v) / 2) - m) zcv) ([x].getD (a - a) zcv) < 0:=of_decide_eq_false hc50
    rw [show m+((u+v) / 2) - m=((u+v) / 2) by omega,show [x].getD (a - a) zcv=x by rw [Nat.sub_self];rfl] at hlt
    refine rn ?_;exact ⟨(u,((u+v) / 2)),⟨by simp only;omega,by simp only;omega,h1,fun _=>hlt⟩,eA,by simp only;omega⟩
  ·have huv:u=v:=by have q:¬((m+u:Nat):Int) < ((m+v:Nat):Int):=of_decide_eq_false hc33;omega
   subst huv
   refine rn ?_;have hu:u≤R.length:=hu0
   refine zaw u (fun _=>True) (fun q=>⟨[(13,iv ((a+q:Nat):Int)),(10,iv ((m+u:Nat):Int)),(0,.v s.v),(1,iv (a:Int)),(2,iv (m:Int)),(3,iv (b:Int)),(4,cv)],.row s.v 3 178 ((P++(R.take q++x::(R.drop q++Z))).map zbg):: [],[]⟩) trivial es ?_
   intro q lq _
   refine x8 ?_;refine x8 (y7 ?_)
   refine q1 ?_;refine q1 ?_;refine qq rfl rfl (za0 (j8 rfl rfl rfl (by omega)) (show iv _=iv ((a+u:Nat):Int) from congrArg iv (by simp at hm;omega))) ?_
   refine rn ?_;refine y3 rfl (fun hc58=> ?_) (fun hc58=> ?_)
   ·have hq:q < u:=by have q0:((a+q:Nat):Int) < ((a+u:Nat):Int):=of_decide_eq_true hc58;omega
    have hx:=yfb (S:=R) (Z:=Z) (x:=x) hP (Nat.le_of_lt (Nat.lt_of_lt_of_le hq hu))
    have hy:=yjh (S:=R) (Z:=Z) (x:=x) hP (Nat.lt_of_lt_of_le hq hu) zcv
    obtain ⟨v2,hv2⟩:∃v,R.getD q zcv=v:=⟨_,rfl⟩
    rw [hv2] at hy
    have hxy:a+q≠a+q+1:=by omega
    refine zad ?_;refine rn0 ?_;refine x8 ?_;refine zac ?_;refine ziv 16 [15] [] [8,9,12,13,14] (fun he=>True) rfl rfl rfl trivial ?_
    refine jq rfl (fun he hC=>by replace hC:=hC.2;exact qrA) ?_
    refine jq rfl (fun he hC=>by replace hC:=hC.2;exact qrA) ?_
    refine jq rfl (fun he hC=>by replace hC:=hC.2;exact qrA) ?_
    refine jq rfl (fun he hC=>by replace hC:=hC.2;exact qrA) ?_
    refine jq rfl (fun he hC=>by replace hC:=hC.2;exact za0 (j8 rfl rfl rfl (by omega)) (show iv _=iv ((a+q+1:Nat):Int) from congrArg iv (by omega))) ?_
    refine jq rfl (fun he hC=>by replace hC:=hC.2;exact qrA) ?_
    refine jq rfl (fun he hC=>by replace hC:=hC.2;exact qrA) ?_
    refine jq rfl (fun he hC=>by replace hC:=hC.2;exact za0 (j8 rfl rfl rfl (by omega)) (show iv _=iv ((a+q+1:Nat):Int) from congrArg iv (by omega))) ?_
    refine jq rfl (fun he hC=>by obtain rfl:=hC.1 rfl;exact q7 (k:=(a+q+1)) rfl rfl (by rw [List.length_map];exact (zc7 hy))) ?_
    refine jq rfl (fun he hC=>by obtain rfl:=hC.1 rfl;exact u4 (row:=zbg v2) rfl (zbh hy) rfl) ?_
    refine jq rfl (fun he hC=>by replace hC:=hC.2;exact qrA) ?_
    refine jq rfl (fun he hC=>by replace hC:=hC.2;exact qrA) ?_
    refine jq rfl (fun he hC=>by obtain rfl:=hC.1 rfl;exact q7 (k:=(a+q)) rfl rfl (by rw [List.length_map];exact (zc7 hx))) ?_
    refine jq rfl (fun he hC=>by obtain rfl:=hC.1 rfl;exact u4 (row:=zbg x) rfl (zbh hx) rfl) ?_
    refine jq rfl (fun he hC=>by obtain rfl:=hC.1 rfl;exact q7 (k:=(a+q)) rfl rfl (by rw [List.length_map];exact (zc7 hx))) ?_
    refine je rfl ?_;refine zxz ?_;refine jce rfl fun u=> ?_
    refine za9 (k:=(a+q)) rfl rfl rfl (zbh hx) rfl (Nat.le_of_ble_eq_true rfl) ⟨.any,_,rfl,trivial,?_⟩
    refine jcn ?_;refine ln ?_;refine qq rfl rfl (q7 (k:=(a+q+1)) rfl rfl (by rw [List.length_set,List.length_map];exact zc7 hy)) ?_
    refine z7 rfl (za9 (k:=(a+q+1)) rfl rfl rfl (row:=zbg v2) (by rw [List.getElem?_set_ne hxy];exact zbh hy) rfl (Nat.le_of_ble_eq_true rfl) ?_)
    have hsw:=zia (f:=zbg) hx hy
    refine u2 ?_;refine zje ?_;refine j7 ?_;refine y7 ?_;refine q1 ?_;refine qq rfl rfl (za0 (j8 rfl rfl rfl (by omega)) (show iv _=iv ((a+(q+1):Nat):Int) from congrArg iv (by omega))) ?_
    refine rn ?_;exact ⟨hq,trivial,by rw [←yht hP (Nat.lt_of_lt_of_le hq hu),←hsw];exact eA⟩
   ·have hq:q=u:=by have q0:¬((a+q:Nat):Int) < ((a+u:Nat):Int):=of_decide_eq_false hc58;omega
    subst hq
    refine rn ?_;refine rqz ?_;rw [zxa zjr hR hu h1 h2];exact ⟨rfl,rfl⟩
 ·first|cases hc28|exact absurd hc28 (by decide)|(exfalso;simp_all;done)
set_option maxHeartbeats 4000000 in
theorem yiz (s:SV) (P L Z:List zh4) (y:zh4) (a m b:Nat) (cv:AV) (hc:zzt cv) (hP:P.length=a) (hm:a+L.length=m) (hb:m+ [y].length=b) (h1L:L.length≠1) (hL:L.Pairwise (LeC zbu)) (hl:(P++(L++([y]++Z))).length≤1000000000):x3 Tryz.prog 216 [.v s.v,iv (a:Int),iv (m:Int),iv (b:Int),cv] [.row s.v 3 178 ((P++(L++([y]++Z))).map zbg)] (fun r h'=>h'= [.row s.v 3 178 ((P++(mrg zbu L [y]++Z)).map zbg)]∧r= .tup []):=by
 refine z6 Tryz.func216 rfl rfl rfl ?_
 simp only [List.length_append] at hl
 refine x8 ?_;refine x8 (y7 ?_)
 refine q1 ?_;refine q1 ?_;refine q1 ?_;refine qq rfl rfl (zgs (c:=false) rfl rfl (congrArg some (beq_eq_false_iff_ne.2 (by omega)))) ?_
 refine rn ?_;refine y3 rfl (fun hc28=> ?_) (fun hc28=> ?_)
 ·first|cases hc28|exact absurd hc28 (by decide)|(exfalso;simp_all;done)
 ·refine zad ?_;refine j7 ?_;refine x8 ?_;refine x8 (y7 ?_)
  refine q1 ?_;refine q1 ?_;refine q1 ?_;refine qq rfl rfl (zgs (c:=true) rfl rfl (congrArg some (beq_iff_eq.2 (by simp at hb;omega)))) ?_
  refine rn ?_;refine y3 rfl (fun hc80=> ?_) (fun hc80=> ?_)
  ·refine rn ?_;refine zcu (fun z:Nat×Nat=>z.1≤z.2∧z.2≤L.length∧(1≤z.1→¬zbu y (L.getD (z.1 - 1) zcv) < 0)∧(z.2 < L.length→zbu y (L.getD z.2 zcv) < 0)) (fun z=>⟨[(14,iv ((a+z.1:Nat):Int)),(15,iv ((a+z.2:Nat):Int)),(0,.v s.v),(1,iv (a:Int)),(2,iv (m:Int)),(3,iv (b:Int)),(4,cv)],.row s.v 3 178 ((P++(L++([y]++Z))).map zbg):: [],[]⟩) (fun z=>z.2 - z.1) (0,L.length) ⟨Nat.zero_le _,Nat.le_refl _,fun h=>absurd h (by simp),fun h=>absurd h (by simp)⟩ (by simp only [Nat.add_zero,hm];exact es) ?_
   rintro ⟨u,v⟩ ⟨huv0,hu0,h1,h2⟩
   simp only at huv0 hu0 h1 h2
   show aw _ _ _ _ _ ⟨[(14,iv ((a+u:Nat):Int)),(15,iv ((a+v:Nat):Int)),(0,.v s.v),(1,iv (a:Int)),(2,iv (m:Int)),(3,iv (b:Int)),(4,cv)],.row s.v 3 178 ((P++(L++([y]++Z))).map zbg):: [],[]⟩
   refine rn ?_;refine y3 rfl (fun hc85=> ?_) (fun hc85=> ?_)
   ·have huv:u < v:=by have q:((a+u:Nat):Int) < ((a+v:Nat):Int):=of_decide_eq_true hc85;omega
    refine zad ?_;refine j7 ?_;refine zac ?_;refine x8 (y7 ?_)
    refine q1 ?_;refine q1 ?_;refine qq rfl rfl (za0 (j8 rfl rfl rfl (by omega)) (show iv _=iv (((a+u)+(a+v):Nat):Int) from congrArg iv (by omega))) ?_
    refine qq rfl rfl (zaz (m:=(((a+u)+(a+v):Nat):Int)) rfl (zh8 (by omega))) ?_
    refine qq rfl rfl (zgr (c:=((((a+u)+(a+v)) / 2:Nat):Int)) rfl rfl (zh9 (by omega)) (by decide)) ?_
    refine qq rfl rfl (zaz (m:=((((a+u)+(a+v)) / 2:Nat):Int)) rfl (zim (by omega))) ?_
    refine rn0 ?_;refine x8 ?_;rw [show (a+u+(a+v)) / 2=a+((u+v) / 2) by omega]
    refine j5 9 rfl ?_
    refine dq rfl rfl qrA ?_;refine dq rfl rfl qrA ?_;refine dq rfl rfl qrA ?_;refine dq rfl rfl (q7 (k:=m) rfl rfl (by rw [List.length_map];exact (zc7 (yc4 (L:=L) (R:= [y]) (Z:=Z) hP hm zcv (Nat.le_refl m) (by simp))))) ?_
    refine dq rfl rfl (u4 (row:=zbg ([y].getD (m - m) zcv)) rfl (zbh (yc4 (L:=L) (R:= [y]) (Z:=Z) hP hm zcv (Nat.le_refl m) (by simp))) rfl) ?_
    refine dq rfl rfl qrA ?_;refine dq rfl rfl qrA ?_;refine dq rfl rfl (q7 (k:=(a+((u+v) / 2))) rfl rfl (by rw [List.length_map];exact (zc7 (yc5 (L:=L) (R:= [y]) (Z:=Z) hP zcv (by omega) (by omega))))) ?_
    refine dq rfl rfl (u4 (row:=zbg (L.getD (a+((u+v) / 2) - a) zcv)) rfl (zbh (yc5 (L:=L) (R:= [y]) (Z:=Z) hP zcv (by omega) (by omega))) rfl) ?_
    refine rn ?_;refine qv rfl rfl (y6 rfl rfl (z8.pure (R:=fun r=>r=iv (zbu ([y].getD (m - m) zcv) (L.getD (a+((u+v) / 2) - a) zcv))) (hc ([y].getD (m - m) zcv) (L.getD (a+((u+v) / 2) - a) zcv)))) ?_
    refine rn ?_;refine y3 rfl (fun hc103=> ?_) (fun hc103=> ?_)
    ·have hlt:¬zbu ([y].getD (m - m) zcv) (L.getD (a+((u+v) / 2) - a) zcv) < 0:=of_decide_eq_false (by simpa using hc103)
     rw [show a+((u+v) / 2) - a=((u+v) / 2) by omega,show [y].getD (m - m) zcv=y by rw [Nat.sub_self];rfl] at hlt
     refine y7 ?_;refine q1 ?_;refine qq rfl rfl (za0 (j8 rfl rfl rfl (by omega)) (show iv _=iv ((a+(((u+v) / 2)+1):Nat):Int) from congrArg iv (by omega))) ?_
     refine rn ?_;exact ⟨(((u+v) / 2)+1,v),⟨by simp only;omega,hu0,fun _=>by simp only;rw [Nat.add_sub_cancel];exact hlt,h2⟩,eA,by simp only;omega⟩
    ·have hlt:zbu ([y].getD (m - m) zcv) (L.getD (a+((u+v) / 2) - a) zcv) < 0:=of_decide_eq_true (by simpa using hc103)
     rw [show a+((u+v) / 2) - a=((u+v) / 2) by omega,show [y].getD (m - m) zcv=y by rw [Nat.sub_self];rfl] at hlt
     refine rn ?_;exact ⟨(u,((u+v) / 2)),⟨by simp only;omega,by simp only;omega,h1,fun _=>hlt⟩,eA,by simp only;omega⟩
   ·have huv:u=v:=by have q:¬((a+u:Nat):Int) < ((a+v:Nat):Int):=of_decide_eq_false hc85;omega
    subst huv
    refine rn ?_;have hu:u≤L.length:=hu0
    refine zcu (fun q:Nat=>u≤q∧q≤L.length) (fun q=>⟨[(17,iv ((a+q:Nat):Int)),(14,iv ((a+u:Nat):Int)),(0,.v s.v),(1,iv (a:Int)),(2,iv (m:Int)),(3,iv (b:Int)),(4,cv)],.row s.v 3 178 ((P++(L.take q++y::(L.drop q++Z))).map zbg):: [],[]⟩) (fun q=>q) L.length ⟨hu,Nat.le_refl _⟩ (by rw [List.take_length,List.drop_length,hm];exact es) ?_
    rintro q ⟨hq1,hq2⟩
    refine rn ?_;refine y3 rfl (fun hc110=> ?_) (fun hc110=> ?_)
    ·have hq:u < q:=by have q0:((a+q:Nat):Int) > ((a+u:Nat):Int):=of_decide_eq_true hc110;omega
     have hx:=yfb (S:=L) (Z:=Z) (x:=y) hP hq2
     have hy:=ygv (S:=L) (Z:=Z) (x:=y) hP hq2 (by omega)
     obtain ⟨v2,hv2⟩:∃v,L.getD (q - 1) y=v:=⟨_,rfl⟩
     rw [hv2] at hy
     have hxy:a+q≠a+q - 1:=by omega
     refine zad ?_;refine rn0 ?_;refine x8 ?_;refine zac ?_;refine ziv 16 [15] [] [8,9,12,13,14] (fun he=>True) rfl rfl rfl trivial ?_
     refine jq rfl (fun he hC=>by replace hC:=hC.2;exact qrA) ?_
     refine jq rfl (fun he hC=>by replace hC:=hC.2;exact qrA) ?_
     refine jq rfl (fun he hC=>by replace hC:=hC.2;exact qrA) ?_
     refine jq rfl (fun he hC=>by replace hC:=hC.2;exact qrA) ?_
     refine jq rfl (fun he hC=>by replace hC:=hC.2;exact za0 (j8 rfl rfl rfl (by omega)) (show iv _=iv ((a+q - 1:Nat):Int) from congrArg iv (by omega))) ?_
     refine jq rfl (fun he hC=>by replace hC:=hC.2;exact qrA) ?_
     refine jq rfl (fun he hC=>by replace hC:=hC.2;exact qrA) ?_
     refine jq rfl (fun he hC=>by replace hC:=hC.2;exact za0 (j8 rfl rfl rfl (by omega)) (show iv _=iv ((a+q - 1:Nat):Int) from congrArg iv (by omega))) ?_
     refine jq rfl (fun he hC=>by obtain rfl:=hC.1 rfl;exact q7 (k:=(a+q - 1)) rfl rfl (by rw [List.length_map];exact (zc7 hy))) ?_
     refine jq rfl (fun he hC=>by obtain rfl:=hC.1 rfl;exact u4 (row:=zbg v2) rfl (zbh hy) rfl) ?_
     refine jq rfl (fun he hC=>by replace hC:=hC.2;exact qrA) ?_
     refine jq rfl (fun he hC=>by replace hC:=hC.2;exact qrA) ?_
     refine jq rfl (fun he hC=>by obtain rfl:=hC.1 rfl;exact q7 (k:=(a+q)) rfl rfl (by rw [List.length_map];exact (zc7 hx))) ?_
     refine jq rfl (fun he hC=>by obtain rfl:=hC.1 rfl;exact u4 (row:=zbg y) rfl (zbh hx) rfl) ?_
     refine jq rfl (fun he hC=>by obtain rfl:=hC.1 rfl;exact q7 (k:=(a+q)) rfl rfl (by rw [List.length_map];exact (zc7 hx))) ?_
     refine je rfl ?_;refine zxz ?_;refine jce rfl fun u=> ?_
     refine za9 (k:=(a+q)) rfl rfl rfl (zbh hx) rfl (Nat.le_of_ble_eq_true rfl) ⟨.any,_,rfl,trivial,?_⟩
     refine jcn ?_;refine ln ?_;refine qq rfl rfl (q7 (k:=(a+q - 1)) rfl rfl (by rw [List.length_set,List.length_map];exact zc7 hy)) ?_
     refine z7 rfl (za9 (k:=(a+q - 1)) rfl rfl rfl (row:=zbg v2) (by rw [List.getElem?_set_ne hxy];exact zbh hy) rfl (Nat.le_of_ble_eq_true rfl) ?_)
     have hsw:=zia (f:=zbg) hx hy
     refine u2 ?_;refine zje ?_;refine j7 ?_;refine y7 ?_;refine q1 ?_;refine qq rfl rfl (za0 (j8 rfl rfl rfl (by omega)) (show iv _=iv ((a+(q - 1):Nat):Int) from congrArg iv (by omega))) ?_
     refine rn ?_;exact ⟨q - 1,⟨by omega,by omega⟩,by rw [←zuh hP hq2 (by omega),←hsw];exact eA,by omega⟩
    ·have hq:q=u:=by have q0:¬((a+q:Nat):Int) > ((a+u:Nat):Int):=of_decide_eq_false hc110;omega
     subst hq
     refine rn ?_;refine rqz ?_;rw [zua zjr hL hu h1 h2];exact ⟨rfl,rfl⟩
  ·first|cases hc80|exact absurd hc80 (by decide)|(exfalso;simp_all;done)
set_option maxHeartbeats 8000000 in
theorem yiy (s:SV) (n:Nat) (P L R Z:List zh4) (a m b:Nat) (cv:AV) (hc:zzt cv) (hn:L.length+R.length=n) (hP:P.length=a) (hm:a+L.length=m) (hb:m+R.length=b) (hL1:1≤L.length) (hR1:1≤R.length) (h1L:L.length≠1) (h1R:R.length≠1) (hL:L.Pairwise (LeC zbu)) (hR:R.Pairwise (LeC zbu)) (hl:(P++(L++(R++Z))).length≤1000000000) (ih:∀(P L R Z:List zh4) (a m b:Nat),L.length+R.length < n→P.length=a→a+L.length=m→m+R.length=b→1≤L.length→1≤R.length→L.Pairwise (LeC zbu)→R.Pairwise (LeC zbu)→(P++(L++(R++Z))).length≤1000000000→
 x3 Tryz.prog 216 [.v s.v,iv (a:Int),iv (m:Int),iv (b:Int),cv] [.row s.v 3 178 ((P++(L++(R++Z))).map zbg)] (fun r h'=>h'= [.row s.v 3 178 ((P++(mrg zbu L R++Z)).map zbg)]∧r= .tup [])):x3 Tryz.prog 216 [.v s.v,iv (a:Int),iv (m:Int),iv (b:Int),cv] [.row s.v 3 178 ((P++(L++(R++Z))).map zbg)] (fun r h'=>h'= [.row s.v 3 178 ((P++(mrg zbu L R++Z)).map zbg)]∧r= .tup []):=by
 refine z6 Tryz.func216 rfl rfl rfl ?_
 simp only [List.length_append] at hl
 refine x8 ?_;refine x8 (y7 ?_)
 refine q1 ?_;refine q1 ?_;refine q1 ?_;refine qq rfl rfl (zgs (c:=false) rfl rfl (congrArg some (beq_eq_false_iff_ne.2 (by omega)))) ?_
 refine rn ?_;refine y3 rfl (fun hc28=> ?_) (fun hc28=> ?_)
 ·first|cases hc28|exact absurd hc28 (by decide)|(exfalso;simp_all;done)
 ·refine zad ?_;refine j7 ?_;refine x8 ?_;refine x8 (y7 ?_)
  refine q1 ?_;refine q1 ?_;refine q1 ?_;refine qq rfl rfl (zgs (c:=false) rfl rfl (congrArg some (beq_eq_false_iff_ne.2 (by omega)))) ?_
  refine rn ?_;refine y3 rfl (fun hc80=> ?_) (fun hc80=> ?_)
  ·first|cases hc80|exact absurd hc80 (by decide)|(exfalso;simp_all;done)
  ·refine zad ?_;refine j7 ?_;refine x8 (y7 ?_)
   refine q1 ?_;refine q1 ?_;refine qq rfl rfl (za0 (j8 rfl rfl rfl (by omega)) (show iv _=iv ((a+b:Nat):Int) from congrArg iv (by omega))) ?_
   refine qq rfl rfl (zaz (m:=((a+b:Nat):Int)) rfl (zh8 (by omega))) ?_
   refine qq rfl rfl (zgr (c:=(((a+b) / 2:Nat):Int)) rfl rfl (zh9 (by omega)) (by decide)) ?_
   refine qq rfl rfl (zaz (m:=(((a+b) / 2:Nat):Int)) rfl (zim (by omega))) ?_
   refine q1 ?_;refine u2 (j7 ?_)
   refine x8 (y7 ?_)
   refine q1 ?_;refine q1 ?_;refine qq rfl rfl (za0 (j8 rfl rfl rfl (by omega)) (show iv _=iv ((((a+b) / 2)+m:Nat):Int) from congrArg iv (by omega))) ?_
   refine rn0 ?_;refine x8 (y7 ?_)
   refine rn0 ?_;refine zvf (fun z:Nat×Nat=>SmS L R a m b ((a+b) / 2) z.1 z.2) (fun z=>⟨[(20,iv (z.1:Int)),(21,iv (z.2:Int)),(18,iv ((((a+b) / 2):Nat):Int)),(19,iv ((((a+b) / 2)+m:Nat):Int)),(0,.v s.v),(1,iv (a:Int)),(2,iv (m:Int)),(3,iv (b:Int)),(4,cv)],.row s.v 3 178 ((P++(L++(R++Z))).map zbg):: [],[]⟩) ?_ ?_
   ·refine rn ?_;refine y3 rfl (fun hc140=> ?_) (fun hc140=> ?_)
    ·have hS0:SmS L R a m b ((a+b) / 2) (((a+b) / 2)+m - b) ((a+b) / 2):=⟨hm,hb,rfl,.inl ⟨by have q:(m:Int) > ((((a+b) / 2):Nat):Int):=of_decide_eq_true hc140;omega,rfl,rfl⟩⟩
     refine x8 (y7 ?_)
     refine q1 ?_;refine q1 ?_;refine qq rfl rfl (za0 (j8 rfl rfl rfl (by omega)) (show iv _=iv ((((a+b) / 2)+m - b:Nat):Int) from congrArg iv (by have q:(m:Int) > ((((a+b) / 2):Nat):Int):=of_decide_eq_true hc140;omega))) ?_
     refine rn ?_;exact ⟨(_,_),hS0,eA⟩
    ·have hS0:SmS L R a m b ((a+b) / 2) a m:=⟨hm,hb,rfl,.inr ⟨by have q:¬(m:Int) > ((((a+b) / 2):Nat):Int):=of_decide_eq_false hc140;omega,rfl,rfl⟩⟩
     refine rn ?_;exact ⟨(_,_),hS0,eA⟩
   ·rintro ⟨s0,r0⟩ hS
    replace hS:SmS L R a m b ((a+b) / 2) s0 r0:=hS
    show aw _ _ _ _ _ ⟨[(20,iv (s0:Int)),(21,iv (r0:Int)),(18,iv ((((a+b) / 2):Nat):Int)),(19,iv ((((a+b) / 2)+m:Nat):Int)),(0,.v s.v),(1,iv (a:Int)),(2,iv (m:Int)),(3,iv (b:Int)),(4,cv)],.row s.v 3 178 ((P++(L++(R++Z))).map zbg):: [],[]⟩
    refine x8 (y7 ?_)
    refine q1 ?_;refine qq rfl rfl (za0 (j8 rfl rfl rfl (by omega)) (show iv _=iv ((((a+b) / 2)+m - 1:Nat):Int) from congrArg iv (by omega))) ?_
    refine rn ?_;refine zcu (fun z:Nat×Nat=>SmI zbu L R a m b ((a+b) / 2) s0 r0 z.1 z.2) (fun z=>⟨[(20,iv (z.1:Int)),(21,iv (z.2:Int)),(22,iv (((((a+b) / 2)+m - 1):Nat):Int)),(18,iv ((((a+b) / 2):Nat):Int)),(19,iv ((((a+b) / 2)+m:Nat):Int)),(0,.v s.v),(1,iv (a:Int)),(2,iv (m:Int)),(3,iv (b:Int)),(4,cv)],.row s.v 3 178 ((P++(L++(R++Z))).map zbg):: [],[]⟩) (fun z=>z.2 - z.1) (s0,r0) (yi3 hS) es ?_
    rintro ⟨st,rr⟩ hI
    replace hI:SmI zbu L R a m b ((a+b) / 2) s0 r0 st rr:=hI
    show aw _ _ _ _ _ ⟨[(20,iv (st:Int)),(21,iv (rr:Int)),(22,iv (((((a+b) / 2)+m - 1):Nat):Int)),(18,iv ((((a+b) / 2):Nat):Int)),(19,iv ((((a+b) / 2)+m:Nat):Int)),(0,.v s.v),(1,iv (a:Int)),(2,iv (m:Int)),(3,iv (b:Int)),(4,cv)],.row s.v 3 178 ((P++(L++(R++Z))).map zbg):: [],[]⟩
    refine rn ?_;refine y3 rfl (fun hc151=> ?_) (fun hc151=> ?_)
    ·have hsr:st < rr:=by have q:(st:Int) < (rr:Int):=of_decide_eq_true hc151;omega
     obtain ⟨b1,b2,b3,b4,b5,b6,b7,b8,b9,b10⟩:=yg6 hS hI hsr
     have hu:=getD_some b6 zcv
     have hv:=getD_some b5 zcv
     rw [b7] at hu
     refine zad ?_;refine j7 ?_;refine zac ?_;refine x8 (y7 ?_)
     refine q1 ?_;refine q1 ?_;refine qq rfl rfl (za0 (j8 rfl rfl rfl (by omega)) (show iv _=iv ((st+rr:Nat):Int) from congrArg iv (by omega))) ?_
     refine qq rfl rfl (zaz (m:=((st+rr:Nat):Int)) rfl (zh8 (by omega))) ?_
     refine qq rfl rfl (zgr (c:=(((st+rr) / 2:Nat):Int)) rfl rfl (zh9 (by omega)) (by decide)) ?_
     refine qq rfl rfl (zaz (m:=(((st+rr) / 2:Nat):Int)) rfl (zim (by omega))) ?_
     refine rn ?_;refine j5 11 rfl ?_
     refine dq rfl rfl qrA ?_;refine dq rfl rfl qrA ?_;refine dq rfl rfl qrA ?_;refine dq rfl rfl qrA ?_;refine dq rfl rfl (za0 (j8 rfl rfl rfl (by omega)) (show iv _=iv (((((a+b) / 2)+m - 1 - ((st+rr) / 2)):Nat):Int) from congrArg iv (by omega))) ?_
     refine dq rfl rfl (q7 (k:=(((a+b) / 2)+m - 1 - ((st+rr) / 2))) rfl rfl (by rw [List.length_map];exact (zc7 (yc4 (L:=L) (R:=R) (Z:=Z) hP hm zcv b3 (by omega))))) ?_
     refine dq rfl rfl (u4 (row:=zbg (R.getD ((((a+b) / 2)+m - 1 - ((st+rr) / 2)) - m) zcv)) rfl (zbh (yc4 (L:=L) (R:=R) (Z:=Z) hP hm zcv b3 (by omega))) rfl) ?_
     refine dq rfl rfl qrA ?_;refine dq rfl rfl qrA ?_;refine dq rfl rfl (q7 (k:=((st+rr) / 2)) rfl rfl (by rw [List.length_map];exact (zc7 (yc5 (L:=L) (R:=R) (Z:=Z) hP zcv b1 (by omega))))) ?_
     refine dq rfl rfl (u4 (row:=zbg (L.getD (((st+rr) / 2) - a) zcv)) rfl (zbh (yc5 (L:=L) (R:=R) (Z:=Z) hP zcv b1 (by omega))) rfl) ?_
     refine rn ?_;refine qv rfl rfl (y6 rfl rfl (z8.pure (R:=fun r=>r=iv (zbu (R.getD ((((a+b) / 2)+m - 1 - ((st+rr) / 2)) - m) zcv) (L.getD (((st+rr) / 2) - a) zcv))) (hc (R.getD ((((a+b) / 2)+m - 1 - ((st+rr) / 2)) - m) zcv) (L.getD (((st+rr) / 2) - a) zcv)))) ?_
     refine rn ?_;refine y3 rfl (fun hc171=> ?_) (fun hc171=> ?_)
     ·have hn:¬zbu (R.getD ((((a+b) / 2)+m - 1 - ((st+rr) / 2)) - m) zcv) (L.getD (((st+rr) / 2) - a) zcv) < 0:=of_decide_eq_false (by simpa using hc171)
      rw [b7] at hn
      refine y7 ?_;refine q1 ?_;refine qq rfl rfl (za0 (j8 rfl rfl rfl (by omega)) (show iv _=iv ((((st+rr) / 2)+1:Nat):Int) from congrArg iv (by omega))) ?_
      refine rn ?_;exact ⟨(((st+rr) / 2)+1,rr),yi1 hS hI hsr rfl hu hv hn,eA,by simp only;omega⟩
     ·have hn:zbu (R.getD ((((a+b) / 2)+m - 1 - ((st+rr) / 2)) - m) zcv) (L.getD (((st+rr) / 2) - a) zcv) < 0:=of_decide_eq_true (by simpa using hc171)
      rw [b7] at hn
      refine rn ?_;exact ⟨(st,((st+rr) / 2)),yi2 hS hI hsr rfl hu hv hn,eA,by simp only;omega⟩
    ·have hsr:st=rr:=by
      have q:¬(st:Int) < (rr:Int):=of_decide_eq_false hc151
      have:=hI.2.1
      omega
     subst hsr
     obtain ⟨x,y,hs,hmid,hx,hy,hmg⟩:=ydn zjr hL hR hS hI
     subst hs
     rw [hmid]
     refine zfe ?_;refine zf7 ?_;refine zf7 ?_;refine zc0 ?_;refine j7 ?_;refine x8 (y7 ?_)
     refine q1 ?_;refine q1 ?_;refine qq rfl rfl (za0 (j8 rfl rfl rfl (by omega)) (show iv _=iv ((m+y:Nat):Int) from congrArg iv (by omega))) ?_
     refine rn0 ?_;refine zf5 (⟨[(20,iv (((a+x):Nat):Int)),(18,iv (((a+x+y):Nat):Int)),(24,iv (((m+y):Nat):Int)),(0,.v s.v),(1,iv (a:Int)),(2,iv (m:Int)),(3,iv (b:Int)),(4,cv)],.row s.v 3 178 ((P++((L.take x)++((R.take y)++((L.drop x)++((R.drop y)++Z))))).map zbg):: [],[]⟩) ?_ ?_
     ·refine zf5 (⟨[(185,bv (decide (((((a+x):Nat):Int)) < ((((m):Nat):Int))) && decide (((((m):Nat):Int)) < ((((m+y):Nat):Int))))),(20,iv (((a+x):Nat):Int)),(18,iv (((a+x+y):Nat):Int)),(24,iv (((m+y):Nat):Int)),(0,.v s.v),(1,iv (a:Int)),(2,iv (m:Int)),(3,iv (b:Int)),(4,cv)],.row s.v 3 178 ((P++(L++(R++Z))).map zbg):: [],[]⟩) ?_ ?_
      ·refine rn ?_;refine q9 (fun hg39_3=> ?_) (fun hg39_3=> ?_)
       ·refine rn ?_;first|(rw [hg39_3,Bool.true_and];exact eA)|(rw [hg39_3,Bool.false_and];exact eA)
       ·refine rn ?_;first|(rw [hg39_3,Bool.true_and];exact eA)|(rw [hg39_3,Bool.false_and];exact eA)
      ·refine y3 rfl (fun hc185=> ?_) (fun hc185=> ?_)
       ·have hg:=hc185
        rw [Bool.and_eq_true,decide_eq_true_iff,decide_eq_true_iff] at hg
        refine rn ?_;refine z7 rfl (w7 rfl rfl (z8.of_fun (yaq s _ _ (a+x) m (m+y) cv (by rw [show m - (a+x)=L.length - x by omega,show m+y - m=y by omega];exact ydm hP hm hx hy) (by omega) (by omega) (by simp only [List.length_append];omega) (by simp only [List.length_append];omega))) rfl ?_)
        rintro _ _ ⟨rfl,rfl⟩
        refine rn ?_;exact eA
       ·have hg:=hc185
        rw [Bool.and_eq_false_iff,decide_eq_false_iff_not,decide_eq_false_iff_not] at hg
        have hxy:x=L.length∨y=0:=by omega
        rw [yag (P:=P) (Z:=Z) hxy]
        refine rn ?_;exact eA
     ·refine zf5 (⟨[(20,iv (((a+x):Nat):Int)),(18,iv (((a+x+y):Nat):Int)),(24,iv (((m+y):Nat):Int)),(0,.v s.v),(1,iv (a:Int)),(2,iv (m:Int)),(3,iv (b:Int)),(4,cv)],.row s.v 3 178 ((P++(mrg zbu (L.take x) (R.take y)++((L.drop x)++((R.drop y)++Z)))).map zbg):: [],[]⟩) ?_ ?_
      ·refine zf5 (⟨[(199,bv (decide (((((a):Nat):Int)) < ((((a+x):Nat):Int))) && decide (((((a+x):Nat):Int)) < ((((a+x+y):Nat):Int))))),(20,iv (((a+x):Nat):Int)),(18,iv (((a+x+y):Nat):Int)),(24,iv (((m+y):Nat):Int)),(0,.v s.v),(1,iv (a:Int)),(2,iv (m:Int)),(3,iv (b:Int)),(4,cv)],.row s.v 3 178 ((P++((L.take x)++((R.take y)++((L.drop x)++((R.drop y)++Z))))).map zbg):: [],[]⟩) ?_ ?_
       ·refine rn ?_;refine q9 (fun hg41_3=> ?_) (fun hg41_3=> ?_)
        ·refine rn ?_;first|(rw [hg41_3,Bool.true_and];exact eA)|(rw [hg41_3,Bool.false_and];exact eA)
        ·refine rn ?_;first|(rw [hg41_3,Bool.true_and];exact eA)|(rw [hg41_3,Bool.false_and];exact eA)
       ·refine y3 rfl (fun hc199=> ?_) (fun hc199=> ?_)
        ·have hg:=hc199
         rw [Bool.and_eq_true,decide_eq_true_iff,decide_eq_true_iff] at hg
         refine rn ?_;refine z7 rfl (w7 rfl rfl (z8.of_fun (ih P (L.take x) (R.take y) ((L.drop x)++((R.drop y)++Z)) a (a+x) (a+x+y) (by simp only [List.length_take];omega) hP (by simp only [List.length_take];omega) (by simp only [List.length_take];omega) (by simp only [List.length_take];omega) (by simp only [List.length_take];omega) (zpz hL x) (zpz hR y) (by simp only [List.length_append,List.length_take,List.length_drop];omega))) rfl ?_)
         rintro _ _ ⟨rfl,rfl⟩
         refine rn ?_;exact eA
        ·have hg:=hc199
         rw [Bool.and_eq_false_iff,decide_eq_false_iff_not,decide_eq_false_iff_not] at hg
         have hxy:(L.take x)= []∨(R.take y)= []:=by
          by_cases h0:1≤x
          ·exact .inr (zp0 (by omega))
          ·exact .inl (zp0 h0)
         rw [zsv (cmp:=zbu) (P:=P) hxy]
         refine rn ?_;exact eA
      ·refine zf5 (⟨[(213,bv (decide (((((a+x+y):Nat):Int)) < ((((m+y):Nat):Int))) && decide (((((m+y):Nat):Int)) < ((((b):Nat):Int))))),(20,iv (((a+x):Nat):Int)),(18,iv (((a+x+y):Nat):Int)),(24,iv (((m+y):Nat):Int)),(0,.v s.v),(1,iv (a:Int)),(2,iv (m:Int)),(3,iv (b:Int)),(4,cv)],.row s.v 3 178 ((P++(mrg zbu (L.take x) (R.take y)++((L.drop x)++((R.drop y)++Z)))).map zbg):: [],[]⟩) ?_ ?_
       ·refine rn ?_;refine q9 (fun hg43_3=> ?_) (fun hg43_3=> ?_)
        ·refine rn ?_;first|(rw [hg43_3,Bool.true_and];exact eA)|(rw [hg43_3,Bool.false_and];exact eA)
        ·refine rn ?_;first|(rw [hg43_3,Bool.true_and];exact eA)|(rw [hg43_3,Bool.false_and];exact eA)
       ·refine y3 rfl (fun hc213=> ?_) (fun hc213=> ?_)
        ·have hg:=hc213
         rw [Bool.and_eq_true,decide_eq_true_iff,decide_eq_true_iff] at hg
         rw [←List.append_assoc P (mrg zbu (L.take x) (R.take y)) ((L.drop x)++((R.drop y)++Z))]
         refine rn ?_;refine z7 rfl (w7 rfl rfl (z8.of_fun (ih (P++mrg zbu (L.take x) (R.take y)) (L.drop x) (R.drop y) Z (a+x+y) (m+y) b (by simp only [List.length_drop];omega) (by simp only [List.length_append,zdw,List.length_take];omega) (by simp only [List.length_drop];omega) (by simp only [List.length_drop];omega) (by simp only [List.length_drop];omega) (by simp only [List.length_drop];omega) (zq5 hL x) (zq5 hR y) (by simp only [List.length_append,zdw,List.length_take,List.length_drop];omega))) rfl ?_)
         rintro _ _ ⟨rfl,rfl⟩
         refine rn ?_;refine zy4 ?_;exact ⟨by simp only [hmg,List.append_assoc],rfl⟩
        ·have hg:=hc213
         rw [Bool.and_eq_false_iff,decide_eq_false_iff_not,decide_eq_false_iff_not] at hg
         have hxy:(L.drop x)= []∨(R.drop y)= []:=by
          by_cases h0:x < L.length
          ·exact .inr (znj (by omega))
          ·exact .inl (znj h0)
         rw [←List.append_assoc P (mrg zbu (L.take x) (R.take y)) ((L.drop x)++((R.drop y)++Z)),zsv (cmp:=zbu) (P:=P++mrg zbu (L.take x) (R.take y)) hxy]
         refine rn ?_;refine zy4 ?_;exact ⟨by simp only [hmg,List.append_assoc],rfl⟩
theorem yg2 (s:SV) (cv:AV) (hc:zzt cv):∀(n:Nat) (P L R Z:List zh4) (a m b:Nat),L.length+R.length < n→P.length=a→a+L.length=m→m+R.length=b→1≤L.length→1≤R.length→L.Pairwise (LeC zbu)→R.Pairwise (LeC zbu)→(P++(L++(R++Z))).length≤1000000000→
 x3 Tryz.prog 216 [.v s.v,iv (a:Int),iv (m:Int),iv (b:Int),cv] [.row s.v 3 178 ((P++(L++(R++Z))).map zbg)] (fun r h'=>h'= [.row s.v 3 178 ((P++(mrg zbu L R++Z)).map zbg)]∧r= .tup [])
 |0,_,_,_,_,_,_,_,h,_,_,_,_,_,_,_,_=>absurd h (by omega)
 |n+1,P,L,R,Z,a,m,b,h,hP,hm,hb,hL1,hR1,hL,hR,hl=>by
  by_cases e1:L.length=1
  ·obtain ⟨x,rfl⟩:=List.length_eq_one_iff.1 e1
   exact yi0 s P R Z x a m b cv hc hP hm hb hR hl
  ·by_cases e2:R.length=1
   ·obtain ⟨y,rfl⟩:=List.length_eq_one_iff.1 e2
    exact yiz s P L Z y a m b cv hc hP hm hb e1 hL hl
   ·exact yiy s (L.length+R.length) P L R Z a m b cv hc rfl hP hm hb hL1 hR1 e1 e2 hL hR hl fun P' L' R' Z' a' m' b' q=>yg2 s cv hc n P' L' R' Z' a' m' b' (by omega)
set_option maxHeartbeats 4000000 in
theorem zz7 (s:SV) (l:List zh4) (cv:AV) (hc:zzt cv) (hl:l.length≤1000000000):x3 Tryz.prog 197 [.v s.v,iv (l.length:Int),cv] [.row s.v 3 178 ((l).map zbg)] (fun r h'=>∃c,zmi zv3 l c∧h'= [.row s.v 3 178 ((c).map zbg)]∧r= .tup []):=by
 refine z6 Tryz.func197 rfl rfl rfl ?_
 refine rn ?_;refine zcu (fun z:Nat×List zh4=>St1 zv3 20 l z.2 z.1∧z.2.length=l.length) (fun z=>⟨[(6,iv 20),(7,iv (z.1:Int)),(8,iv ((z.1+20:Nat):Int)),(0,.v s.v),(1,iv (l.length:Int)),(2,cv)],.row s.v 3 178 ((z.2).map zbg):: [],[]⟩) (fun z=>l.length - z.1) (0,l) ⟨yg5 20 l,rfl⟩ es ?_
 rintro ⟨q,c⟩ ⟨hs,hcl⟩
 simp only at hs hcl
 show aw _ _ _ _ _ ⟨[(6,iv 20),(7,iv (q:Int)),(8,iv ((q+20:Nat):Int)),(0,.v s.v),(1,iv (l.length:Int)),(2,cv)],.row s.v 3 178 ((c).map zbg):: [],[]⟩
 refine rn ?_;refine y3 rfl (fun hc13=> ?_) (fun hc13=> ?_)
 ·have hb:q+20≤c.length:=by have q0:((q+20:Nat):Int)≤(l.length:Int):=of_decide_eq_true hc13;omega
  obtain ⟨P,M,Z,rfl,hP,hM,hs'⟩:=zwk hs hb
  have hcl2:=hcl
  simp only [List.length_append] at hcl2
  refine rn ?_;refine z7 rfl (w7 rfl rfl (z8.of_fun (zuj s P M Z q (q+20) cv hc hP (by omega) (by omega))) rfl ?_)
  rintro _ _ ⟨rfl,rfl⟩
  refine u2 (j7 ?_)
  refine x8 (y7 ?_)
  refine q1 ?_;refine q1 ?_;refine u2 (j7 ?_)
  refine y7 ?_;refine q1 ?_;refine q1 ?_;refine qq rfl rfl (za0 (j8 rfl rfl rfl (by omega)) (show iv _=iv ((q+20+20:Nat):Int) from congrArg iv (by omega))) ?_
  refine rn ?_;exact ⟨(q+20,P++(isL zbu M++Z)),⟨hs',by simp only [List.length_append,zgc];omega⟩,eA,by simp only;omega⟩
 ·have hb:c.length < q+20:=by have q0:¬((q+20:Nat):Int)≤(l.length:Int):=of_decide_eq_false hc13;omega
  obtain ⟨P,M,rfl,hP,hs2⟩:=yab hs hb
  have hcl2:=hcl
  simp only [List.length_append] at hcl2
  rw [show P++M=P++(M++ []) by rw [List.append_nil]]
  refine rn ?_;refine z7 rfl (w7 rfl rfl (z8.of_fun (zuj s P M [] q l.length cv hc hP (by omega) (by simp only [List.length_append,List.length_nil];omega))) rfl ?_)
  rintro _ _ ⟨rfl,rfl⟩
  refine rn ?_;refine zcu (fun z:Nat×List zh4=>1≤z.1∧St2 zv3 z.1 l z.2∧z.2.length=l.length) (fun z=>⟨[(6,iv (z.1:Int)),(0,.v s.v),(1,iv (l.length:Int)),(2,cv)],.row s.v 3 178 ((z.2).map zbg):: [],[]⟩) (fun z=>l.length - z.1) (20,P++isL zbu M) ⟨by show 1≤20;decide,hs2,by simp only [List.length_append,zgc];omega⟩ (by rw [List.append_nil];exact es) ?_
  rintro ⟨bs,c⟩ ⟨h0,hs0,hcl⟩
  simp only at h0 hs0 hcl
  clear hs hb hs2 hcl2
  show aw _ _ _ _ _ ⟨[(6,iv (bs:Int)),(0,.v s.v),(1,iv (l.length:Int)),(2,cv)],.row s.v 3 178 ((c).map zbg):: [],[]⟩
  refine rn ?_;refine y3 rfl (fun hc30=> ?_) (fun hc30=> ?_)
  ·have hbs:bs < l.length:=by have q0:(bs:Int) < (l.length:Int):=of_decide_eq_true hc30;omega
   refine zad ?_;refine j7 ?_;refine zac ?_;refine x8 (y7 ?_)
   refine q1 ?_;refine qq rfl rfl (za0 (j8 rfl rfl rfl (by omega)) (show iv _=iv ((2 * bs:Nat):Int) from congrArg iv (by omega))) ?_
   refine rn ?_;refine zcu (fun z:Nat×List zh4=>St3 zv3 bs l z.2 z.1∧z.2.length=l.length) (fun z=>⟨[(7,iv (z.1:Int)),(8,iv ((z.1+2 * bs:Nat):Int)),(6,iv (bs:Int)),(0,.v s.v),(1,iv (l.length:Int)),(2,cv)],.row s.v 3 178 ((z.2).map zbg):: [],[]⟩) (fun z=>l.length - z.1) (0,c) ⟨yg4 hs0,hcl⟩ (by simp only [Nat.zero_add];exact es) ?_
   rintro ⟨q,d⟩ ⟨hs,hdl⟩
   simp only at hs hdl
   have hqd:=zz8 hs
   show aw _ _ _ _ _ ⟨[(7,iv (q:Int)),(8,iv ((q+2 * bs:Nat):Int)),(6,iv (bs:Int)),(0,.v s.v),(1,iv (l.length:Int)),(2,cv)],.row s.v 3 178 ((d).map zbg):: [],[]⟩
   refine rn ?_;refine y3 rfl (fun hc35=> ?_) (fun hc35=> ?_)
   ·have hb:q+2 * bs≤d.length:=by have q0:((q+2 * bs:Nat):Int)≤(l.length:Int):=of_decide_eq_true hc35;omega
    obtain ⟨P,L,R,Z,rfl,hP,hL,hR,sL,sR,hs'⟩:=zwj h0 hs hb
    have hdl2:=hdl
    simp only [List.length_append] at hdl2
    refine zad ?_;refine j7 ?_;refine zac ?_;refine x8 (y7 ?_)
    refine q1 ?_;refine q1 ?_;refine q1 ?_;refine q1 ?_;refine qq rfl rfl (za0 (j8 rfl rfl rfl (by omega)) (show iv _=iv ((q+bs:Nat):Int) from congrArg iv (by omega))) ?_
    refine rn ?_;refine z7 rfl (w7 rfl rfl (z8.of_fun (yg2 s cv hc (L.length+R.length+1) P L R Z q (q+bs) (q+2 * bs) (by omega) hP (by omega) (by omega) (by omega) (by omega) sL sR (by omega))) rfl ?_)
    rintro _ _ ⟨rfl,rfl⟩
    refine u2 (j7 ?_)
    refine x8 (y7 ?_)
    refine q1 ?_;refine q1 ?_;refine u2 (j7 ?_)
    refine y7 ?_;refine q1 ?_;refine q1 ?_;refine q1 ?_;refine qq rfl rfl (za0 (j8 rfl rfl rfl (by omega)) (show iv _=iv ((q+2 * bs+2 * bs:Nat):Int) from congrArg iv (by omega))) ?_
    refine rn ?_;exact ⟨(q+2 * bs,P++(mrg zbu L R++Z)),⟨hs',by simp only [List.length_append,zdw];omega⟩,eA,by simp only;omega⟩
   ·have hb:d.length < q+2 * bs:=by have q0:¬((q+2 * bs:Nat):Int)≤(l.length:Int):=of_decide_eq_false hc35;omega
    have hen:=zz9 hs hb
    refine zfe ?_;refine zf7 ?_;refine zf7 ?_;refine zc0 ?_;refine j7 ?_;refine x8 ?_;refine x8 (y7 ?_)
    refine q1 ?_;refine q1 ?_;refine qq rfl rfl (za0 (j8 rfl rfl rfl (by omega)) (show iv _=iv ((q+bs:Nat):Int) from congrArg iv (by omega))) ?_
    refine rn ?_;refine y3 rfl (fun hc54=> ?_) (fun hc54=> ?_)
    ·have hmn:q+bs < d.length:=by have q0:((q+bs:Nat):Int) < (l.length:Int):=of_decide_eq_true hc54;omega
     obtain ⟨_,P,L,R,rfl,hP,hL,sL,sR,hs2⟩:=hen.resolve_left (fun h=>by omega)
     have hdl2:=hdl
     simp only [List.length_append] at hdl2 hmn
     rw [show P++(L++R)=P++(L++(R++ [])) by rw [List.append_nil]]
     refine rn ?_;refine z7 rfl (w7 rfl rfl (z8.of_fun (yg2 s cv hc (L.length+R.length+1) P L R [] q (q+bs) l.length (by omega) hP (by omega) (by omega) (by omega) (by omega) sL sR (by simp only [List.length_append,List.length_nil];omega))) rfl ?_)
     rintro _ _ ⟨rfl,rfl⟩
     refine u2 (j7 ?_)
     refine y7 ?_;refine q1 ?_;refine qq rfl rfl (za0 (j8 rfl rfl rfl (by omega)) (show iv _=iv ((2 * bs:Nat):Int) from congrArg iv (by omega))) ?_
     refine rn ?_;exact ⟨(2 * bs,P++mrg zbu L R),⟨by simp only;omega,hs2,by simp only [List.length_append,zdw];omega⟩,by rw [List.append_nil];exact eA,by simp only;omega⟩
    ·have hmn:d.length≤q+bs:=by have q0:¬((q+bs:Nat):Int) < (l.length:Int):=of_decide_eq_false hc54;omega
     obtain ⟨_,hs2⟩:=hen.resolve_right (fun h=>by have:=h.1;omega)
     refine zad ?_;refine j7 ?_;refine y7 ?_;refine q1 ?_;refine qq rfl rfl (za0 (j8 rfl rfl rfl (by omega)) (show iv _=iv ((2 * bs:Nat):Int) from congrArg iv (by omega))) ?_
     refine rn ?_;exact ⟨(2 * bs,d),⟨by simp only;omega,hs2,hdl⟩,eA,by simp only;omega⟩
  ·have hbs:c.length≤bs:=by have q0:¬(bs:Int) < (l.length:Int):=of_decide_eq_false hc30;omega
   refine rn ?_;refine zy4 ?_;exact ⟨c,yaa h0 hs0 hbs,rfl,rfl⟩
theorem zoc (s:SV) (l:List zh4) (cv:AV) (hc:zzt cv) (hl:l.length≤1000000000):x3 Tryz.prog 157 [.v s.v,cv] [.row s.v 3 178 ((l).map zbg)] (fun r h'=>∃c,zmi zv3 l c∧h'= [.row s.v 3 178 ((c).map zbg)]∧r= .tup []):=by
 refine z6 Tryz.func157 rfl rfl rfl ?_
 refine y7 ?_;refine q1 ?_;refine q1 ?_;refine qq rfl rfl (za0 (zko rfl) (show iv _=iv (l.length:Int) from by rw [List.length_map])) ?_
 refine rn ?_;refine z7 rfl (w7 rfl rfl (z8.of_fun (zz7 s l cv hc hl)) rfl ?_)
 rintro _ _ ⟨c,hst,rfl,rfl⟩
 refine rn ?_;refine zy4 ?_;exact ⟨c,hst,rfl,rfl⟩
theorem yhm (x y:zh4):x3 Tryz.prog 156 [.agg (zbg x),.agg (zbg y)] [] (fun r h'=>h'= []∧r=iv (zbu x y)):=by
 refine z6 Tryz.func156 rfl rfl rfl ?_
 have hx:=x.2
 have hy:=y.2
 refine rn ?_;refine z7 rfl (x9 rfl rfl rfl fun b2=> ?_)
 refine z7 rfl (x9 rfl rfl rfl fun b3=> ?_)
 refine q1 ?_;refine u2 (j7 ?_)
 refine x8 (y7 ?_)
 refine q1 ?_;refine q1 ?_;refine q1 ?_;refine q1 ?_;refine qq rfl rfl (j8 rfl rfl rfl (by omega)) ?_
 refine rn ?_;refine rq 2 ?_
 exact ⟨rfl,rfl⟩
theorem yeu:zzt (.fn (.func 156) [] []):=fun x y=>z8.of_fun (yhm x y)
theorem ydk (s:SV) (n:Nat) (l:List Acc) (hk:∀a∈l,0≤a.o∧a.o < n) (hn:n≤1000000) (hl:l.length≤1000000000):x3 Tryz.prog 157 [.v s.v,.fn (.func 156) [] []] [.row s.v 3 178 (l.map accR)] (fun r h'=>h'= [.row s.v 3 178 ((zn2 n l).map accR)]∧r= .tup []):=by
 obtain ⟨lB,e⟩:=zvv hn hk
 have hlen:lB.length=l.length:=by rw [←e,List.length_map]
 have h1:=zoc s lB _ yeu (by omega)
 have e1:lB.map zbg=l.map accR:=by rw [←e,List.map_map];rfl
 rw [e1] at h1
 refine h1.mono ?_;rintro _ _ ⟨c,hst,rfl,rfl⟩
 exact ⟨by rw [←zwi e hst hk,List.map_map];rfl,rfl⟩
theorem zpa (h:Hist) (la:Lim 4611686018427387904 h):x3 Tryz.prog 23 [.agg (x6 h)] [.glob 3 148 y8,.glob 5 276 y9,.glob 6 279 y4,.glob 2 197 u3] (fun r h'=>h'= [.glob 3 148 y8,.glob 5 276 y9,.glob 6 279 y4,.glob 2 197 u3]∧r=iv (za6 h)):=by
 refine z6 Tryz.func23 rfl rfl rfl ?_
 refine rn ?_;refine z7 rfl (x9 rfl rfl rfl fun b1=> ?_)
 refine rn ?_;refine qv rfl rfl (y6 rfl rfl (z8.qt (z8.of_fun (yf3 h la)) ((pt1 _ _ _).trans (.cons _ ((pt1 _ _ _).trans (.cons _ (pt1 _ _ _))))))) ?_
 refine rn ?_;refine y3 rfl (fun hc7=> ?_) (fun hc7=> ?_)
 ·have hm:¬zer h=true:=by intro q;rw [zcl,if_pos q] at hc7;cases hc7
  have he:zcl h=210:=by rw [zcl,if_neg hm]
  refine rn ?_;refine rq 1 ?_
  exact ⟨rfl,by rw [za6,if_neg hm,he];rfl⟩
 ·have hm:zer h=true:=zu5.1 (by simpa using hc7)
  refine rn ?_;refine qv rfl rfl (y6 rfl rfl (z8.qt (z8.of_fun (yd3 h la)) ((pt1 _ _ _).trans (.cons _ ((pt1 _ _ _).trans (.cons _ ((pt1 _ _ _).trans (.cons _ (pt1 _ _ _))))))))) ?_
  refine rn ?_;refine y3 rfl (fun hc11=> ?_) (fun hc11=> ?_)
  ·refine rn ?_;refine rq 1 ?_
   exact ⟨rfl,by rw [za6,if_pos hm];simp_all;rfl⟩
  ·refine rn ?_;refine rq 1 ?_
   exact ⟨rfl,by rw [za6,if_pos hm];simp_all;rfl⟩
theorem zqx (h:Hist) (kd:Int) (W:List Res):x3 Tryz.prog 120 [.agg (x6 h),iv kd] W (fun r h'=>∃b1 b2,h'= .box b1 28 (x6 h):: .box b2 3 [iv kd]::W∧r= .fn (.func 158) [] [pZ b1,pZ b2]):=by
 refine z6 Tryz.func120 rfl rfl rfl ?_
 refine rn ?_;refine z7 rfl (x9 rfl rfl rfl fun b2=> ?_)
 refine z7 rfl (x9 rfl rfl rfl fun b3=> ?_)
 refine rn ?_;exact zab rfl (.perm (pt1 _ _ _) _) ⟨_,_,rfl,rfl⟩
set_option maxHeartbeats 4000000 in
theorem zm7 {σ:Type} (h:Hist) (la:h.evs.length≤1000000) (kd:Int) (y:AV) (b1 b2:Nat) (p q:Nat→σ→Prop) (I F:Nat→σ→List Res) (x0:σ) (hp0:p 0 x0) (hy:∀k x,(hk:k < h.evs.length)→p k x→(h.evs[k].kind==kd)=true→z8 Tryz.prog y [iv k,.agg (evR h.evs[k])] (.box b1 28 (x6 h):: .box b2 3 [iv kd]::I k x) (fun r h'=>∃x',(r=bv true∧p (k+1) x'∧h'= .box b1 28 (x6 h):: .box b2 3 [iv kd]::I (k+1) x')∨(r=bv false∧q k x'∧h'= .box b1 28 (x6 h):: .box b2 3 [iv kd]::F k x'))) (hs:∀k x,(hk:k < h.evs.length)→p k x→(h.evs[k].kind==kd)=false→∃x',p (k+1) x'∧I (k+1) x'=I k x):x3 Tryz.prog 158 [y,pZ b1,pZ b2] (.box b1 28 (x6 h):: .box b2 3 [iv kd]::I 0 x0) (fun r h'=>(∃x,p h.evs.length x∧h'=I h.evs.length x)∨∃k x,q k x∧h'=F k x):=by
 refine z6 Tryz.func158 rfl rfl rfl ?_
 refine rn ?_;refine zge h.evs.length p (fun k x=>⟨[(9,iv k),(0,y),(2,pZ b2),(7,zsi h.evs),(8,iv (h.evs.map evR).length)],.box b1 28 (x6 h):: .box b2 3 [iv kd]::I k x,[]⟩) x0 hp0 es ?_
 intro k x lk zk
 refine rn ?_;refine y3 rfl (fun hc10=> ?_) (fun hc10=> ?_)
 ·have hk:=zdx hc10
  have rk:=zc8 (f:=evR) hk
  refine rn ?_;refine z7 rfl (x5 rfl fun b5=> ?_)
  refine rn ?_;refine q9 (fun hg3_4=> ?_) (fun hg3_4=> ?_)
  ·refine q1 ?_;refine q1 ?_;refine q1 ?_;refine z7 rfl (w7 rfl rfl (z8.fr1 (hy k x hk zk (by simpa using hg3_4))) rfl ?_)
   rintro _ _ ⟨_,rfl,x',⟨rfl,hp,rfl⟩|⟨rfl,hq,rfl⟩⟩
   ·refine rn ?_;refine y3 rfl (fun hc24=> ?_) (fun hc24=> ?_)
    ·first|cases hc24|exact absurd hc24 (by decide)|(exfalso;simp_all;done)
    ·refine rn ?_;exact ⟨hk,x',hp,eA⟩
   ·refine rn ?_;refine y3 rfl (fun hc24=> ?_) (fun hc24=> ?_)
    ·refine rn ?_;exact zfr .nil (.drop [_,_,_] _ _) (.inr ⟨k,x',hq,rfl⟩)
    ·first|cases hc24|exact absurd hc24 (by decide)|(exfalso;simp_all;done)
  ·refine rn ?_;refine zpq rfl ?_;refine rn ?_;obtain ⟨x',hp,e⟩:=hs k x hk zk (by simpa using hg3_4)
   exact ⟨hk,x',hp,by rw [e];exact eA⟩
 ·have qk:=zd0 hc10 lk
  subst qk
  refine rn ?_;exact zdp .nil (.drop [_,_] _ _) (.inl ⟨x,zk,rfl⟩)
def zmg {α:Type} (kd:Int) (x:Nat→Ev→α) (p:Nat→Ev→Bool) (k:Nat) (e:Ev):Option α:=if (e.kind==kd && p k e)=true then some (x k e) else none
theorem yfp {α:Type} {kd:Int} {x:Nat→Ev→α} {p:Nat→Ev→Bool} {k:Nat} {e:Ev} (h:(e.kind==kd)=false):zmg kd x p k e=none:=by rw [zmg,h];simp
theorem yfo {α:Type} {kd:Int} {x:Nat→Ev→α} {p:Nat→Ev→Bool} {k:Nat} {e:Ev} (h:p k e=false):zmg kd x p k e=none:=by rw [zmg,h];simp
theorem yfn {α:Type} {kd:Int} {x:Nat→Ev→α} {p:Nat→Ev→Bool} {k:Nat} {e:Ev} (h1:(e.kind==kd)=true) (h:p k e=true):zmg kd x p k e=some (x k e):=by rw [zmg,h1,h];simp
theorem zze {α:Type} {f:Nat→Ev→Option α} {l:List Ev} {k:Nat} (h:k < l.length) (hf:f k l[k]=none):ziq f l (k+1)=ziq f l k:=by rw [zuo h,hf];simp
theorem yfm {α:Type} {f:Nat→Ev→Option α} {l:List Ev} {k:Nat} {a:α} (h:k < l.length) (hf:f k l[k]=some a):ziq f l (k+1)=ziq f l k++ [a]:=by rw [zuo h,hf];rfl
set_option maxHeartbeats 4000000 in
theorem zzb (h:Hist) (la:h.evs.length≤1000000) (kd:Int) (fv:AV) (hone:fv.cellsOf=some [fv]) (W:List Res) (x:Nat→Ev→Int) (p:Nat→Ev→Bool) (hp:∀k,(hk:k < h.evs.length)→(h.evs[k].kind==kd)=true→z8 Tryz.prog fv [iv k,.agg (evR h.evs[k])] W (fun r h'=>h'=W∧r= .tup [iv (x k h.evs[k]),bv (p k h.evs[k])])):x3 Tryz.prog 73 [.agg (x6 h),iv kd,fv] W (fun r h'=>∃s:SV,h'= .row s.v 1 3 ((ziq (zmg kd x p) h.evs h.evs.length).map zcz)::W∧r= .v s.v):=by
 refine z6 Tryz.func73 rfl rfl rfl ?_
 refine rn ?_;refine z7 rfl (x9 rfl rfl rfl fun b3=> ?_)
 refine z7 rfl (x9 rfl hone rfl fun b5=> ?_)
 refine rn ?_;refine z7 rfl (x5 rfl fun b7=> ?_)
 refine rn ?_;refine z7 rfl (w7 rfl rfl (z8.of_fun (zqx h kd _)) rfl ?_)
 rintro _ _ ⟨b1,b2,rfl,rfl⟩
 refine rn ?_;refine zff (s':=⟨[(14,.fn (.func 158) [] [pZ b1,pZ b2]),(5,pZ b5),(7,pZ b7)],.box b1 28 (x6 h):: .box b2 3 [iv kd]:: .box b7 54 [.v (⟨none,0,0⟩:SV).v]:: .row (⟨none,0,0⟩:SV).v 1 3 ((ziq (zmg kd x p) h.evs 0).map zcz):: .box b5 129 [fv]:: .box b3 28 (x6 h)::W,[]⟩) (v8 (v8 (zb9 1 3) (zam ((pt1 _ _ _).trans (.cons _ ((pt1 _ _ _).trans (.cons _ (pt1 _ _ _))))))) es) ?_
 refine zl7 (fun pend h''=>pend=none∧∃s:SV,h''= .box b7 54 [.v s.v]:: .row s.v 1 3 ((ziq (zmg kd x p) h.evs h.evs.length).map zcz):: .box b5 129 [fv]:: .box b3 28 (x6 h)::W) rfl (fun fn l q lp hlp=> ?_) (fun q h'' hK=> ?_) (fun q h'' c hK=> ?_)
 ·suffices hy:∀k (s:SV),(hk:k < h.evs.length)→True→(h.evs[k].kind==kd)=true→z8 Tryz.prog (yv l) [iv k,.agg (evR h.evs[k])] (.box b1 28 (x6 h):: .box b2 3 [iv kd]::lp .ready none:: .defs q:: .box b7 54 [.v s.v]:: .row s.v 1 3 ((ziq (zmg kd x p) h.evs k).map zcz):: .box b5 129 [fv]:: .box b3 28 (x6 h)::W) (fun r h'=>∃s':SV,(r=bv true∧True∧h'= .box b1 28 (x6 h):: .box b2 3 [iv kd]::lp .ready none:: .defs q:: .box b7 54 [.v s'.v]:: .row s'.v 1 3 ((ziq (zmg kd x p) h.evs (k+1)).map zcz):: .box b5 129 [fv]:: .box b3 28 (x6 h)::W)∨(r=bv false∧False∧h'= .box b1 28 (x6 h):: .box b2 3 [iv kd]:: [])) by
   refine x3.mono (x3.perm ((pt2 _ _ _ _).trans (.cons _ (pt2 _ _ _ _))) (zm7 h la kd (yv l) b1 b2 (fun _ _=>True) (fun _ _=>False) (fun k (s:SV)=>lp .ready none:: .defs q:: .box b7 54 [.v s.v]:: .row s.v 1 3 ((ziq (zmg kd x p) h.evs k).map zcz):: .box b5 129 [fv]:: .box b3 28 (x6 h)::W) (fun _ _=> []) ⟨none,0,0⟩ trivial hy (fun k s hk _ hn=>⟨s,trivial,by rw [zze hk (yfp hn)]⟩))) ?_
   rintro _ _ (⟨s,_,rfl⟩|⟨_,_,hF,_⟩)
   ·exact ⟨none,.ready,_,.refl _,by simp,rfl,s,rfl⟩
   ·exact hF.elim
  intro k s hk _ hkd
  refine z8.perm (pt2 _ _ _ _) (z8.ventE ?_)
  refine zdi hlp rfl rfl ?_
  refine rn ?_;refine z7 rfl (x5 rfl fun b9=> ?_)
  refine rn ?_;refine ⟨[(8,iv k),(9,pZ b9),(5,pZ b5),(7,pZ b7)],.box b9 66 (evR h.evs[k]):: .box b1 28 (x6 h):: .box b2 3 [iv kd]:: .defs q:: .box b7 54 [.v s.v]:: .row s.v 1 3 ((ziq (zmg kd x p) h.evs k).map zcz):: .box b5 129 [fv]:: .box b3 28 (x6 h)::W,v8 (zam (pt1 _ _ _)) es,?_⟩
  refine rn ?_;refine qv rfl rfl (y6 rfl rfl (z8.qt (h2:= [_,_,_,_,_,_,_,_,_]) (hp k hk hkd) (zdf [_,_,_,_,_,_,_,_,_] _))) ?_
  refine rn ?_;refine y3 rfl (fun hc24=> ?_) (fun hc24=> ?_)
  ·refine y7 ?_;refine q1 ?_;refine q1 ?_;refine q1 ?_;refine q1 ?_;refine q1 ?_;refine qq rfl rfl (zrt rfl (by rfl) (by rfl)) ?_
   refine rn ?_;refine qv rfl rfl (v7 rfl rfl) ?_
   refine zyn s.v ?_
   refine z7 rfl (k8 rfl rfl (by simp only [List.length_map,List.length_cons,List.length_nil];have:=zly (zmg kd x p) h.evs k;omega) rfl (fun s33=> ?_) (zll [x k h.evs[k]]))
   refine za3 s33 fun sv hsv=> ?_
   subst hsv
   refine rn ?_;exact zf8 (.refl _) ⟨_,_,.trans (.perm ((pt1 _ _ _).trans (.cons _ ((pt1 _ _ _).trans (.cons _ (pt1 _ _ _))))) _) (.drop [_] _ _),sv,.inl ⟨rfl,trivial,by rw [yfm hk (yfn hkd hc24),List.map_append];rfl⟩⟩
  ·refine rn ?_;exact zf8 (.refl _) ⟨_,_,.trans (.perm ((pt1 _ _ _).trans (.cons _ ((pt1 _ _ _).trans (.cons _ (pt1 _ _ _))))) _) (.drop [_] _ _),s,.inl ⟨rfl,trivial,by rw [zze hk (yfo hc24)]⟩⟩
 ·obtain ⟨_,s,rfl⟩:=hK
  refine rn ?_;exact zgq (.refl _) (.cons _ _ _ _ (.tmp _ _ rfl) .nil) (.trans (.drop1 _ _ _) (.trans (.perm (pt1 _ _ _) _) (.trans (.drop [_] _ _) (.trans (.perm (pt1 _ _ _) _) (.drop [_] _ _))))) ⟨s,rfl,rfl⟩
 ·obtain ⟨hc,_⟩:=hK
  exact absurd hc (by simp)
theorem ybv (k s:Int) (e:Ev) (b2 b3 rm:Nat) (M:List (Int×Bool)):x3 Tryz.prog 74 [iv k,.agg (evR e),pZ b2,pZ b3] [.box b2 3 [iv s],.box b3 126 [mpv rm],.map rm (j4 zbi (zba bv M))] (fun r h'=>h'= [.box b2 3 [iv s],.box b3 126 [mpv rm],.map rm (j4 zbi (zba bv M))]∧r= .tup [iv e.t,bv (e.s==s && (zbd e.t M).getD false)]):=by
 refine z6 Tryz.func74 rfl rfl rfl ?_
 refine rn ?_;refine z7 rfl (x9 rfl rfl rfl fun b5=> ?_)
 refine rn ?_;refine j5 13 rfl ?_
 refine rn ?_;refine zea (fun hg1_6=> ?_) (fun hg1_6=> ?_)
 ·refine dq rfl rfl qrA ?_;refine dq rfl rfl qrA ?_;refine dq rfl rfl qrA ?_;refine dq rfl rfl (zbq (enc:=zbi) (k:=e.t) false rfl rfl) ?_
  refine rn ?_;refine rq 1 ?_
  exact ⟨rfl,by rw [hg1_6];rfl⟩
 ·refine rn ?_;refine rq 1 ?_
  exact ⟨rfl,by rw [hg1_6];rfl⟩
theorem ybw (k s:Int) (e:Ev) (b2 b3 rm:Nat) (M:List (Int×Bool)):x3 Tryz.prog 161 [iv k,.agg (evR e),pZ b2,pZ b3] [.box b2 3 [iv s],.box b3 126 [mpv rm],.map rm (j4 zbi (zba bv M))] (fun r h'=>h'= [.box b2 3 [iv s],.box b3 126 [mpv rm],.map rm (j4 zbi (zba bv M))]∧r= .tup [iv e.t,bv (e.o==s && (zbd e.t M).getD false)]):=by
 refine z6 Tryz.func161 rfl rfl rfl ?_
 refine rn ?_;refine z7 rfl (x9 rfl rfl rfl fun b5=> ?_)
 refine rn ?_;refine j5 13 rfl ?_
 refine rn ?_;refine zea (fun hg1_6=> ?_) (fun hg1_6=> ?_)
 ·refine dq rfl rfl qrA ?_;refine dq rfl rfl qrA ?_;refine dq rfl rfl qrA ?_;refine dq rfl rfl (zbq (enc:=zbi) (k:=e.t) false rfl rfl) ?_
  refine rn ?_;refine rq 1 ?_
  exact ⟨rfl,by rw [hg1_6];rfl⟩
 ·refine rn ?_;refine rq 1 ?_
  exact ⟨rfl,by rw [hg1_6];rfl⟩
theorem yhs (x:Int) (s:Ord) (b1:Nat):x3 Tryz.prog 160 [.agg (zdk s),pZ b1] [.box b1 3 [iv x]] (fun r h'=>h'= [.box b1 3 [iv x]]∧r=bv (s.o==x)):=by
 refine z6 Tryz.func160 rfl rfl rfl ?_
 refine rn ?_;refine z7 rfl (x9 rfl rfl rfl fun b2=> ?_)
 refine rn ?_;refine rq 1 ?_
 exact ⟨rfl,rfl⟩
set_option maxHeartbeats 4000000 in
theorem zug (h:Hist) (la:h.evs.length≤1000000) (W:List Res):x3 Tryz.prog 72 [.agg (x6 h)] W (fun r h'=>∃rm,h'= .map rm (j4 zbi (zba bv (zir h.evs)))::W∧r=mpv rm):=by
 refine z6 Tryz.func72 rfl rfl rfl ?_
 refine rn ?_;refine z7 rfl (x9 rfl rfl rfl fun b1=> ?_)
 refine rn ?_;refine z7 rfl (zap (enc:=zbi) rfl fun b6=> ?_)
 refine z7 rfl (x5 rfl fun b3=> ?_)
 refine rn ?_;refine z7 rfl (w7 rfl rfl (z8.of_fun (zqx h 5 _)) rfl ?_)
 rintro _ _ ⟨e1,e2,rfl,rfl⟩
 refine rn ?_;refine zff (s':=⟨[(8,.fn (.func 158) [] [pZ e1,pZ e2]),(3,pZ b3)],.box e1 28 (x6 h):: .box e2 3 [iv 5]:: .box b3 126 [mpv b6]:: .map b6 (j4 zbi (zba bv (zir (h.evs.take 0)))):: .box b1 28 (x6 h)::W,[]⟩) es ?_
 refine zl7 (fun pend h''=>pend=none∧h''= .box b3 126 [mpv b6]:: .map b6 (j4 zbi (zba bv (zir (h.evs.take h.evs.length)))):: .box b1 28 (x6 h)::W) rfl (fun fn l q lp hlp=> ?_) (fun q h'' hK=> ?_) (fun q h'' c hK=> ?_)
 ·suffices hy:∀k (x:Unit),(hk:k < h.evs.length)→True→(h.evs[k].kind==5)=true→z8 Tryz.prog (yv l) [iv k,.agg (evR h.evs[k])] (.box e1 28 (x6 h):: .box e2 3 [iv 5]::lp .ready none:: .defs q:: .box b3 126 [mpv b6]:: .map b6 (j4 zbi (zba bv (zir (h.evs.take k)))):: .box b1 28 (x6 h)::W) (fun r h'=>∃x':Unit,(r=bv true∧True∧h'= .box e1 28 (x6 h):: .box e2 3 [iv 5]::lp .ready none:: .defs q:: .box b3 126 [mpv b6]:: .map b6 (j4 zbi (zba bv (zir (h.evs.take (k+1))))):: .box b1 28 (x6 h)::W)∨(r=bv false∧False∧h'= .box e1 28 (x6 h):: .box e2 3 [iv 5]:: [])) by
   refine x3.mono (x3.perm ((pt2 _ _ _ _).trans (.cons _ (pt2 _ _ _ _))) (zm7 h la 5 (yv l) e1 e2 (fun _ _=>True) (fun _ _=>False) (fun k (_:Unit)=>lp .ready none:: .defs q:: .box b3 126 [mpv b6]:: .map b6 (j4 zbi (zba bv (zir (h.evs.take k)))):: .box b1 28 (x6 h)::W) (fun _ _=> []) () trivial hy (fun k s hk _ hn=>⟨s,trivial,by rw [yf1 hk hn]⟩))) ?_
   rintro _ _ (⟨s,_,rfl⟩|⟨_,_,hF,_⟩)
   ·exact ⟨none,.ready,_,.refl _,by simp,rfl,rfl⟩
   ·exact hF.elim
  intro k s hk _ hkd
  refine z8.perm (pt2 _ _ _ _) (z8.ventE ?_)
  refine zdi hlp rfl rfl ?_
  refine rn ?_;refine z7 rfl (x5 rfl fun b5=> ?_)
  refine rn ?_;refine ⟨[(5,pZ b5),(3,pZ b3)],.box b5 66 (evR h.evs[k]):: .box e1 28 (x6 h):: .box e2 3 [iv 5]:: .defs q:: .box b3 126 [mpv b6]:: .map b6 (j4 zbi (zba bv (zir (h.evs.take k)))):: .box b1 28 (x6 h)::W,v8 (zam (pt1 _ _ _)) es,?_⟩
  refine rn ?_;refine z7 rfl (za1 (g:=bv) (enc:=zbi) (k:=h.evs[k].t) (v:=true) rfl rfl rfl ?_)
  refine rn ?_;exact zf8 (.refl _) ⟨_,_,.trans (.perm ((pt1 _ _ _).trans (.cons _ ((pt1 _ _ _).trans (.cons _ (pt1 _ _ _))))) _) (.drop [_] _ _),(),.inl ⟨rfl,trivial,by rw [yf0 hk hkd]⟩⟩
 ·obtain ⟨_,rfl⟩:=hK
  refine rn ?_;exact zgq (.refl _) (.cons _ _ _ _ (.tmp _ _ rfl) .nil) (.trans (.drop1 _ _ _) (.trans (.perm (pt1 _ _ _) _) (.drop [_] _ _))) ⟨b6,by rw [List.take_length],rfl⟩
 ·obtain ⟨hc,_⟩:=hK
  exact absurd hc (by simp)
theorem zvi {h:Hist} {n many:Int} (he:zhl h n many≠0) (X:List Int):(onE (zhl h n many) X).map zcz= []:=by rw [onE,if_neg he];rfl
theorem zun {α:Type} (kd:Int) (g:Ev→α) (q:Ev→Bool) (l:List Ev):ziq (zmg kd (fun _ e=>g e) (fun _ e=>q e)) l l.length=(l.filter fun e=>e.kind==kd && q e).map g:=zx4 (fun _ _=>rfl) l
theorem zzc (h:Hist) (la:Lim 4611686018427387904 h) (n many:Int) (fv:AV) (hone:fv.cellsOf=some [fv]) (X:List Int) (W:List Res) (hp:zhl h n many=0→z8 Tryz.prog fv [] (.glob 3 148 y8:: .glob 5 276 y9:: .glob 6 279 y4:: .glob 2 197 u3::W) (fun r h'=>∃s:SV,h'= .row s.v 1 3 (X.map zcz):: .glob 3 148 y8:: .glob 5 276 y9:: .glob 6 279 y4:: .glob 2 197 u3::W∧r= .v s.v)):x3 Tryz.prog 70 [.agg (x6 h),iv n,iv many,fv] (.glob 3 148 y8:: .glob 5 276 y9:: .glob 6 279 y4:: .glob 2 197 u3::W) (fun r h'=>∃s:SV,h'= .row s.v 1 3 ((onE (zhl h n many) X).map zcz):: .glob 3 148 y8:: .glob 5 276 y9:: .glob 6 279 y4:: .glob 2 197 u3::W∧r= .tup [.v s.v,iv (zhl h n many)]):=by
 refine z6 Tryz.func70 rfl rfl rfl ?_
 refine rn ?_;refine z7 rfl (x9 rfl rfl rfl fun b4=> ?_)
 refine rn ?_;refine qv rfl rfl (y6 rfl rfl (z8.qt (z8.of_fun (zpa h la)) ((pt1 _ _ _).trans (.cons _ ((pt1 _ _ _).trans (.cons _ ((pt1 _ _ _).trans (.cons _ (pt1 _ _ _))))))))) ?_
 refine rn ?_;refine y3 rfl (fun hc15=> ?_) (fun hc15=> ?_)
 ·have hc:za6 h≠0:=by simpa using hc15
  refine rn ?_;exact zbk rfl rfl (.trans (.drop [_] _ _) (zas 1 3 _)) ⟨⟨none,0,0⟩,by rw [zvi (by rw [ygd hc];exact hc)];rfl,by rw [ygd hc];rfl⟩
 ·have hc:za6 h=0:=by simpa using hc15
  refine rn ?_;refine q9 (fun hg5_2=> ?_) (fun hg5_2=> ?_)
  ·refine rn ?_;refine zvg rfl ?_;have hn:¬(0≤n∧n < many):=by first|(have q:=of_decide_eq_true hg5_2;omega)|(have q:=of_decide_eq_true hc24;omega)
   refine rn ?_;exact zbk rfl rfl (.trans (.drop [_] _ _) (zas 1 3 _)) ⟨⟨none,0,0⟩,by rw [zvi (by rw [zvk hc hn];decide)];rfl,by rw [zvk hc hn];rfl⟩
  ·refine rn ?_;refine y3 rfl (fun hc24=> ?_) (fun hc24=> ?_)
   ·have hn:¬(0≤n∧n < many):=by first|(have q:=of_decide_eq_true hg5_2;omega)|(have q:=of_decide_eq_true hc24;omega)
    refine rn ?_;exact zbk rfl rfl (.trans (.drop [_] _ _) (zas 1 3 _)) ⟨⟨none,0,0⟩,by rw [zvi (by rw [zvk hc hn];decide)];rfl,by rw [zvk hc hn];rfl⟩
   ·have hn:0≤n∧n < many:=by have q:=of_decide_eq_false hg5_2;have q':=of_decide_eq_false hc24;omega
    refine rn ?_;refine z7 rfl (w7 rfl rfl (z8.fr1 (hp (zsd hc hn))) rfl ?_)
    rintro _ _ ⟨_,rfl,s,rfl,rfl⟩
    refine rn ?_;exact zbk rfl rfl (.drop [_] _ _) ⟨s,by rw [zsd hc hn];rfl,by rw [zsd hc hn];rfl⟩
theorem zvj {h:Hist} {n many:Int} (he:zhl h n many=0):Lim 3000 h:=zoy (zew (zvl he).1).1
theorem ycx {h:Hist} {n many:Int} (he:zhl h n many=0):h.evs.length≤1000000:=Nat.le_trans (zvj he).evs (by decide)
theorem zjt {h:Hist} (he:za6 h=0):Lim 3000 h:=zoy (zew (zds.1 he)).1
theorem zxs (l:List Ev) (s:Int):ziq (zmg 1 (fun _ e=>e.t) (fun _ e=>e.s==s && (zbd e.t (zir l)).getD false)) l l.length=zdy l s:=by
 rw [zun 1 Ev.t (fun e=>e.s==s && (zbd e.t (zir l)).getD false),zdy];simp only [zq4]
theorem yb3 (l:List Ev) (x:Int):ziq (zmg 2 (fun _ e=>e.t) (fun _ e=>e.o==x && (zbd e.t (zir l)).getD false)) l l.length=yc8 l x:=by
 rw [zun 2 Ev.t (fun e=>e.o==x && (zbd e.t (zir l)).getD false),yc8];simp only [zq4]
theorem yeo {h:Hist} {x:Int} (hc:decide (zb8 (fun o:Ord=>o.o==x) 0 h.ords ≥ 0)=true):∃k,∃hk:k < h.ords.length,zb8 (fun o:Ord=>o.o==x) 0 h.ords=(k:Int)∧ze6 h x=h.ords[k].ts:=by
 have:=zgx (fun o:Ord=>o.o==x) h.ords 0
 cases hf:h.ords.find? (fun o=>o.o==x) with
 |none=>rw [hf] at this;simp only at this;rw [this] at hc;exact absurd hc (by decide)
 |some o=>
  rw [hf] at this
  obtain ⟨k,hk,e,eo,_⟩:=this
  exact ⟨k,hk,by rw [e,Nat.zero_add],by rw [ze6,hf,eo]⟩
theorem yen {h:Hist} {x:Int} (hc:decide (zb8 (fun o:Ord=>o.o==x) 0 h.ords ≥ 0)=false):ze6 h x=zau (yc8 h.evs x):=by
 have:=zgx (fun o:Ord=>o.o==x) h.ords 0
 cases hf:h.ords.find? (fun o=>o.o==x) with
 |none=>rw [ze6,hf]
 |some o=>
  rw [hf] at this
  obtain ⟨k,hk,e,eo,_⟩:=this
  rw [e] at hc
  have:=of_decide_eq_false hc
  omega
set_option maxHeartbeats 4000000 in
theorem ybx (h:Hist) (la:h.evs.length≤1000000) (s:Int) (b2 b4:Nat):x3 Tryz.prog 71 [pZ b2,pZ b4] (.glob 3 148 y8:: .glob 5 276 y9:: .glob 6 279 y4:: .glob 2 197 u3:: .box b2 28 (x6 h):: .box b4 3 [iv s]:: []) (fun r h'=>∃s':SV,h'= .row s'.v 1 3 ((zdy h.evs s).map zcz):: .glob 3 148 y8:: .glob 5 276 y9:: .glob 6 279 y4:: .glob 2 197 u3:: .box b2 28 (x6 h):: .box b4 3 [iv s]:: []∧r= .v s'.v):=by
 refine z6 Tryz.func71 rfl rfl rfl ?_
 refine rn ?_;refine z7 rfl (w7 rfl rfl (z8.of_fun (zug h la _)) rfl ?_)
 rintro _ _ ⟨rm,rfl,rfl⟩
 refine z7 rfl (x5 rfl fun b3=> ?_)
 refine rn ?_;refine z7 rfl (w7 rfl rfl (z8.of_fun (zzb h la 1 _ rfl _ (fun _ e=>e.t) (fun _ e=>e.s==s && (zbd e.t (zir h.evs)).getD false) (fun k hk _=>z8.qt (z8.of_acall (fs:= []) (cs:= [pZ b4,pZ b3]) (ybv k s h.evs[k] b4 b3 rm (zir h.evs))) (pt7 _ _ _ _ _ _ _ _ _)))) rfl ?_)
 rintro _ _ ⟨s',rfl,rfl⟩
 refine rn ?_;exact zab rfl (.trans (.perm ((pt1 _ _ _).trans (.cons _ (pt1 _ _ _))) _) (.drop [_,_] _ _)) ⟨s',by rw [zxs],rfl⟩
set_option maxHeartbeats 4000000 in
theorem yby (h:Hist) (la:Lim 4611686018427387904 h) (n:Int):x3 Tryz.prog 28 [.agg (x6 h),iv n] (.glob 3 148 y8:: .glob 5 276 y9:: .glob 6 279 y4:: .glob 2 197 u3:: []) (fun r h'=>∃s:SV,h'= .row s.v 1 3 ((onE (zhl h n h.ss.length) (zdy h.evs n)).map zcz):: .glob 3 148 y8:: .glob 5 276 y9:: .glob 6 279 y4:: .glob 2 197 u3:: []∧r= .tup [.v s.v,iv (zhl h n h.ss.length)]):=by
 refine z6 Tryz.func28 rfl rfl rfl ?_
 refine rn ?_;refine z7 rfl (x9 rfl rfl rfl fun b2=> ?_)
 refine z7 rfl (x9 rfl rfl rfl fun b3=> ?_)
 refine rn ?_;refine z7 rfl (w7 rfl rfl (z8.perm ((pt2 _ _ _ _).trans (.cons _ ((pt2 _ _ _ _).trans (.cons _ ((pt2 _ _ _ _).trans (.cons _ ((pt2 _ _ _ _).trans (.cons _ (pt1 _ _ _))))))))) (z8.of_fun (zzc h la n (h.ss.map zg2).length (.fn (.func 71) [] [pZ b2,pZ b3]) rfl (zdy h.evs n) [.box b2 28 (x6 h),.box b3 3 [iv n]] (fun he=>z8.of_acall (fs:= []) (cs:= [pZ b2,pZ b3]) (ybx h (ycx he) n b2 b3))))) rfl ?_)
 rintro _ _ ⟨s,rfl,rfl⟩
 refine rn ?_;exact zbk rfl rfl (.trans (.perm ((pt5 _ _ _ _ _ _ _).trans (.cons _ (pt5 _ _ _ _ _ _ _))) _) (.drop [_,_] _ _)) ⟨s,by simp only [List.length_map],by simp only [List.length_map];rfl⟩
theorem ye6 (h:Hist) (la:Lim 4611686018427387904 h) (n:Int):x3 Tryz.prog 28 [.agg (x6 h),iv n] (.glob 3 148 y8:: .glob 5 276 y9:: .glob 6 279 y4:: .glob 2 197 u3:: []) (fun r h'=>h'= .glob 3 148 y8:: .glob 5 276 y9:: .glob 6 279 y4:: .glob 2 197 u3:: []∧r= .tup [zft (onE (zhl h n h.ss.length) (zdy h.evs n)),iv (zhl h n h.ss.length)]):=
 (yby h la n).ventR (by rintro _ _ ⟨s,rfl,rfl⟩;exact ⟨_,_,zay [] [_],rfl,rfl⟩)
set_option maxHeartbeats 4000000 in
theorem yfa (h:Hist) (la:Lim 3000 h) (x:Int) (W:List Res):x3 Tryz.prog 122 [.agg (x6 h),iv x] W (fun r h'=>∃s:SV,h'= .row s.v 1 3 ((ze6 h x).map zcz)::W∧r= .v s.v):=by
 refine z6 Tryz.func122 rfl rfl rfl ?_
 have le:h.evs.length≤1000000:=Nat.le_trans la.evs (by decide)
 have lo:=la.ords
 refine rn ?_;refine z7 rfl (x9 rfl rfl rfl fun b2=> ?_)
 refine z7 rfl (x9 rfl rfl rfl fun b3=> ?_)
 refine rn ?_;refine qv rfl rfl (y6 rfl rfl (z8.of_fun (zhw h.ords _ (fun o:Ord=>o.o==x) _ (fun a _=>z8.qt (z8.of_acall (fs:= []) (cs:= [pZ b3]) (yhs x a b3)) (.refl _)) (Nat.le_trans la.ords (by decide))))) ?_
 refine rn ?_;refine y3 rfl (fun hc13=> ?_) (fun hc13=> ?_)
 ·obtain ⟨k,hk,ek,hx⟩:=yeo hc13
  have rk:=zc8 (f:=zdk) hk
  rw [ek]
  refine rn ?_;refine z7 rfl (w7 rfl rfl (z8.fr (z8.rowS (z8.of_fun (zjs (h.ords[k].ts.map zcz) (by rw [List.length_map];exact Nat.le_trans (la.ordts h.ords[k] (List.getElem_mem hk)) (by decide)) (zll _)))) (.refl _)) rfl ?_)
  rintro _ _ ⟨_,rfl,s,rfl,rfl⟩
  refine rn ?_;exact zab rfl (.trans (.perm ((pt1 _ _ _).trans (.cons _ (pt1 _ _ _))) _) (.drop [_,_] _ _)) ⟨s,by rw [hx],rfl⟩
 ·have hx:=yen hc13
  refine rn ?_;refine z7 rfl (w7 rfl rfl (z8.of_fun (zug h le _)) rfl ?_)
  rintro _ _ ⟨rm,rfl,rfl⟩
  refine z7 rfl (x5 rfl fun b6=> ?_)
  refine rn ?_;refine z7 rfl (w7 rfl rfl (z8.of_fun (zzb h le 2 _ rfl _ (fun _ e=>e.t) (fun _ e=>e.o==x && (zbd e.t (zir h.evs)).getD false) (fun k hk _=>z8.qt (z8.of_acall (fs:= []) (cs:= [pZ b3,pZ b6]) (ybw k x h.evs[k] b3 b6 rm (zir h.evs))) (pt2 _ _ _ _)))) rfl ?_)
  rintro _ _ ⟨s,rfl,rfl⟩
  refine rn ?_;refine z7 rfl (w7 rfl rfl (zjj (z8.of_fun (ycm s _ (by have:=(zly (zmg 2 (fun _ e=>e.t) (fun _ e=>e.o==x && (zbd e.t (zir h.evs)).getD false)) h.evs h.evs.length);omega)))) rfl ?_)
  rintro _ _ ⟨s',rfl,rfl⟩
  refine rn ?_;exact zab rfl (.trans (.perm ((pt1 _ _ _).trans (.cons _ ((pt1 _ _ _).trans (.cons _ ((pt1 _ _ _).trans (.cons _ (pt1 _ _ _))))))) _) (.drop [_,_,_,_] _ _)) ⟨s',by rw [hx,yb3],rfl⟩
theorem ye9 (h:Hist) (la:Lim 3000 h) (x:Int) (b2 b3:Nat):x3 Tryz.prog 121 [pZ b2,pZ b3] (.glob 3 148 y8:: .glob 5 276 y9:: .glob 6 279 y4:: .glob 2 197 u3:: .box b2 28 (x6 h):: .box b3 3 [iv x]:: []) (fun r h'=>∃s:SV,h'= .row s.v 1 3 ((ze6 h x).map zcz):: .glob 3 148 y8:: .glob 5 276 y9:: .glob 6 279 y4:: .glob 2 197 u3:: .box b2 28 (x6 h):: .box b3 3 [iv x]:: []∧r= .v s.v):=by
 refine z6 Tryz.func121 rfl rfl rfl ?_
 refine rn ?_;refine z7 rfl (w7 rfl rfl (z8.of_fun (yfa h la x _)) rfl ?_)
 rintro _ _ ⟨s,rfl,rfl⟩
 refine rn ?_;exact zab rfl (.refl _ _) ⟨s,rfl,rfl⟩
set_option maxHeartbeats 4000000 in
theorem ybz (h:Hist) (la:Lim 4611686018427387904 h) (x:Int):x3 Tryz.prog 75 [.agg (x6 h),iv x] (.glob 3 148 y8:: .glob 5 276 y9:: .glob 6 279 y4:: .glob 2 197 u3:: []) (fun r h'=>∃s:SV,h'= .row s.v 1 3 ((onE (zhl h x h.os.length) (ze6 h x)).map zcz):: .glob 3 148 y8:: .glob 5 276 y9:: .glob 6 279 y4:: .glob 2 197 u3:: []∧r= .tup [.v s.v,iv (zhl h x h.os.length)]):=by
 refine z6 Tryz.func75 rfl rfl rfl ?_
 refine rn ?_;refine z7 rfl (x9 rfl rfl rfl fun b2=> ?_)
 refine z7 rfl (x9 rfl rfl rfl fun b3=> ?_)
 refine rn ?_;refine z7 rfl (w7 rfl rfl (z8.perm ((pt2 _ _ _ _).trans (.cons _ ((pt2 _ _ _ _).trans (.cons _ ((pt2 _ _ _ _).trans (.cons _ ((pt2 _ _ _ _).trans (.cons _ (pt1 _ _ _))))))))) (z8.of_fun (zzc h la x (h.os.map zg2).length (.fn (.func 121) [] [pZ b2,pZ b3]) rfl (ze6 h x) [.box b2 28 (x6 h),.box b3 3 [iv x]] (fun he=>z8.of_acall (fs:= []) (cs:= [pZ b2,pZ b3]) (ye9 h (zvj he) x b2 b3))))) rfl ?_)
 rintro _ _ ⟨s,rfl,rfl⟩
 refine rn ?_;exact zbk rfl rfl (.trans (.perm ((pt5 _ _ _ _ _ _ _).trans (.cons _ (pt5 _ _ _ _ _ _ _))) _) (.drop [_,_] _ _)) ⟨s,by simp only [List.length_map],by simp only [List.length_map];rfl⟩
theorem ye7 (h:Hist) (la:Lim 4611686018427387904 h) (x:Int):x3 Tryz.prog 75 [.agg (x6 h),iv x] (.glob 3 148 y8:: .glob 5 276 y9:: .glob 6 279 y4:: .glob 2 197 u3:: []) (fun r h'=>h'= .glob 3 148 y8:: .glob 5 276 y9:: .glob 6 279 y4:: .glob 2 197 u3:: []∧r= .tup [zft (onE (zhl h x h.os.length) (ze6 h x)),iv (zhl h x h.os.length)]):=
 (ybz h la x).ventR (by rintro _ _ ⟨s,rfl,rfl⟩;exact ⟨_,_,zay [] [_],rfl,rfl⟩)
theorem zub (l:List Ev) (t x:Int):∀k,k≤l.length→zbd (t,x) (zmf (l.take k))=(zr1 l t x k).map Prod.fst
 |0,_=>rfl
 |k+1,hk=>by
  have ih:=zub l t x k (by omega)
  rw [List.take_succ_eq_append_getElem hk,zcy,zr1,List.getElem?_eq_getElem hk]
  simp only
  by_cases hw:zpv t x l[k]=true
  ·obtain ⟨h2,ht,hx⟩:=zkc.1 hw
   rw [if_pos (by simpa using h2),zc3,if_pos (by rw [kTO,ht,hx]),if_pos hw];rfl
  ·rw [if_neg hw]
   by_cases h2:l[k].kind=2
   ·rw [if_pos (by simpa using h2),zc3,if_neg,ih]
    intro e
    rw [kTO,Prod.mk.injEq] at e
    exact hw (zkc.2 ⟨h2,e.1,e.2⟩)
   ·rw [if_neg (by simpa using h2),ih]
theorem ybu (h:Hist) (t x:Int):(zbd (t,x) (zmf h.evs)).getD ⟨0,0⟩=zv4 h x t:=by
 have:=zub h.evs t x h.evs.length (Nat.le_refl _)
 rw [List.take_length] at this
 rw [this,zv4,yh5]
 cases zr1 h.evs t x h.evs.length <;> rfl
abbrev rkS (h:Hist) (rk:Nat):Res:= .map rk (j4 zdz (zba iv (rkM h h.os.length)))
theorem yg9 (h:Hist) (n:Nat):rkM h (n+1)=zey h n 0 ((ze6 h n).take (ze6 h n).length) (zd7 (zrh n ⟨0,0⟩) 0 (rkM h n)):=by rw [List.take_length];rfl
theorem yfe {h:Hist} (hc:za6 h=0) {x:Int} (h0:0≤x) (h1:x < h.os.length):(ze6 h x).length≤3000:=by
 rw [(zpb (zds.1 hc) h0 h1).2.1]
 exact Nat.le_trans (zg4 h.evs x) (zjt hc).evs
theorem ye4 {h:Hist} {j:Nat} (hj:j < h.evs.length) (hw:(h.evs[j].kind==2)=true):zmf (h.evs.take (j+1))=zd7 (h.evs[j].t,h.evs[j].o) h.evs[j].v (zmf (h.evs.take j)):=by
 rw [List.take_succ_eq_append_getElem hj,zcy,if_pos hw];rfl
theorem ye5 {h:Hist} {j:Nat} (hj:j < h.evs.length) (hw:(h.evs[j].kind==2)=false):zmf (h.evs.take (j+1))=zmf (h.evs.take j):=by
 rw [List.take_succ_eq_append_getElem hj,zcy,hw];rfl
theorem zzq {h:Hist} {t kd:Int} {k:Nat} {e:Ev} {r:Int} (ht:e.t=t) (hk:e.kind=kd) (hr:zv1 h e.o e.v=some r):zj3 h t kd k e= [⟨e.o,r,k⟩]:=by
 rw [zj3,if_pos (by simp [ht,hk]),hr]
theorem zrd {h:Hist} {t kd:Int} {k:Nat} {e:Ev} (hn:¬(e.t=t∧e.kind=kd)):zj3 h t kd k e= []:=by
 rw [zj3,if_neg];intro q;rw [Bool.and_eq_true,beq_iff_eq,beq_iff_eq] at q;exact hn q
theorem zzr {h:Hist} {t kd:Int} {k:Nat} {e:Ev} (hr:zv1 h e.o e.v=none):zj3 h t kd k e= []:=by
 rw [zj3];split
 ·rw [hr]
 ·rfl
theorem zh1 {h:Hist} {t kd:Int} {k:Nat} (hk:k < h.evs.length):zj1 h t kd (k+1)=zj1 h t kd k++zj3 h t kd k h.evs[k]:=by rw [zj1,List.getElem?_eq_getElem hk]
theorem zyr (h:Hist) (t kd:Int) (k:Nat) (e:Ev):(zj3 h t kd k e).length≤1:=by
 rw [zj3];split
 ·split <;> simp
 ·simp
theorem zen (h:Hist) (t kd:Int):∀k,(zj1 h t kd k).length≤k
 |0=>Nat.le_refl _
 |k+1=>by
  have h1:=zen h t kd k
  rw [zj1,List.length_append]
  split
  ·have h2:=zyr h t kd k
   rename_i e _
   have:=h2 e;omega
  ·simp;omega
theorem ygj {h:Hist} {t kd:Int} {a:Acc} (ha:a∈zmb h t kd):0≤a.o∧a.o < h.os.length:=by
 obtain ⟨k,hk,_,_,ho,_,hr⟩:=ygk ha
 by_cases q:((h.os.length:Nat):Int)≤h.evs[k].o∨h.evs[k].o < 0
 ·rw [zv1,ztd h _ _ _ q] at hr;cases hr
 ·rw [ho];omega
structure Dos where
 t:Int
 A:List Acc
 B:List Acc
abbrev zfg (l:List Acc):AV:= .list false 3 (l.map accR)
abbrev zbj (d:Dos):List AV:= [iv d.t,zfg d.A,zfg d.B]
abbrev zc1 (l:List Dos):AV:= .list false 3 (l.map zbj)
def zpk (h:Hist) (t:Int):Dos:=⟨t,zn2 h.os.length (zmb h t 3),zn2 h.os.length (zmb h t 2)⟩
def u9 (h:Hist) (s:Int):List Dos:=(zdy h.evs s).map (zpk h)
def zbx (h:Hist) (s:Int):Int:=zhl h s h.ss.length
def zxt (h:Hist) (s:Int):List Dos:=if zbx h s=0 then u9 h s else []
theorem zqu (h:Hist) (s:Int):(zdy h.evs s).length≤h.evs.length:=by
 rw [zdy,List.length_map];exact List.length_filter_le _ _
theorem ybs {h:Hist} {s:Int} (he:zbx h s≠0):zxt h s= []:=if_neg he
theorem zo4 {h:Hist} {s:Int} (he:zbx h s=0):zxt h s=u9 h s:=if_pos he
instance:Chk3 Tryz.prog 139:=⟨fun e w a b c=>by kernel_rfl⟩
theorem ye8 (h:Hist) (la:Lim 4611686018427387904 h) (hc:za6 h=0) (x:Int) (h0:0≤x) (h1:x < h.os.length):x3 Tryz.prog 75 [.agg (x6 h),iv x] (.glob 3 148 y8:: .glob 5 276 y9:: .glob 6 279 y4:: .glob 2 197 u3:: []) (fun r h'=>h'= .glob 3 148 y8:: .glob 5 276 y9:: .glob 6 279 y4:: .glob 2 197 u3:: []∧r= .tup [zft (ze6 h x),iv 0]):=(ye7 h la x).mono fun _ _ q=>⟨q.1,by rw [q.2,zsd hc ⟨h0,h1⟩];rfl⟩
set_option maxHeartbeats 4000000 in
theorem zwo (h:Hist) (la:Lim 4611686018427387904 h) (hc:za6 h=0):x3 Tryz.prog 117 [.agg (x6 h)] (.glob 3 148 y8:: .glob 5 276 y9:: .glob 6 279 y4:: .glob 2 197 u3:: []) (fun r h'=>∃rk,h'=rkS h rk:: .glob 3 148 y8:: .glob 5 276 y9:: .glob 6 279 y4:: .glob 2 197 u3:: []∧r=mpv rk):=by
 refine z6 Tryz.func117 rfl rfl rfl ?_
 have lA:=zjt hc
 have lO:=lA.os
 have lE:=lA.evs
 refine rn ?_;refine z7 rfl (x9 rfl rfl rfl fun b1=> ?_)
 refine rn ?_;refine z7 rfl (zap (enc:=zdz) rfl fun bO=> ?_)
 refine rn ?_;refine z7 rfl (zap (enc:=zcr) rfl fun bL=> ?_)
 refine rn ?_;refine zaw h.evs.length (fun _=>True) (fun j=>⟨[(17,iv j),(1,pZ b1),(3,mpv bO),(4,mpv bL),(15,zsi h.evs),(16,iv (h.evs.map evR).length)],.map bL (j4 zcr (zba zri (zmf (h.evs.take j)))):: .map bO (j4 zdz (zba iv [])):: .box b1 28 (x6 h):: .glob 3 148 y8:: .glob 5 276 y9:: .glob 6 279 y4:: .glob 2 197 u3:: [],[]⟩) trivial es ?_
 intro j lj _
 refine rn ?_;refine y3 rfl (fun hc18=> ?_) (fun hc18=> ?_)
 ·have hj:=zdx hc18
  have rj:=zc8 (f:=evR) hj
  refine rn ?_;refine z7 rfl (x5 rfl fun b6=> ?_)
  refine rn ?_;refine y3 rfl (fun hc23=> ?_) (fun hc23=> ?_)
  ·have hw:(h.evs[j].kind==2)=true:=by simpa using hc23
   refine y7 ?_;refine q1 ?_;refine q1 ?_;refine q1 ?_;refine q1 ?_;refine q1 ?_;refine qq rfl rfl (zcq (out:= [iv h.evs[j].t,iv h.evs[j].o]) rfl (by rfl)) ?_
   refine rn ?_;refine z7 rfl (za1 (g:=zri) (enc:=zcr) (k:=(h.evs[j].t,h.evs[j].o)) (v:=h.evs[j].v) rfl rfl rfl ?_)
   refine rn ?_;exact ⟨hj,trivial,by rw [ye4 hj hw];exact eA⟩
  ·have hw:(h.evs[j].kind==2)=false:=by simpa using hc23
   refine rn ?_;exact ⟨hj,trivial,by rw [ye5 hj hw];exact eA⟩
 ·have qj:=zd0 hc18 lj
  subst qj
  rw [List.take_length]
  refine rn ?_;refine zaw h.os.length (fun _=>True) (fun k=>⟨[(36,iv k),(1,pZ b1),(3,mpv bO),(4,mpv bL),(35,iv (h.os.map zg2).length)],.map bL (j4 zcr (zba zri (zmf h.evs))):: .map bO (j4 zdz (zba iv (rkM h k))):: .box b1 28 (x6 h):: .glob 3 148 y8:: .glob 5 276 y9:: .glob 6 279 y4:: .glob 2 197 u3:: [],[]⟩) trivial es ?_
  intro k lk _
  refine rn ?_;refine y3 rfl (fun hc37=> ?_) (fun hc37=> ?_)
  ·have hk:k < h.os.length:=by have q:=of_decide_eq_true hc37;rw [List.length_map] at q;omega
   have k0:(0:Int)≤(k:Int):=by omega
   have k1:(k:Int) < h.os.length:=by omega
   have hb:=yfe hc k0 k1
   refine zad ?_;refine j7 ?_;refine x8 ?_;refine zac ?_;refine x8 (y7 ?_)
   refine q1 ?_;refine q1 ?_;refine u2 (j7 ?_)
   refine x8 (y7 ?_)
   refine q1 ?_;refine q1 ?_;refine qq rfl rfl (k6 (out:= [iv k,iv 0,iv 0]) rfl (by rfl)) ?_
   refine z7 rfl (za1 (g:=iv) (enc:=zdz) (k:=((k:Int),(0:Int),(0:Int))) (v:=(0:Int)) rfl rfl rfl ?_)
   refine rn ?_;refine qv rfl rfl (y6 rfl rfl (z8.qt (z8.of_fun (ye8 h la hc k k0 k1)) ((pt3 _ _ _ _ _).trans (.cons _ ((pt3 _ _ _ _ _).trans (.cons _ ((pt3 _ _ _ _ _).trans (.cons _ (pt3 _ _ _ _ _))))))))) ?_
   refine rn ?_;refine zaw (ze6 h k).length (fun _=>True) (fun j=>⟨[(50,iv j),(1,pZ b1),(3,mpv bO),(4,mpv bL),(7,iv k),(35,iv (h.os.map zg2).length),(36,iv k),(48,zft (ze6 h k)),(49,iv ((ze6 h k).map zcz).length)],.map bL (j4 zcr (zba zri (zmf h.evs))):: .map bO (j4 zdz (zba iv (zey h k 0 ((ze6 h k).take j) (zd7 (zrh k ⟨0,0⟩) 0 (rkM h k))))):: .box b1 28 (x6 h):: .glob 3 148 y8:: .glob 5 276 y9:: .glob 6 279 y4:: .glob 2 197 u3:: [],[]⟩) trivial es ?_
   intro j lj _
   refine rn ?_;refine y3 rfl (fun hc51=> ?_) (fun hc51=> ?_)
   ·have hj:=zdx hc51
    have rj:=zc8 (f:=zcz) hj
    refine zad ?_;refine j7 ?_;refine x8 ?_;refine zac ?_;refine x8 (y7 ?_)
    refine q1 ?_;refine q1 ?_;refine q1 ?_;refine q1 ?_;refine q1 ?_;refine u2 (j7 ?_)
    refine y7 ?_;refine q1 ?_;refine q1 ?_;refine q1 ?_;refine q1 ?_;refine q1 ?_;refine qq rfl rfl (zcq (out:= [iv (ze6 h k)[j],iv k]) rfl (by rfl)) ?_
    refine qq rfl rfl (za0 (zbq (g:=zri) (enc:=zcr) (k:=((ze6 h k)[j],(k:Int))) (⟨0,0⟩:Ver) rfl rfl) (show zri _=zri (zv4 h k (ze6 h k)[j]) from congrArg zri (ybu h (ze6 h k)[j] k))) ?_
    refine qq rfl rfl (k6 (out:= [iv k,iv (zv4 h k (ze6 h k)[j]).t,iv (zv4 h k (ze6 h k)[j]).k]) rfl (by rfl)) ?_
    refine q1 ?_;refine qq rfl rfl (j8 rfl rfl rfl (by omega)) ?_
    refine z7 rfl (za1 (g:=iv) (enc:=zdz) (k:=((k:Int),(zv4 h k (ze6 h k)[j]).t,(zv4 h k (ze6 h k)[j]).k)) (v:=(j:Int)+1) rfl rfl rfl ?_)
    refine rn ?_;exact ⟨hj,trivial,by rw [yat hj];exact eA⟩
   ·have qj:=zd0 hc51 lj
    rw [qj,List.take_length]
    refine rn ?_;exact ⟨hk,trivial,by rw [yg9,List.take_length];exact eA⟩
  ·have qk:k=h.os.length:=by have q:=of_decide_eq_false hc37;rw [List.length_map] at q;omega
   refine rn ?_;exact zab rfl (.trans (.perm (.cons _ (pt1 _ _ _)) _) (.drop [_,_] _ _)) ⟨bO,by rw [qk],rfl⟩
set_option maxHeartbeats 4000000 in
theorem yg7 (h:Hist) (la:Lim 4611686018427387904 h) (hc:za6 h=0) (t:Int) (rO:Nat) (W:List Res):x3 Tryz.prog 118 [.agg (x6 h),iv t,mpv rO] (rkS h rO::W) (fun r h'=>h'=rkS h rO::W∧r= .agg (zbj (zpk h t))):=by
 refine z6 Tryz.func118 rfl rfl rfl ?_
 have lA:=zjt hc
 have lO:=lA.os
 have lE:=lA.evs
 refine rn ?_;refine z7 rfl (x9 rfl rfl rfl fun b3=> ?_)
 refine z7 rfl (x5 rfl fun b6=> ?_)
 refine rn ?_;refine z7 rfl (x5 rfl fun b7=> ?_)
 refine rn ?_;refine zge h.evs.length (fun _ (_:SV×SV)=>True) (fun k z=>⟨[(19,iv k),(1,iv t),(2,mpv rO),(6,pZ b6),(7,pZ b7),(17,zsi h.evs),(18,iv (h.evs.map evR).length)],.row z.1.v 3 178 ((zj1 h t 3 k).map accR):: .row z.2.v 3 178 ((zj1 h t 2 k).map accR):: .box b7 121 [iv t,.v z.1.v,.v z.2.v]:: .box b6 121 [iv 0,.v (.slice none 0 0),.v (.slice none 0 0)]:: .box b3 28 (x6 h)::rkS h rO::W,[]⟩) (⟨none,0,0⟩,⟨none,0,0⟩) trivial (v8 (zb9 3 178) (v8 (zb9 3 178) es)) ?_
 rintro k ⟨sR,sI⟩ lk -
 show aw _ _ _ _ _ ⟨[(19,iv k),(1,iv t),(2,mpv rO),(6,pZ b6),(7,pZ b7),(17,zsi h.evs),(18,iv (h.evs.map evR).length)],.row sR.v 3 178 ((zj1 h t 3 k).map accR):: .row sI.v 3 178 ((zj1 h t 2 k).map accR):: .box b7 121 [iv t,.v sR.v,.v sI.v]:: .box b6 121 [iv 0,.v (.slice none 0 0),.v (.slice none 0 0)]:: .box b3 28 (x6 h)::rkS h rO::W,[]⟩
 refine rn ?_;refine y3 rfl (fun hc20=> ?_) (fun hc20=> ?_)
 ·have hk:=zdx hc20
  have rk:=zc8 (f:=evR) hk
  refine rn ?_;refine z7 rfl (x5 rfl fun b9=> ?_)
  refine rn0 ?_;refine x8 ?_;refine zf5 (⟨[(37,bv (h.evs[k].t !=t||(h.evs[k].kind !=3 && h.evs[k].kind !=2))),(8,iv k),(9,pZ b9),(19,iv k),(1,iv t),(2,mpv rO),(6,pZ b6),(7,pZ b7),(17,zsi h.evs),(18,iv (h.evs.map evR).length)],.box b9 66 (evR h.evs[k]):: .row sR.v 3 178 ((zj1 h t 3 k).map accR):: .row sI.v 3 178 ((zj1 h t 2 k).map accR):: .box b7 121 [iv t,.v sR.v,.v sI.v]:: .box b6 121 [iv 0,.v (.slice none 0 0),.v (.slice none 0 0)]:: .box b3 28 (x6 h)::rkS h rO::W,[]⟩) ?_ ?_
  ·refine rn ?_;refine q9 (fun hg5_4=> ?_) (fun hg5_4=> ?_)
   ·refine rn ?_;first|(rw [hg5_4,Bool.true_or];exact eA)|(rw [hg5_4,Bool.false_or,hg5_8,Bool.true_and];exact eA)|(rw [hg5_4,Bool.false_or,hg5_8,Bool.false_and];exact eA)
   ·refine rn ?_;refine q9 (fun hg5_8=> ?_) (fun hg5_8=> ?_)
    ·refine rn ?_;first|(rw [hg5_4,Bool.true_or];exact eA)|(rw [hg5_4,Bool.false_or,hg5_8,Bool.true_and];exact eA)|(rw [hg5_4,Bool.false_or,hg5_8,Bool.false_and];exact eA)
    ·refine rn ?_;first|(rw [hg5_4,Bool.true_or];exact eA)|(rw [hg5_4,Bool.false_or,hg5_8,Bool.true_and];exact eA)|(rw [hg5_4,Bool.false_or,hg5_8,Bool.false_and];exact eA)
  ·refine y3 rfl (fun hc37=> ?_) (fun hc37=> ?_)
   ·have hn3:zj3 h t 3 k h.evs[k]= []:=zrd (by rintro ⟨e1,e2⟩;have q:=hc37;rw [e1,e2] at q;simp at q)
    have hn2:zj3 h t 2 k h.evs[k]= []:=zrd (by rintro ⟨e1,e2⟩;have q:=hc37;rw [e1,e2] at q;simp at q)
    refine rn ?_;exact ⟨hk,(sR,sI),trivial,by rw [zh1 hk,zh1 hk,hn3,hn2,List.append_nil,List.append_nil];exact eA⟩
   ·have q:=hc37
    rw [Bool.or_eq_false_iff,Bool.and_eq_false_iff] at q
    have ht:h.evs[k].t=t:=by simpa using q.1
    have hkk:h.evs[k].kind=3∨h.evs[k].kind=2:=by simpa using q.2
    refine zad ?_;refine j7 ?_;refine x8 (y7 ?_)
    refine q1 ?_;refine q1 ?_;refine q1 ?_;refine q1 ?_;refine q1 ?_;refine qq rfl rfl (k6 (out:= [iv h.evs[k].o,iv h.evs[k].v.t,iv h.evs[k].v.k]) rfl (by rfl)) ?_
    refine qq rfl rfl (zmv (g:=iv) (enc:=zdz) (k:=(h.evs[k].o,h.evs[k].v.t,h.evs[k].v.k)) (0:Int) rfl rfl rfl) ?_
    refine q1 ?_;refine q1 ?_;refine q1 ?_;refine q1 ?_;refine q1 ?_;refine u2 (j7 ?_)
    refine x8 (y7 ?_)
    refine q1 ?_;refine q1 ?_;refine q1 ?_;refine q1 ?_;refine qq rfl rfl (k6 (out:= [iv h.evs[k].o,iv ((zbd (h.evs[k].o,h.evs[k].v.t,h.evs[k].v.k) (rkM h h.os.length)).getD 0),iv k]) rfl (by rfl)) ?_
    refine z7 rfl (x5 rfl fun b12=> ?_)
    refine rn ?_;refine y3 rfl (fun hc59=> ?_) (fun hc59=> ?_)
    ·have hr:zv1 h h.evs[k].o h.evs[k].v=none:=by
      have q:(zbd (h.evs[k].o,h.evs[k].v.t,h.evs[k].v.k) (rkM h h.os.length)).isSome=false:=by simpa using hc59
      exact Option.isNone_iff_eq_none.1 (by rw [←Option.not_isSome];show (!(zbd (h.evs[k].o,h.evs[k].v.t,h.evs[k].v.k) (rkM h h.os.length)).isSome)=true;rw [q];rfl)
     have hn3:zj3 h t 3 k h.evs[k]= []:=zzr hr
     have hn2:zj3 h t 2 k h.evs[k]= []:=zzr hr
     refine rn ?_;exact ⟨hk,(sR,sI),trivial,by rw [zh1 hk,zh1 hk,hn3,hn2,List.append_nil,List.append_nil];exact eA⟩
    ·obtain ⟨r0,hr⟩:∃r,(zbd (h.evs[k].o,h.evs[k].v.t,h.evs[k].v.k) (rkM h h.os.length))=some r:=Option.isSome_iff_exists.1 (by simpa using hc59)
     have hr':zv1 h h.evs[k].o h.evs[k].v=some r0:=hr
     rw [hr,Option.getD_some,Option.isSome_some]
     refine rn ?_;refine y3 rfl (fun hc62=> ?_) (fun hc62=> ?_)
     ·have h3:h.evs[k].kind=3:=by simpa using hc62
      have hn3:zj3 h t 3 k h.evs[k]= [⟨h.evs[k].o,r0,k⟩]:=zzq ht h3 hr'
      have hn2:zj3 h t 2 k h.evs[k]= []:=zrd (fun q=>by rw [h3] at q;exact absurd q.2 (by decide))
      refine rn ?_;refine qv rfl rfl (v7 rfl rfl) ?_
      refine z7 rfl (k8 rfl rfl (by simp only [List.length_map,List.length_cons,List.length_nil];have:=zen h t 3 k;omega) rfl (fun s70=> ?_) (fun r hr=>by rw [List.mem_singleton.1 hr];rfl))
      refine za3 s70 fun sv hsv=> ?_
      subst hsv
      refine rn ?_;exact ⟨hk,(sv,sI),trivial,by rw [zh1 hk,zh1 hk,hn3,hn2,List.append_nil,List.map_append];exact eA⟩
     ·have h3:h.evs[k].kind=2:=hkk.resolve_left (by simpa using hc62)
      have hn2:zj3 h t 2 k h.evs[k]= [⟨h.evs[k].o,r0,k⟩]:=zzq ht h3 hr'
      have hn3:zj3 h t 3 k h.evs[k]= []:=zrd (fun q=>by rw [h3] at q;exact absurd q.2 (by decide))
      refine rn ?_;refine qv rfl rfl (v7 rfl rfl) ?_
      refine z7 rfl (k8 rfl rfl (by simp only [List.length_map,List.length_cons,List.length_nil];have:=zen h t 2 k;omega) rfl (fun s57=> ?_) (fun r hr=>by rw [List.mem_singleton.1 hr];rfl))
      refine za3 s57 fun sv hsv=> ?_
      subst hsv
      refine rn ?_;exact ⟨hk,(sR,sv),trivial,by rw [zh1 hk,zh1 hk,hn3,hn2,List.append_nil,List.map_append];exact eA⟩
 ·have qk:=zd0 hc20 lk
  subst qk
  refine rn ?_;refine z7 rfl (w7 rfl rfl (zfn (z8.of_fun (ydk sR h.os.length (zmb h t 3) (fun a ha=>ygj ha) (by omega) (by have:=zen h t 3 h.evs.length;show (zj1 h t 3 h.evs.length).length≤_;omega)))) rfl ?_)
  rintro _ _ ⟨rfl,rfl⟩
  refine rn ?_;refine z7 rfl (w7 rfl rfl (zfn (z8.of_fun (ydk sI h.os.length (zmb h t 2) (fun a ha=>ygj ha) (by omega) (by have:=zen h t 2 h.evs.length;show (zj1 h t 2 h.evs.length).length≤_;omega)))) rfl ?_)
  rintro _ _ ⟨rfl,rfl⟩
  refine u2 (j7 ?_)
  refine x8 (y7 ?_)
  refine zma (v8 (zam (.cons _ (pt1 _ _ _))) (v8 (zf3 [iv t] [.v sI.v]) (v8 (zam (pt1 _ _ _)) (zf3 [iv t,zfg (zn2 h.os.length (zmb h t 3))] [])))) ?_
  refine rn ?_;exact zfr (.cons _ _ _ _ (.agg _ _ _ _ _ _ _ rfl inferInstance inferInstance inferInstance rfl) .nil) (.drop [_,_,_] _ _) ⟨rfl,rfl⟩
set_option maxHeartbeats 4000000 in
theorem zwq (h:Hist) (la:Lim 4611686018427387904 h) (s:Int):x3 Tryz.prog 65 [.agg (x6 h),iv s] (.glob 3 148 y8:: .glob 5 276 y9:: .glob 6 279 y4:: .glob 2 197 u3:: []) (fun r h'=>∃v:SV,h'= .row v.v 3 121 ((zxt h s).map zbj):: .glob 3 148 y8:: .glob 5 276 y9:: .glob 6 279 y4:: .glob 2 197 u3:: []∧r= .tup [.v v.v,iv (zbx h s)]):=by
 refine z6 Tryz.func65 rfl rfl rfl ?_
 refine rn ?_;refine z7 rfl (x9 rfl rfl rfl fun b2=> ?_)
 refine rn ?_;refine qv rfl rfl (y6 rfl rfl (z8.qt (z8.of_fun (ye6 h la s)) ((pt1 _ _ _).trans (.cons _ ((pt1 _ _ _).trans (.cons _ ((pt1 _ _ _).trans (.cons _ (pt1 _ _ _))))))))) ?_
 refine rn ?_;refine y3 rfl (fun hc19=> ?_) (fun hc19=> ?_)
 ·have he:zbx h s≠0:=nzT hc19
  refine rn ?_;exact zbk rfl rfl (.trans (.drop [_] _ _) (zas 3 121 _)) ⟨⟨none,0,0⟩,by rw [ybs he];rfl,rfl⟩
 ·have he:zbx h s=0:=nzF hc19
  have hc:za6 h=0:=zds.2 (zvl he).1
  have lE:=(zjt hc).evs
  have lL:=zqu h s
  rw [show onE (zhl h s h.ss.length) (zdy h.evs s)=(zdy h.evs s) by rw [show zhl h s h.ss.length=0 from he,onE,if_pos rfl]]
  refine rn ?_;refine z7 rfl (w7 rfl rfl (z8.fr1 (z8.of_fun (zwo h la hc))) rfl ?_)
  rintro _ _ ⟨_,rfl,rO,rfl,rfl⟩
  refine rn ?_;refine zl6 (zdy h.evs s).length (fun k v=>⟨[(25,iv k),(9,.v v.v),(2,pZ b2),(8,mpv rO),(23,zft (zdy h.evs s)),(24,iv ((zdy h.evs s).map zcz).length)],.row v.v 3 121 ((((zdy h.evs s).take k).map (zpk h)).map zbj):: .box b2 28 (x6 h)::rkS h rO:: .glob 3 148 y8:: .glob 5 276 y9:: .glob 6 279 y4:: .glob 2 197 u3:: [],[]⟩) ⟨none,0,0⟩ (v8 (zb9 3 121) es) ?_
  intro k v lk
  refine rn ?_;refine y3 rfl (fun hc26=> ?_) (fun hc26=> ?_)
  ·have hk:=zdx hc26
   have rk:=zc8 (f:=zcz) hk
   refine rn ?_;refine qv rfl rfl (y6 rfl rfl (z8.qt (z8.of_fun (yg7 h la hc (zdy h.evs s)[k] rO [])) (pt2 _ _ _ _))) ?_
   refine qv rfl rfl (v7 rfl rfl) ?_
   refine z7 rfl (k8 rfl rfl (by simp only [List.length_map,List.length_cons,List.length_nil];have:=List.length_take_le k (zdy h.evs s);omega) rfl (fun s35=> ?_) (fun r hr=>by rw [List.mem_singleton.1 hr];rfl))
   refine za3 s35 fun sv hsv=> ?_
   subst hsv
   refine rn ?_;exact ⟨hk,sv,by rw [List.take_succ_eq_append_getElem hk,List.map_append,List.map_append];exact eA⟩
  ·have qk:=zd0 hc26 lk
   subst qk
   rw [List.take_length]
   refine rn ?_;exact zbk rfl rfl (.trans (.perm ((pt1 _ _ _).trans (.cons _ (pt1 _ _ _))) _) (.drop [_,_] _ _)) ⟨v,by rw [zo4 he];rfl,by rw [he];rfl⟩
theorem zs1 (h:Hist) (la:Lim 4611686018427387904 h) (s:Int):x3 Tryz.prog 65 [.agg (x6 h),iv s] (.glob 3 148 y8:: .glob 5 276 y9:: .glob 6 279 y4:: .glob 2 197 u3:: []) (fun r h'=>h'= .glob 3 148 y8:: .glob 5 276 y9:: .glob 6 279 y4:: .glob 2 197 u3:: []∧r= .tup [zc1 (zxt h s),iv (zbx h s)]):=(zwq h la s).ventR (by rintro _ _ ⟨v,rfl,rfl⟩;exact ⟨_,_,zay [] [_],rfl,rfl⟩)
abbrev zx7:AV:= .fn (.func 244) [] []
abbrev zx6:AV:= .fn (.func 248) [] []
def x7:List AV:= [iv 1,zx7,zx6,iv 2,zx6,zx6,iv 4,zx7,zx7,iv 8,zx6,zx7]
def zes (k:Nat):Int:=if k=0 then 1 else if k=1 then 2 else if k=2 then 4 else 8
def gFn (k:Nat):Nat:=if k=0∨k=2 then 244 else 248
def gSn (k:Nat):Nat:=if k=0∨k=1 then 248 else 244
abbrev ygx (k:Nat):AV:= .fn (.func (gFn k)) [] []
abbrev ygw (k:Nat):AV:= .fn (.func (gSn k)) [] []
abbrev zqz (k:Nat):List AV:= [iv (zes k),ygx k,ygw k]
theorem yb7 {k:Nat} (hk:k < 4):(x7.drop (k * 3)).take 3=zqz k:=by
 rcases (by omega:k=0∨k=1∨k=2∨k=3) with rfl|rfl|rfl|rfl <;> rfl
def zck (k:Nat) (d:Dos):List Acc:=if k=0∨k=2 then d.B else d.A
def zfi (k:Nat) (d:Dos):List Acc:=if k=0∨k=1 then d.A else d.B
def giK (g:Int):Nat→Int
 |0=> -1
 |k+1=>if zes k=g then (k:Int) else giK g k
def zkr (g:Int):Int:=if g=1 then 0 else if g=2 then 1 else if g=4 then 2 else if g=8 then 3 else -1
theorem yji (g:Int):giK g 4=zkr g:=by
 simp only [giK,zes,zkr]
 by_cases h1:g=1
 ·subst h1;decide
 by_cases h2:g=2
 ·subst h2;decide
 by_cases h3:g=4
 ·subst h3;decide
 by_cases h4:g=8
 ·subst h4;decide
 simp [h1,h2,h3,h4,Ne.symm h1,Ne.symm h2,Ne.symm h3,Ne.symm h4]
theorem yfl {g:Int} (h:¬zkr g < 0):∃k,k < 4∧zkr g=(k:Nat)∧zes k=g:=by
 rw [zkr] at h ⊢
 split
 ·exact ⟨0,by decide,rfl,by rename_i e;rw [e];rfl⟩
 ·split
  ·exact ⟨1,by decide,rfl,by rename_i e;rw [e];rfl⟩
  ·split
   ·exact ⟨2,by decide,rfl,by rename_i e;rw [e];rfl⟩
   ·split
    ·exact ⟨3,by decide,rfl,by rename_i e;rw [e];rfl⟩
    ·exfalso;simp_all
def zf6 (h:Hist) (s g:Int):Int:=if zbx h s≠0 then zbx h s else if zkr g < 0 then 2 else 0
def zzm (h:Hist) (s g:Int):List Dos:=if zf6 h s g=0 then u9 h s else []
def zzn (h:Hist) (s g:Int):Int:=if zf6 h s g=0 then zkr g else 0
theorem zj0 {h:Hist} {s g:Int} (he:zbx h s≠0):zf6 h s g=zbx h s∧zzm h s g= []∧zzn h s g=0:=by
 have:zf6 h s g=zbx h s:=if_pos he
 exact ⟨this,by rw [zzm,this,if_neg he],by rw [zzn,this,if_neg he]⟩
theorem zl9 {h:Hist} {s g:Int} (he:zbx h s=0) (hg:zkr g < 0):zf6 h s g=2∧zzm h s g= []∧zzn h s g=0:=by
 have:zf6 h s g=2:=by rw [zf6,if_neg (by simpa using he),if_pos hg]
 exact ⟨this,by rw [zzm,this,if_neg (by decide)],by rw [zzn,this,if_neg (by decide)]⟩
theorem zgg {h:Hist} {s g:Int} (he:zbx h s=0) (hg:¬zkr g < 0):zf6 h s g=0∧zzm h s g=u9 h s∧zzn h s g=zkr g:=by
 have:zf6 h s g=0:=by rw [zf6,if_neg (by simpa using he),if_neg hg]
 exact ⟨this,by rw [zzm,this,if_pos rfl],by rw [zzn,this,if_pos rfl]⟩
def zhk (k:Nat) (e l:Dos):List Brch:=(zck k e).flatMap fun a=>(zfi k l).filterMap (brk (zes k) e.t l.t a)
theorem yib {g t1 t2:Int} {a b:Acc} (h1:(a.o==b.o)=true) (h2:decide (b.r < a.r)=true):brk g t1 t2 a b=some ⟨g,t1,t2,a.o,a.a,b.a⟩:=by rw [brk,h1,h2];rfl
theorem zu9 {g t1 t2:Int} {a b:Acc} (h1:(a.o==b.o)=false):brk g t1 t2 a b=none:=by rw [brk,h1];rfl
theorem zu8 {g t1 t2:Int} {a b:Acc} (h2:decide (b.r < a.r)=false):brk g t1 t2 a b=none:=by rw [brk,h2,Bool.and_false];rfl
theorem ycb {α β:Type} {f:α→Option β} {l:List α} {k:Nat} {b:β} (hk:k < l.length) (h:f l[k]=some b):(l.take (k+1)).filterMap f=(l.take k).filterMap f++ [b]:=by
 rw [List.take_succ_eq_append_getElem hk,List.filterMap_append];simp [h]
theorem zuq {α β:Type} {f:α→Option β} {l:List α} {k:Nat} (hk:k < l.length) (h:f l[k]=none):(l.take (k+1)).filterMap f=(l.take k).filterMap f:=by
 rw [List.take_succ_eq_append_getElem hk,List.filterMap_append];simp [h]
def zpp (k:Nat) (e l:Dos) (i:Nat):List Brch:=((zck k e).take i).flatMap fun a=>(zfi k l).filterMap (brk (zes k) e.t l.t a)
theorem yf9 {k i:Nat} {e l:Dos} (hi:i < (zck k e).length):zpp k e l (i+1)=zpp k e l i++(zfi k l).filterMap (brk (zes k) e.t l.t (zck k e)[i]):=by
 rw [zpp,List.take_succ_eq_append_getElem hi,List.flatMap_append];simp [zpp]
theorem ycr {k i j:Nat} {e l:Dos} {d:Brch} (hi:i < (zck k e).length) (hj:j < (zfi k l).length) (hd:brk (zes k) e.t l.t (zck k e)[i] (zfi k l)[j]=some d):
 ∃rest,zhk k e l=(zpp k e l i++((zfi k l).take j).filterMap (brk (zes k) e.t l.t (zck k e)[i]))++d::rest:=by
 have e1:(zfi k l).filterMap (brk (zes k) e.t l.t (zck k e)[i])=((zfi k l).take j).filterMap (brk (zes k) e.t l.t (zck k e)[i])++d::((zfi k l).drop (j+1)).filterMap (brk (zes k) e.t l.t (zck k e)[i]):=by
  conv=>lhs;rw [←List.take_append_drop j (zfi k l),List.drop_eq_getElem_cons hj]
  rw [List.filterMap_append,List.filterMap_cons,hd]
 refine ⟨((zfi k l).drop (j+1)).filterMap (brk (zes k) e.t l.t (zck k e)[i])++((zck k e).drop (i+1)).flatMap (fun a=>(zfi k l).filterMap (brk (zes k) e.t l.t a)),?_⟩
 rw [zhk]
 conv=>lhs;rw [←List.take_append_drop i (zck k e),List.drop_eq_getElem_cons hi]
 rw [List.flatMap_append,List.flatMap_cons,e1,zpp]
 simp [List.append_assoc]
theorem zs2 (d:Dos):x3 Tryz.prog 244 [.agg (zbj d)] [] (fun r h'=>h'= []∧r=zfg d.B):=by
 refine z6 Tryz.func244 rfl rfl rfl ?_
 refine rn ?_;refine z7 rfl (x9 rfl rfl rfl fun b1=> ?_)
 refine rn ?_;refine rq 1 ?_
 exact ⟨rfl,rfl⟩
theorem zsz (d:Dos):x3 Tryz.prog 248 [.agg (zbj d)] [] (fun r h'=>h'= []∧r=zfg d.A):=by
 refine z6 Tryz.func248 rfl rfl rfl ?_
 refine rn ?_;refine z7 rfl (x9 rfl rfl rfl fun b1=> ?_)
 refine rn ?_;refine rq 1 ?_
 exact ⟨rfl,rfl⟩
theorem zq0 (k:Nat) (d:Dos):z8 Tryz.prog (ygx k) [.agg (zbj d)] [] (fun r h'=>h'= []∧r=zfg (zck k d)):=by
 rw [ygx,gFn,zck];split
 ·exact z8.of_fun (zs2 d)
 ·exact z8.of_fun (zsz d)
theorem zp9 (k:Nat) (d:Dos):z8 Tryz.prog (ygw k) [.agg (zbj d)] [] (fun r h'=>h'= []∧r=zfg (zfi k d)):=by
 rw [ygw,gSn,zfi];split
 ·exact z8.of_fun (zsz d)
 ·exact z8.of_fun (zs2 d)
set_option maxHeartbeats 4000000 in
theorem zqd (h:Hist) (la:Lim 4611686018427387904 h) (s g:Int):x3 Tryz.prog 58 [.agg (x6 h),iv s,iv g] (.glob 0 117 x7:: .glob 3 148 y8:: .glob 5 276 y9:: .glob 6 279 y4:: .glob 2 197 u3:: []) (fun r h'=>h'= .glob 0 117 x7:: .glob 3 148 y8:: .glob 5 276 y9:: .glob 6 279 y4:: .glob 2 197 u3:: []∧r= .tup [zc1 (zzm h s g),iv (zzn h s g),iv (zf6 h s g)]):=by
 refine z6 Tryz.func58 rfl rfl rfl ?_
 refine rn ?_;refine z7 rfl (x9 rfl rfl rfl fun b3=> ?_)
 refine rn ?_;refine zaw 4 (fun _=>True) (fun k=>⟨[(15,iv (k:Nat)),(9,iv (giK g k)),(1,iv s),(2,iv g),(3,pZ b3),(14,.agg x7)],.box b3 28 (x6 h):: .glob 0 117 x7:: .glob 3 148 y8:: .glob 5 276 y9:: .glob 6 279 y4:: .glob 2 197 u3:: [],[]⟩) trivial es ?_
 intro k lk _
 refine rn ?_;refine y3 rfl (fun hc16=> ?_) (fun hc16=> ?_)
 ·have hk:k < 4:=by have q:=of_decide_eq_true hc16;omega
  refine zad ?_;refine j7 ?_;refine x8 ?_;refine zac ?_;refine x8 (y7 ?_)
  refine q1 ?_;refine qq rfl rfl (zep (i:=k) (out:=zqz k) rfl rfl hk (by show k * 3+3≤12;omega) (yb7 hk)) ?_
  refine z7 rfl (x5 rfl fun b11=> ?_)
  refine rn ?_;refine y3 rfl (fun hc22=> ?_) (fun hc22=> ?_)
  ·have hg:zes k=g:=by simpa using hc22
   refine rn ?_;exact ⟨hk,trivial,by rw [giK,if_pos hg];exact eA⟩
  ·have hg:¬zes k=g:=by simpa using hc22
   refine rn ?_;exact ⟨hk,trivial,by rw [giK,if_neg hg];exact eA⟩
 ·have qk:k=4:=by have q:=of_decide_eq_false hc16;omega
  subst qk
  rw [yji]
  refine rn ?_;refine qv rfl rfl (y6 rfl rfl (z8.qt (z8.of_fun (zs1 h la s)) ((pt2 _ _ _ _).trans (.cons _ ((pt2 _ _ _ _).trans (.cons _ ((pt2 _ _ _ _).trans (.cons _ (pt2 _ _ _ _))))))))) ?_
  refine rn ?_;refine y3 rfl (fun hc31=> ?_) (fun hc31=> ?_)
  ·have he:zbx h s≠0:=nzT hc31
   refine rn ?_;exact zfr (.cons _ _ _ _ (.tmp _ _ rfl) (.cons _ _ _ _ (.tmp _ _ rfl) (.cons _ _ _ _ (.tmp _ _ rfl) .nil))) (.trans (.drop [_] _ _) (.trans (zas 3 121 _) (zay [] [_,_]))) ⟨rfl,by rw [(zj0 (g:=g) he).1,(zj0 (g:=g) he).2.1,(zj0 (g:=g) he).2.2];rfl⟩
  ·have he:zbx h s=0:=nzF hc31
   refine rn ?_;refine y3 rfl (fun hc35=> ?_) (fun hc35=> ?_)
   ·have hg:zkr g < 0:=of_decide_eq_true hc35
    refine rn ?_;exact zfr (.cons _ _ _ _ (.tmp _ _ rfl) (.cons _ _ _ _ (.tmp _ _ rfl) (.cons _ _ _ _ (.tmp _ _ rfl) .nil))) (.trans (.drop [_] _ _) (.trans (zas 3 121 _) (zay [] [_,_]))) ⟨rfl,by rw [(zl9 he hg).1,(zl9 he hg).2.1,(zl9 he hg).2.2];rfl⟩
   ·have hg:¬zkr g < 0:=of_decide_eq_false hc35
    refine rn ?_;exact zfr (.cons _ _ _ _ (.tmp _ _ rfl) (.cons _ _ _ _ (.tmp _ _ rfl) (.cons _ _ _ _ (.tmp _ _ rfl) .nil))) (.drop [_] _ _) ⟨rfl,by rw [(zgg he hg).1,(zgg he hg).2.1,(zgg he hg).2.2,zo4 he];rfl⟩
theorem yam (k:Nat) (e l:Dos) (W:List Res):x3 Tryz.prog 69 [iv (k:Int),.agg (zbj e),.agg (zbj l)] W (fun r h'=>∃bi be bl,h'= .box bl 121 (zbj l):: .box be 121 (zbj e):: .box bi 3 [iv (k:Int)]::W∧r= .fn (.func 119) [] [pZ bi,pZ bl,pZ be]):=by
 refine z6 Tryz.func69 rfl rfl rfl ?_
 refine rn ?_;refine z7 rfl (x9 rfl rfl rfl fun b3=> ?_)
 refine z7 rfl (x9 rfl rfl rfl fun b4=> ?_)
 refine z7 rfl (x9 rfl rfl rfl fun b5=> ?_)
 refine rn ?_;exact zab rfl (.refl _ _) ⟨_,_,_,rfl,rfl⟩
set_option maxHeartbeats 4000000 in
theorem yal (k:Nat) (hk:k < 4) (e l:Dos) (h1:(zck k e).length≤1000000) (h2:(zfi k l).length≤1000000) (y:AV) (bi be bl:Nat) {σ:Type} (p:List Brch→σ→Prop) (q:σ→Prop) (I:List Brch→σ→List Res) (X:σ→List Res) (x0:σ) (hp0:p [] x0) (hy:∀pre d rest x,(zhk k e l)=pre++d::rest→p pre x→z8 Tryz.prog y [.agg (zdl d)] (.box bl 121 (zbj l):: .box be 121 (zbj e):: .box bi 3 [iv ((k:Nat):Int)]:: .glob 0 117 x7::I pre x) (fun r h'=>∃x',(r=bv true∧p (pre++ [d]) x'∧h'= .box bl 121 (zbj l):: .box be 121 (zbj e):: .box bi 3 [iv ((k:Nat):Int)]:: .glob 0 117 x7::I (pre++ [d]) x')∨(r=bv false∧q x'∧h'= .box bl 121 (zbj l):: .box be 121 (zbj e):: .box bi 3 [iv ((k:Nat):Int)]:: .glob 0 117 x7::X x'))):x3 Tryz.prog 119 [y,pZ bi,pZ bl,pZ be] (.box bl 121 (zbj l):: .box be 121 (zbj e):: .box bi 3 [iv ((k:Nat):Int)]:: .glob 0 117 x7::I [] x0) (fun r h'=>∃x,(p (zhk k e l) x∧h'= .box bl 121 (zbj l):: .box be 121 (zbj e):: .box bi 3 [iv ((k:Nat):Int)]:: .glob 0 117 x7::I (zhk k e l) x)∨(q x∧h'= .box bl 121 (zbj l):: .box be 121 (zbj e):: .box bi 3 [iv ((k:Nat):Int)]:: .glob 0 117 x7::X x)):=by
 refine z6 Tryz.func119 rfl rfl rfl ?_
 refine x8 (y7 ?_)
 refine q1 ?_;refine qq rfl rfl (u7 (i:=k) rfl rfl (by omega)) ?_
 refine qq rfl rfl (za0 (zf9 rfl (by show 0+k * 3+3≤12;omega)) (show AV.agg _=AV.agg (zqz k) from congrArg AV.agg (by rw [Nat.zero_add];exact yb7 hk))) ?_
 refine z7 rfl (x5 rfl fun b5=> ?_)
 refine rn ?_;refine qv rfl rfl (y6 rfl rfl (z8.pure (R:=fun r=>r=zfg (zfi k l)) (zp9 k l))) ?_
 refine rn ?_;refine qv rfl rfl (y6 rfl rfl (z8.pure (R:=fun r=>r=zfg (zck k e)) (zq0 k e))) ?_
 refine rn ?_;refine zge (zck k e).length (fun i (x:σ)=>p (zpp k e l i) x) (fun i x=>⟨[(23,iv i),(0,y),(2,pZ bl),(3,pZ be),(5,pZ b5),(6,zfg (zfi k l)),(21,zfg (zck k e)),(22,iv ((zck k e).map accR).length)],.box b5 116 (zqz k):: .box bl 121 (zbj l):: .box be 121 (zbj e):: .box bi 3 [iv ((k:Nat):Int)]:: .glob 0 117 x7::I (zpp k e l i) x,[]⟩) x0 hp0 es ?_
 intro i x li zi
 refine rn ?_;refine y3 rfl (fun hc24=> ?_) (fun hc24=> ?_)
 ·have hi:=zdx hc24
  have ri:=zc8 (f:=accR) hi
  refine rn ?_;refine z7 rfl (x5 rfl fun b8=> ?_)
  refine rn ?_;refine zge (zfi k l).length (fun j (x:σ)=>p ((zpp k e l i)++((zfi k l).take j).filterMap (brk (zes k) e.t l.t (zck k e)[i])) x) (fun j x=>⟨[(29,iv j),(0,y),(2,pZ bl),(3,pZ be),(5,pZ b5),(6,zfg (zfi k l)),(8,pZ b8),(21,zfg (zck k e)),(22,iv ((zck k e).map accR).length),(23,iv i),(27,zfg (zfi k l)),(28,iv ((zfi k l).map accR).length)],.box b8 178 (accR (zck k e)[i]):: .box b5 116 (zqz k):: .box bl 121 (zbj l):: .box be 121 (zbj e):: .box bi 3 [iv ((k:Nat):Int)]:: .glob 0 117 x7::I ((zpp k e l i)++((zfi k l).take j).filterMap (brk (zes k) e.t l.t (zck k e)[i])) x,[]⟩) x (by simpa using zi) (by simpa using eA) ?_
  intro j x lj zj
  refine rn ?_;refine y3 rfl (fun hc30=> ?_) (fun hc30=> ?_)
  ·have hj:=zdx hc30
   have rj:=zc8 (f:=accR) hj
   refine rn ?_;refine z7 rfl (x5 rfl fun b10=> ?_)
   refine rn ?_;refine q9 (fun hg8_5=> ?_) (fun hg8_5=> ?_)
   ·refine rn ?_;refine q9 (fun hg8_12=> ?_) (fun hg8_12=> ?_)
    ·refine q1 ?_;refine q1 ?_;refine q1 ?_;refine q1 ?_;refine q1 ?_;refine q1 ?_;refine q1 ?_;refine q1 ?_;refine q1 ?_;refine q1 ?_;refine q1 ?_;refine q1 ?_;refine q1 ?_;refine qq rfl rfl (k6 (out:= [iv (zes k),iv e.t,iv l.t,iv (zck k e)[i].o,iv (zck k e)[i].a,iv (zfi k l)[j].a]) rfl (by rfl)) ?_
     have hbk:=yib (g:=zes k) (t1:=e.t) (t2:=l.t) hg8_5 hg8_12
     obtain ⟨rest,hL⟩:=ycr hi hj hbk
     refine z7 rfl (w7 rfl rfl (z8.fr3 (hy ((zpp k e l i)++((zfi k l).take j).filterMap (brk (zes k) e.t l.t (zck k e)[i])) _ rest x hL zj)) rfl ?_)
     rintro _ _ ⟨_,rfl,x',⟨rfl,hp',rfl⟩|⟨rfl,hq',rfl⟩⟩
     ·refine rn ?_;refine y3 rfl (fun hc62=> ?_) (fun hc62=> ?_)
      ·first|cases hc62|exact absurd hc62 (by decide)|(exfalso;simp_all;done)
      ·refine rn ?_;exact ⟨hj,x',by rw [ycb hj hbk,←List.append_assoc];exact hp',by rw [ycb hj hbk,←List.append_assoc];exact eA⟩
     ·refine rn ?_;refine y3 rfl (fun hc62=> ?_) (fun hc62=> ?_)
      ·refine rn ?_;exact zfr .nil (.drop [_,_,_] _ _) ⟨x',.inr ⟨hq',rfl⟩⟩
      ·first|cases hc62|exact absurd hc62 (by decide)|(exfalso;simp_all;done)
    ·refine rn ?_;refine zpq rfl ?_;refine rn ?_;exact ⟨hj,x,by rw [zuq hj (zu8 hg8_12)];exact zj,by rw [zuq hj (zu8 hg8_12)];exact eA⟩
   ·refine rn ?_;refine zpq rfl ?_;refine rn ?_;exact ⟨hj,x,by rw [zuq hj (zu9 hg8_5)];exact zj,by rw [zuq hj (zu9 hg8_5)];exact eA⟩
  ·have qj:=zd0 hc30 lj
   refine rn ?_;have e1:((zpp k e l i)++((zfi k l).take j).filterMap (brk (zes k) e.t l.t (zck k e)[i]))=(zpp k e l (i+1)):=by rw [yf9 hi,qj,List.take_length]
   exact ⟨hi,x,by rw [←e1];exact zj,by rw [←e1];exact eA⟩
 ·have qi:=zd0 hc24 li
  refine rn ?_;have e1:(zpp k e l i)=(zhk k e l):=by rw [qi,zpp,List.take_length];rfl
  exact zdp .nil (.drop [_] _ _) ⟨x,.inl ⟨by rw [←e1];exact zi,by rw [←e1]⟩⟩
end Go.Proofs
set_option maxRecDepth 100000
namespace Go.Proofs.YtcaijocpofcbdaaGreatDoor
open Go Go.Ab Go.H Go.ChangeShapes Go.WideShapes Go.ChangeAt Go.RowKit
def zlt:List (String×DataW Unit):= [("unicode/utf8.acceptRanges",Rows.laid_unicode_utf8_acceptRanges),("yardarm/history.limits",Rows.laid_yardarm_history_limits),("yardarm/rules.asks",Rows.laid_yardarm_rules_asks),("yardarm/session.guards",Rows.laid_yardarm_session_guards),("unicode/utf8.first",Rows.laid_unicode_utf8_first)]
theorem zqw:(zlt.filter fun x=>x.2.handleName?.isNone)=zo8:=by kernel_rfl
theorem zxx {W:World} (h:laidMetH Tryz.prog zlt W):laidMet Tryz.prog zo8 W:=by
 have:=(laidMetH_iff.1 h).1
 rw [zqw] at this
 exact this
theorem yfj {w:World} (h:laidMetH Tryz.prog zlt w):(Res.glob 2 197 u3).holds w noX:=by
 obtain ⟨g,t,cs,fuel,p,hg,ht,hv,hd⟩:=h.funcs (n:= "yardarm/rules.asks") (d:=ycv) (.tail _ (.tail _ (.head _)))
 obtain rfl:=Option.some.inj ((show Tryz.prog.globalNamed "yardarm/rules.asks" =some 2 by kernel_rfl).symm.trans hg)
 obtain rfl:=Option.some.inj ((show (Tryz.prog.globals[2]?).map (·.type)=some 197 by kernel_rfl).symm.trans ht)
 rw [zvh] at hd
 have c1:Tryz.prog.cellsOf 196=1:=by kernel_rfl
 have c11:Tryz.prog.cellsOf 197=11:=by kernel_rfl
 have hlen:cs.toList.length=11:=by
  obtain ⟨_,_,_,_,hl,_⟩:=DataW.trod_array Tryz.underlying197 hd
  rw [hl,c11]
 unfold World.var? at hv
 rw [hg] at hv
 simp only [Option.bind_some] at hv
 split at hv
 ·rename_i c T0 fr hh
  cases hv
  refine zqy hh (by rw [show u3.length=11 from rfl];simpa using hlen.symm) fun j h1 h2=> ?_
  cases j with
  |zero=>exact .any _
  |succ k=>
   have hk:k < 10:=by have:u3.length=11:=rfl;omega
   obtain ⟨b,r,hn,hone,ha⟩:=zyl k hk
   obtain ⟨f',d,q,e1,e2⟩:=Lib.array_elem Tryz.underlying197 hd (k+1) (by omega)
   have e1':d= .held (b::r):=by
    rw [List.getElem?_cons_succ,List.getElem?_map,List.getElem?_drop,Nat.add_comm 1 k,hn] at e1
    exact (Option.some.inj e1).symm
   subst e1'
   rw [c1,Nat.mul_one,List.drop_eq_getElem_cons (by simpa using h2),List.take_succ_cons,List.take_zero] at e2
   have:=func_of_trod (f0:=fnA.getD k 0) Tryz.underlying196 hone e2
   rw [Array.getElem_toList] at this
   rw [this,show u3[k+1]= .fn (.func (fnA.getD k 0)) [] [] from Option.some.inj ((List.getElem?_eq_getElem h1).symm.trans ha)]
   exact zgw _ _
 ·cases hv
def nmI:List UInt8:= [121,97,114,100,97,114,109,47,115,101,115,115,105,111,110,46,100,111,105,110,103,115,41,46,105,110,115,116,97,108,108]
def nmR:List UInt8:= [121,97,114,100,97,114,109,47,115,101,115,115,105,111,110,46,100,111,105,110,103,115,41,46,114,101,97,100]
def yip:DataW Unit:=match (Rows.laid_yardarm_session_guards:DataW Unit) with| .iface _ d=>d|d=>d
theorem zx3:yip.funcsOut= .agg [.agg [.lit (.int .i64 1),.held (40::nmI),.held (40::nmR)],.agg [.lit (.int .i64 2),.held (40::nmR),.held (40::nmR)],.agg [.lit (.int .i64 4),.held (40::nmI),.held (40::nmI)],.agg [.lit (.int .i64 8),.held (40::nmR),.held (40::nmI)]]:=by kernel_rfl
theorem ygu:((List.range Tryz.prog.funcs.size).filter fun f=>(Tryz.prog.funcs[f]?).any (·.name.toUTF8.data.toList==40::nmI))= [244]:=by kernel_rfl
theorem ygt:((List.range Tryz.prog.funcs.size).filter fun f=>(Tryz.prog.funcs[f]?).any (·.name.toUTF8.data.toList==40::nmR))= [248]:=by kernel_rfl
theorem zlw {w:World} {base:Nat} {sp:Nat→Bool} {fuel:Nat} {cs:List Value} {z:Int} {r1 r2:List UInt8} {f1 f2:FuncId} {q:List MemPlace} (h1:((List.range Tryz.prog.funcs.size).filter fun f=>(Tryz.prog.funcs[f]?).any (·.name.toUTF8.data.toList==40::r1))= [f1]) (h2:((List.range Tryz.prog.funcs.size).filter fun f=>(Tryz.prog.funcs[f]?).any (·.name.toUTF8.data.toList==40::r2))= [f2])
 (h:DataW.trod (funcToken Tryz.prog) Tryz.prog w base sp true fuel 116 cs=some (.agg [.lit (.int .i64 z),.held (40::r1),.held (40::r2)],q)):cs= [.int .i64 z,.func (.func f1) #[] #[],.func (.func f2) #[] #[]]:=by
 obtain ⟨xs,n,_,hx,hl,hlen,hf⟩:=DataW.trod_struct Tryz.underlying116 h
 rw [show Tryz.prog.cellsOf 116=3 by kernel_rfl] at hl
 match xs,hlen with
 | [y0,y1,y2],_=>
   have hx:=congrArg Prod.fst hx
   simp only [List.map_cons,List.map_nil,DataW.agg.injEq,List.cons.injEq,and_true] at hx
   obtain ⟨x0,x1,x2⟩:=hx
   match cs,hl,hf with
   | [v0,v1,v2],_,hf=>
     have f0:DataW.trod (funcToken Tryz.prog) Tryz.prog w base sp true n 3 (([v0,v1,v2].drop 0).take (Tryz.prog.cellsOf 3))= [y0,y1,y2][0]? :=hf 0 _ rfl
     have f1':DataW.trod (funcToken Tryz.prog) Tryz.prog w base sp true n 115 (([v0,v1,v2].drop 1).take (Tryz.prog.cellsOf 115))= [y0,y1,y2][1]? :=hf 1 _ rfl
     have f2':DataW.trod (funcToken Tryz.prog) Tryz.prog w base sp true n 115 (([v0,v1,v2].drop 2).take (Tryz.prog.cellsOf 115))= [y0,y1,y2][2]? :=hf 2 _ rfl
     rw [show Tryz.prog.cellsOf 3=1 by kernel_rfl] at f0
     rw [show Tryz.prog.cellsOf 115=1 by kernel_rfl] at f1' f2'
     simp only [List.drop_zero,List.drop_succ_cons,List.take_succ_cons,List.take_zero,List.getElem?_cons_zero,List.getElem?_cons_succ] at f0 f1' f2'
     obtain ⟨z',e0,ey,_⟩:=DataW.trod_int Tryz.underlying3 f0
     rw [ey] at x0
     simp only [DataW.lit.injEq,Lit.int.injEq,true_and] at x0
     subst x0
     simp only [List.cons.injEq,and_true] at e0
     rw [e0,func_of_trod (v:=v1) (f0:=f1) Tryz.underlying115 h1 (q:=y1.2) (by rw [x1];exact f1'),func_of_trod (v:=v2) (f0:=f2) Tryz.underlying115 h2 (q:=y2.2) (by rw [x2];exact f2')]
def guaV:List Value:= [.int .i64 1,.func (.func 244) #[] #[],.func (.func 248) #[] #[],.int .i64 2,.func (.func 248) #[] #[],.func (.func 248) #[] #[],.int .i64 4,.func (.func 244) #[] #[],.func (.func 244) #[] #[],.int .i64 8,.func (.func 248) #[] #[],.func (.func 244) #[] #[]]
theorem yhv {w:World} (h:laidMetH Tryz.prog zlt w):(Res.glob 0 117 x7).holds w noX:=by
 obtain ⟨g,t,cs,fuel,p,hg,ht,hv,hd⟩:=h.funcs (n:= "yardarm/session.guards") (d:=yip) (.tail _ (.tail _ (.tail _ (.head _))))
 obtain rfl:=Option.some.inj ((show Tryz.prog.globalNamed "yardarm/session.guards" =some 0 by kernel_rfl).symm.trans hg)
 obtain rfl:=Option.some.inj ((show (Tryz.prog.globals[0]?).map (·.type)=some 117 by kernel_rfl).symm.trans ht)
 rw [zx3] at hd
 have c3:Tryz.prog.cellsOf 116=3:=by kernel_rfl
 have c12:Tryz.prog.cellsOf 117=12:=by kernel_rfl
 have hlen:cs.toList.length=4 * 3:=by
  obtain ⟨_,_,_,_,hl,_⟩:=DataW.trod_array Tryz.underlying117 hd
  rw [hl,c12]
 have hcs:cs.toList=guaV:=by
  refine (zu4 3 4 cs.toList (fun i=>(guaV.drop (i * 3)).take 3) hlen fun i hi=> ?_).trans rfl
  obtain ⟨f',d,q,e1,e2⟩:=Lib.array_elem Tryz.underlying117 hd i hi
  rw [c3] at e2
  match i,hi with
  |0,_=>obtain rfl:=Option.some.inj e1;exact zlw ygu ygt e2
  |1,_=>obtain rfl:=Option.some.inj e1;exact zlw ygt ygt e2
  |2,_=>obtain rfl:=Option.some.inj e1;exact zlw ygu ygu e2
  |3,_=>obtain rfl:=Option.some.inj e1;exact zlw ygt ygu e2
 unfold World.var? at hv
 rw [hg] at hv
 simp only [Option.bind_some] at hv
 split at hv
 ·rename_i c T0 fr hh
  cases hv
  have hc:cs=guaV.toArray:=by rw [←hcs]
  subst hc
  refine zqy hh rfl fun j h1 h2=> ?_
  match j,h1 with
  |0,_=>exact .v _
  |1,_=>exact zgw _ _
  |2,_=>exact zgw _ _
  |3,_=>exact .v _
  |4,_=>exact zgw _ _
  |5,_=>exact zgw _ _
  |6,_=>exact .v _
  |7,_=>exact zgw _ _
  |8,_=>exact zgw _ _
  |9,_=>exact .v _
  |10,_=>exact zgw _ _
  |11,_=>exact zgw _ _
  |n+12,h1=>exact absurd h1 (by show ¬n+12 < 12;omega)
 ·cases hv
theorem ygq:OO [.glob 0 117 x7,.glob 3 148 y8,.glob 5 276 y9,.glob 6 279 y4,.glob 2 197 u3] noX=noX:=by funext b;simp [OO,u1,noX,Res.own]
theorem zr2 {W:World} (h:laidMetH Tryz.prog zlt W):HRel noX W [.glob 0 117 x7,.glob 3 148 y8,.glob 5 276 y9,.glob 6 279 y4,.glob 2 197 u3]:=by
 have h':=zxx h
 have h0:=yhy (Lib.laidMet.reads h' (.tail _ (.head _)))
 have h1:=yhx (Lib.laidMet.reads h' (.tail _ (.tail _ (.head _))))
 have h2:=yhw (Lib.laidMet.reads h' (.head _))
 refine ⟨by simp [u1,Res.own],fun b hb=>by simp [u1,Res.own] at hb,fun b hb=>hb.elim,fun r hr=> ?_⟩
 rw [ygq]
 simp only [List.mem_cons,List.not_mem_nil,or_false] at hr
 rcases hr with rfl|rfl|rfl|rfl|rfl
 ·exact yhv h
 ·exact h0
 ·exact h1
 ·exact h2
 ·exact yfj h
noncomputable def wit50 (os:Os):World:={World.holding Tryz.prog os ⟨#[], #[],[]⟩ with heap:=((World.holding Tryz.prog os ⟨#[], #[],[]⟩).heap.modify 2 (Lay.setRow yif)).modify 0 (Lay.setRow guaV)}
noncomputable def wit5 (os:Os):World:=(wit50 os).layVars Tryz.prog zo8
theorem zzy (os:Os):(wit5 os).os=os:=World.layVars_os _ _ _
theorem zwb (os:Os) (args:Array Value):laidMetH Tryz.prog zlt ((wit5 os).forCall (fun _ _=>0) ⟨#[],args,[]⟩).memory:=by
 refine laidMetH_of_parts3 (fuel:=8) ?_ (by kernel_rfl) (by kernel_rfl)
 rw [zqw]
 have h:laidMet Tryz.prog zo8 (wit5 os):=laidMet_layVars (w0:=wit50 os) (zo8.map (·.1)) [] (by kernel_rfl) (by kernel_rfl) (by kernel_rfl) (by
  rw [show (zo8.filter fun x=> !(zo8.map (·.1)).contains x.1)= [] by kernel_rfl];exact LaidIn.none)
 exact h.of_heap (by simp [World.memory,World.forCall,Input.heap])
end Go.Proofs.YtcaijocpofcbdaaGreatDoor
set_option maxRecDepth 10000
namespace Go.Proofs
open Go Go.Ab
attribute [local irreducible] QR QV OE zb4 aw zcn zby zbe zaj thn ze7 zdh jch zeh
open Go.H
theorem yh0 {k:Nat} (hk:k < 4):x7[0+k * 3+2]? =some (ygw k):=by
 rcases (by omega:k=0∨k=1∨k=2∨k=3) with rfl|rfl|rfl|rfl <;> rfl
theorem yh1 {k:Nat} (hk:k < 4):x7[0+k * 3+1]? =some (ygx k):=by
 rcases (by omega:k=0∨k=1∨k=2∨k=3) with rfl|rfl|rfl|rfl <;> rfl
def ygr (M:List (Int×Int)) (b:Acc):Bool:=decide (b.r < (zbd b.o M).getD 0)
def ydi (k:Nat) (d:Dos) (M:List (Int×Int)):Bool:=(zfi k d).any (ygr M)
def zie (M:List (Int×Int)) (l:List Acc):List (Int×Int):=l.foldl (fun m a=>zd7 a.o (max ((zbd a.o m).getD 0) a.r) m) M
theorem yev {M:List (Int×Int)} {l:List Acc} {i:Nat} (hi:i < l.length):zie M (l.take (i+1))=zd7 l[i].o (max ((zbd l[i].o (zie M (l.take i))).getD 0) l[i].r) (zie M (l.take i)):=by
 rw [zie,List.take_succ_eq_append_getElem hi,List.foldl_append];rfl
theorem zty (o:Int):∀(l:List Acc) (M:List (Int×Int)),(zbd o M).getD 0≤(zbd o (zie M l)).getD 0∧∀a∈l,a.o=o→a.r≤(zbd o (zie M l)).getD 0
 | [],M=>⟨Int.le_refl _,by simp⟩
 |a::l,M=>by
  obtain ⟨h1,h2⟩:=zty o l (zd7 a.o (max ((zbd a.o M).getD 0) a.r) M)
  have e:zie M (a::l)=zie (zd7 a.o (max ((zbd a.o M).getD 0) a.r) M) l:=rfl
  rw [zc3] at h1
  by_cases q:a.o=o
  ·subst q
   rw [if_pos rfl,Option.getD_some] at h1
   refine ⟨by rw [e];omega,fun b hb ho=> ?_⟩
   rcases List.mem_cons.1 hb with rfl|hb
   ·rw [e];omega
   ·rw [e];exact h2 b hb ho
  ·rw [if_neg q] at h1
   refine ⟨by rw [e];exact h1,fun b hb ho=> ?_⟩
   rcases List.mem_cons.1 hb with rfl|hb
   ·exact absurd ho q
   ·rw [e];exact h2 b hb ho
def zk5 (k:Nat) (L:List Dos) (j:Nat) (M:List (Int×Int)):Prop:=∀e∈L.take j,∀a∈zck k e,a.r≤(zbd a.o M).getD 0
theorem yew (k:Nat) (L:List Dos):zk5 k L 0 []:=fun e he=>by simp at he
theorem zy8 {k j:Nat} {L:List Dos} {M:List (Int×Int)} (hM:zk5 k L j M) (hj:j < L.length):zk5 k L (j+1) (zie M (zck k L[j])):=by
 intro e he a ha
 rw [List.take_succ_eq_append_getElem hj,List.mem_append,List.mem_singleton] at he
 rcases he with he|rfl
 ·have h1:=hM e he a ha
  have h2:=(zty a.o (zck k L[j]) M).1
  omega
 ·exact (zty a.o _ M).2 a ha rfl
def hdW (k:Nat) (d e:Dos):Option Brch:=(zhk k e d).head?
def brW (k:Nat) (L:List Dos):Nat→List Brch
 |0=> []
 |j+1=>brW k L j++(match L[j]? with|some d=>(L.take j).filterMap (hdW k d)|none=> [])
theorem yco {k j:Nat} {L:List Dos} (hj:j < L.length):brW k L (j+1)=brW k L j++(L.take j).filterMap (hdW k L[j]):=by rw [brW,List.getElem?_eq_getElem hj]
theorem ydh {k j:Nat} {L:List Dos} {M:List (Int×Int)} (hM:zk5 k L j M) (hj:j < L.length) (hs:ydi k L[j] M=false):brW k L (j+1)=brW k L j:=by
 rw [yco hj]
 have:(L.take j).filterMap (hdW k L[j])= []:=by
  rw [List.filterMap_eq_nil_iff]
  intro e he
  have:zhk k e L[j]= []:=by
   rw [zhk,List.flatMap_eq_nil_iff]
   intro a ha
   rw [List.filterMap_eq_nil_iff]
   intro b hb
   by_cases q:(a.o==b.o)=true
   ·refine zu8 (decide_eq_false fun hlt=> ?_)
    have h1:=hM e he a ha
    have h2:=List.any_eq_false.1 hs b hb
    rw [ygr,←eq_of_beq q] at h2
    simp only [decide_eq_true_eq] at h2
    omega
   ·exact zu9 (by simpa using q)
  rw [hdW,this];rfl
 rw [this,List.append_nil]
theorem zzk {k m:Nat} {L:List Dos}:∀{n},m≤n→∃R,brW k L n=brW k L m++R
 |0,hm=>⟨[],by rw [Nat.le_zero.1 hm,List.append_nil]⟩
 |n+1,hm=>by
  by_cases e:m=n+1
  ·exact ⟨[],by rw [e,List.append_nil]⟩
  ·obtain ⟨R,hR⟩:=zzk (k:=k) (m:=m) (L:=L) (n:=n) (by omega)
   exact ⟨_,by rw [brW,hR,List.append_assoc]⟩
def brP (k:Nat) (L:List Dos) (j:Nat) (d:Dos) (i:Nat):List Brch:=brW k L j++((L.take j).take i).filterMap (hdW k d)
theorem yid (k:Nat) (L:List Dos) (j:Nat) (d:Dos):brP k L j d 0=brW k L j:=by simp [brP]
theorem yf5 {k j i:Nat} {L:List Dos} {d:Dos} {b:Brch} {rest:List Brch} (hi:i < (L.take j).length) (h:zhk k (L.take j)[i] d=b::rest):brP k L j d (i+1)=brP k L j d i++ [b]:=by
 rw [brP,ycb hi (show hdW k d (L.take j)[i]=some b by rw [hdW,h];rfl),brP,List.append_assoc]
theorem yf6 {k j i:Nat} {L:List Dos} {d:Dos} (hi:i < (L.take j).length) (h:zhk k (L.take j)[i] d= []):brP k L j d (i+1)=brP k L j d i:=by
 rw [brP,zuq hi (show hdW k d (L.take j)[i]=none by rw [hdW,h];rfl),brP]
theorem yic {k j i:Nat} {L:List Dos} (hj:j < L.length) (hi:i=(L.take j).length):brP k L j L[j] i=brW k L (j+1):=by
 rw [yco hj,brP,hi,List.take_length]
theorem yf4 {k j i:Nat} {L:List Dos} {b:Brch} {rest:List Brch} (hj:j < L.length) (hi:i < (L.take j).length) (h:zhk k (L.take j)[i] L[j]=b::rest):∃R,brW k L L.length=brP k L j L[j] i++b::R:=by
 obtain ⟨R,hR⟩:=zzk (k:=k) (L:=L) (m:=j+1) (n:=L.length) hj
 have e:(L.take j).filterMap (hdW k L[j])=((L.take j).take i).filterMap (hdW k L[j])++b::((L.take j).drop (i+1)).filterMap (hdW k L[j]):=by
  conv=>lhs;rw [←List.take_append_drop i (L.take j),List.drop_eq_getElem_cons hi]
  rw [List.filterMap_append,List.filterMap_cons,hdW,h];rfl
 exact ⟨_,by rw [hR,yco hj,e,brP];simp only [List.append_assoc,List.cons_append];rfl⟩
def hdB (l:List Brch):Brch:=l.headD ⟨0,0,0,0,0,0⟩
theorem z8.fr11 {P:Program} {fv:AV} {args:List AV} {G:List Res} {R:AV→List Res→Prop} {a0 a1 a2 a3 a4 a5 a6 a7 a8 a9 a10:Res} (hc:z8 P fv args G R):z8 P fv args (a0::a1::a2::a3::a4::a5::a6::a7::a8::a9::a10::G) (fun r h'=>∃h'',h'=a0::a1::a2::a3::a4::a5::a6::a7::a8::a9::a10::h''∧R r h''):=hc.frL [a0,a1,a2,a3,a4,a5,a6,a7,a8,a9,a10]
theorem zgt (q:Nat) (A B:List Res) (dfs:List Nat):(Res.defs q::(A++(B++dfs.map Res.defs))).Perm (A++(B++(q::dfs).map Res.defs)):=by
 rw [←List.append_assoc,←List.append_assoc];exact List.perm_middle.symm
theorem zqn (A B:List Res) (dfs:List Nat):(A++(B++dfs.map Res.defs)).Perm (dfs.map Res.defs++(A++B)):=by
 rw [←List.append_assoc];exact List.perm_append_comm
theorem znb {full:Bool} (l:List Acc) (fv:AV) (p:Acc→Bool) (G:List Res) (hp:∀a∈l,z8 Tryz.prog fv [.agg (accR a)] G (fun r h'=>h'=G∧r=bv (p a))) (hlen:l.length≤4611686018427387904):x3 Tryz.prog 153 [.list full 3 (l.map accR),fv] G (fun r h'=>h'=G∧r=iv (zb8 p 0 l)):=by
 refine z6 Tryz.func153 rfl rfl rfl ?_
 refine rn ?_;refine j9 (fun k:Nat=>k≤l.length∧zb8 p 0 l=zb8 p k (l.drop k)) (fun k=>⟨[(8,iv k),(7,iv (l.map accR).length),(0,.list full 3 (l.map accR)),(1,fv)],G,[]⟩) (fun k=>l.length - k) 0 ⟨Nat.zero_le _,by simp⟩
  (w8 (.cons _ _ _ rfl (.cons _ _ _ rfl (.cons _ _ _ rfl (.cons _ _ _ rfl (.nil)))))) ?_
 rintro k ⟨hk,hnot⟩
 refine rn ?_;refine y3 rfl (fun hc9=> ?_) (fun hc9=> ?_)
 ·have hk2:k < l.length:=by simpa using hc9
  have hrow:(l.map accR)[k]? =some (accR l[k]):=by simp [hk2]
  have hd:=List.drop_eq_getElem_cons hk2
  refine rn ?_;refine qv rfl rfl (y6 rfl rfl (hp l[k] (by simp))) ?_
  refine rn ?_;refine y3 rfl (fun hc16=> ?_) (fun hc16=> ?_)
  ·refine rn ?_;exact zab rfl (.refl _ _) ⟨rfl,by rw [hnot,hd,zb8,if_pos hc16];rfl⟩
  ·refine rn ?_;exact ⟨k+1,⟨by omega,by rw [hnot,hd,zb8,if_neg (by simp [hc16])]⟩,(w8 (.cons _ _ _ rfl (.cons _ _ _ rfl (.cons _ _ _ rfl (.cons _ _ _ rfl (.nil)))))),by omega⟩
 ·have hk3:k=l.length:=by
   have:l.length≤k:=by simpa using hc9
   omega
  refine rn ?_;exact zab rfl (.refl _ _) ⟨rfl,by rw [hnot,hk3,List.drop_length,zb8];rfl⟩
theorem zjn {full:Bool} (l:List Acc) (fv:AV) (p:Acc→Bool) (G:List Res) (hp:∀a∈l,z8 Tryz.prog fv [.agg (accR a)] G (fun r h'=>h'=G∧r=bv (p a))) (hlen:l.length≤4611686018427387904):x3 Tryz.prog 111 [.list full 3 (l.map accR),fv] G (fun r h'=>h'=G∧r=bv (l.any p)):=by
 refine z6 Tryz.func111 rfl rfl rfl ?_
 refine rn ?_;refine qv rfl rfl (y6 rfl rfl (z8.of_fun (znb l _ p G hp hlen))) ?_
 refine rn ?_;exact zab rfl (.refl _ _) ⟨rfl,by simp only [←zej p l 0];rfl⟩
theorem ydr (b:Acc) (b4 bm:Nat) (M:List (Int×Int)):x3 Tryz.prog 112 [.agg (accR b),pZ b4] (.box b4 141 [mpv bm]:: .map bm (j4 zbi (zba iv M)):: []) (fun r h'=>h'= .box b4 141 [mpv bm]:: .map bm (j4 zbi (zba iv M)):: []∧r=bv (ygr M b)):=by
 refine z6 Tryz.func112 rfl rfl rfl ?_
 refine rn ?_;refine z7 rfl (x9 rfl rfl rfl fun b2=> ?_)
 refine q1 ?_;refine u2 (j7 ?_)
 refine x8 (y7 ?_)
 refine q1 ?_;refine q1 ?_;refine q1 ?_;refine q1 ?_;refine q1 ?_;refine qq rfl rfl (zbq (g:=iv) (enc:=zbi) (k:=b.o) (0:Int) rfl rfl) ?_
 refine rn ?_;refine rq 1 ?_
 exact ⟨rfl,rfl⟩
set_option maxHeartbeats 4000000 in
theorem ydq (k:Nat) (hk:k < 4) (d:Dos) (h2:(zfi k d).length≤1000000) (bi b4 bm:Nat) (M:List (Int×Int)):x3 Tryz.prog 110 [.agg (zbj d),pZ bi,pZ b4] (.box bi 3 [iv (k:Int)]:: .box b4 141 [mpv bm]:: .map bm (j4 zbi (zba iv M)):: .glob 0 117 x7:: []) (fun r h'=>h'= .box bi 3 [iv (k:Int)]:: .box b4 141 [mpv bm]:: .map bm (j4 zbi (zba iv M)):: .glob 0 117 x7:: []∧r=bv (ydi k d M)):=by
 refine z6 Tryz.func110 rfl rfl rfl ?_
 refine rn ?_;refine z7 rfl (x9 rfl rfl rfl fun b3=> ?_)
 refine rn ?_;refine j5 7 rfl ?_
 refine dq rfl rfl qrA ?_;refine dq rfl rfl (u7 (i:=k) rfl rfl (by omega)) ?_
 refine dq rfl rfl qrA ?_;refine dq rfl rfl (j3 rfl (yh0 hk)) ?_
 refine rn ?_;refine dv rfl rfl (by exact y6 rfl rfl (z8.pure (R:=fun r=>r=zfg (zfi k d)) (zp9 k d))) ?_
 refine rn ?_;refine qv rfl rfl (y6 rfl rfl (z8.of_fun (zjn (zfi k d) _ (ygr M) _ (fun b _=>z8.qt (z8.of_acall (fs:= []) (cs:= [pZ b4]) (ydr b b4 bm M)) ((pt2 _ _ _ _).trans (.cons _ (pt2 _ _ _ _)))) (Nat.le_trans h2 (by decide))))) ?_
 refine rn ?_;refine rq 1 ?_
 exact ⟨rfl,rfl⟩
theorem zs4 (k:Nat) (L:List Dos) (W:List Res):x3 Tryz.prog 59 [iv (k:Int),zc1 L] W (fun r h'=>∃bi bl,h'= .box bl 101 [zc1 L]:: .box bi 3 [iv (k:Int)]::W∧r= .fn (.func 109) [] [pZ bi,pZ bl]):=by
 refine z6 Tryz.func59 rfl rfl rfl ?_
 refine rn ?_;refine z7 rfl (x9 rfl rfl rfl fun b2=> ?_)
 refine z7 rfl (x9 rfl rfl rfl fun b3=> ?_)
 refine rn ?_;exact zab rfl (.refl _ _) ⟨_,_,rfl,rfl⟩
set_option maxHeartbeats 8000000 in
theorem zs3 (k:Nat) (hk:k < 4) (L:List Dos) (hL:L.length≤1000000) (hf:∀d∈L,(zck k d).length≤1000000) (hs:∀d∈L,(zfi k d).length≤1000000) (y:AV) (hone:y.cellsOf=some [y]) (bi bl:Nat) {σ:Type} (p:List Brch→σ→Prop) (q:σ→Prop) (I:List Brch→σ→List Res) (X:σ→List Res) (x0:σ) (hp0:p [] x0) (hy:∀pre d rest x,(brW k L L.length)=pre++d::rest→p pre x→z8 Tryz.prog y [.agg (zdl d)] (.box bl 101 [zc1 L]:: .box bi 3 [iv ((k:Nat):Int)]:: .glob 0 117 x7::I pre x) (fun r h'=>∃x',(r=bv true∧p (pre++ [d]) x'∧h'= .box bl 101 [zc1 L]:: .box bi 3 [iv ((k:Nat):Int)]:: .glob 0 117 x7::I (pre++ [d]) x')∨(r=bv false∧q x'∧h'= .box bl 101 [zc1 L]:: .box bi 3 [iv ((k:Nat):Int)]:: .glob 0 117 x7::X x'))):x3 Tryz.prog 109 [y,pZ bi,pZ bl] (.box bl 101 [zc1 L]:: .box bi 3 [iv ((k:Nat):Int)]:: .glob 0 117 x7::I [] x0) (fun r h'=>∃x,(p (brW k L L.length) x∧h'= .box bl 101 [zc1 L]:: .box bi 3 [iv ((k:Nat):Int)]:: .glob 0 117 x7::I (brW k L L.length) x)∨(q x∧h'= .box bl 101 [zc1 L]:: .box bi 3 [iv ((k:Nat):Int)]:: .glob 0 117 x7::X x)):=by
 refine z6 Tryz.func109 rfl rfl rfl ?_
 have hyF:∀pre d rest x (W:List Res),(brW k L L.length)=pre++d::rest→p pre x→z8 Tryz.prog y [.agg (zdl d)] (.box bl 101 [zc1 L]:: .box bi 3 [iv ((k:Nat):Int)]:: .glob 0 117 x7::(I pre x++W)) (fun r h'=>∃x',(r=bv true∧p (pre++ [d]) x'∧h'= .box bl 101 [zc1 L]:: .box bi 3 [iv ((k:Nat):Int)]:: .glob 0 117 x7::(I (pre++ [d]) x'++W))∨(r=bv false∧q x'∧h'= .box bl 101 [zc1 L]:: .box bi 3 [iv ((k:Nat):Int)]:: .glob 0 117 x7::(X x'++W))):=fun pre d rest x W e hp=>((hy pre d rest x e hp).frame W).mono (by
  rintro _ _ ⟨_,rfl,x',⟨rfl,hp',rfl⟩|⟨rfl,hq',rfl⟩⟩
  ·exact ⟨x',.inl ⟨rfl,hp',rfl⟩⟩
  ·exact ⟨x',.inr ⟨rfl,hq',rfl⟩⟩)
 refine rn ?_;refine z7 rfl (x9 rfl hone rfl fun b3=> ?_)
 refine rn ?_;refine ziu ?_;refine rn ?_;refine z7 rfl (zap (enc:=zbi) rfl fun bm=> ?_)
 refine z7 rfl (x5 rfl fun b4=> ?_)
 refine rn ?_;refine zge L.length (fun j (z:σ×List (Int×Int)×List Nat)=>p (brW k L j) z.1∧zk5 k L j z.2.1) (fun j z=>⟨[(18,iv j),(1,pZ bi),(2,pZ bl),(3,pZ b3),(4,pZ b4),(5,.fn (.func 110) [] [pZ bi,pZ b4]),(16,zc1 L),(17,iv (L.map zbj).length)],.box b4 141 [mpv bm]:: .map bm (j4 zbi (zba iv z.2.1)):: .box b3 175 [y]:: .box bl 101 [zc1 L]:: .box bi 3 [iv ((k:Nat):Int)]:: .glob 0 117 x7::(I (brW k L j) z.1++(z.2.2.map Res.defs)),z.2.2⟩) (x0,[],[]) ⟨hp0,yew k L⟩ (by simp only [List.map_nil,List.append_nil];exact es) ?_
 rintro j ⟨x,M,dfs⟩ lj ⟨hx,hM⟩
 have hx:p (brW k L j) x:=hx
 have hM:zk5 k L j M:=hM
 show aw _ _ _ _ _ ⟨[(18,iv j),(1,pZ bi),(2,pZ bl),(3,pZ b3),(4,pZ b4),(5,.fn (.func 110) [] [pZ bi,pZ b4]),(16,zc1 L),(17,iv (L.map zbj).length)],.box b4 141 [mpv bm]:: .map bm (j4 zbi (zba iv M)):: .box b3 175 [y]:: .box bl 101 [zc1 L]:: .box bi 3 [iv ((k:Nat):Int)]:: .glob 0 117 x7::(I (brW k L j) x++(dfs.map Res.defs)),dfs⟩
 refine rn ?_;refine y3 rfl (fun hc19=> ?_) (fun hc19=> ?_)
 ·have hj:=zdx hc19
  have rj:=zc8 (f:=zbj) hj
  refine rn ?_;refine z7 rfl (x5 rfl fun b7=> ?_)
  refine rn ?_;refine qv rfl rfl (y6 rfl rfl (z8.qt (z8.of_acall (fs:= []) (cs:= [pZ bi,pZ b4]) (ydq k hk L[j] (hs _ (List.getElem_mem hj)) bi b4 bm M)) ((pt5 _ _ _ _ _ _ _).trans (.cons _ ((pt1 _ _ _).trans (.cons _ ((pt1 _ _ _).trans (.cons _ (pt3 _ _ _ _ _))))))))) ?_
  refine rn ?_;refine j5 8 rfl ?_
  refine dq rfl rfl qrA ?_;refine dq rfl rfl (u7 (i:=k) rfl rfl (by omega)) ?_
  refine dq rfl rfl qrA ?_;refine dq rfl rfl (j3 rfl (yh1 hk)) ?_
  refine rn ?_;refine dv rfl rfl (by exact y6 rfl rfl (z8.pure (R:=fun r=>r=zfg (zck k L[j])) (zq0 k L[j]))) ?_
  refine rn ?_;refine zaw (zck k L[j]).length (fun _=>True) (fun u=>⟨[(33,iv u),(1,pZ bi),(2,pZ bl),(3,pZ b3),(4,pZ b4),(5,.fn (.func 110) [] [pZ bi,pZ b4]),(6,iv j),(7,pZ b7),(8,bv (ydi k L[j] M)),(16,zc1 L),(17,iv (L.map zbj).length),(18,iv j),(31,zfg (zck k L[j])),(32,iv ((zck k L[j]).map accR).length)],.box b7 121 (zbj L[j]):: .box b4 141 [mpv bm]:: .map bm (j4 zbi (zba iv (zie M ((zck k L[j]).take u)))):: .box b3 175 [y]:: .box bl 101 [zc1 L]:: .box bi 3 [iv ((k:Nat):Int)]:: .glob 0 117 x7::(I (brW k L j) x++(dfs.map Res.defs)),dfs⟩) trivial es ?_
  intro u lu _
  refine rn ?_;refine y3 rfl (fun hc34=> ?_) (fun hc34=> ?_)
  ·have hu:=zdx hc34
   have ru:=zc8 (f:=accR) hu
   have hfl:=hf _ (List.getElem_mem hj)
   refine rn ?_;refine z7 rfl (x5 rfl fun b10=> ?_)
   first|refine z7 rfl (k9 rfl rfl rfl ?_)|refine z7 rfl (zaq rfl rfl rfl rfl (Nat.le_of_ble_eq_true rfl) ?_)
   refine u2 (j7 ?_)
   refine y7 ?_;refine q1 ?_;refine q1 ?_;refine q1 ?_;refine q1 ?_;refine q1 ?_;refine q1 ?_;refine qq rfl rfl (zbq (g:=iv) (enc:=zbi) (k:=(zck k L[j])[u].o) (0:Int) rfl rfl) ?_
   refine rn ?_;refine z7 rfl (za1 (g:=iv) (enc:=zbi) (k:=(zck k L[j])[u].o) (v:=max ((zbd (zck k L[j])[u].o (zie M ((zck k L[j]).take u))).getD 0) (zck k L[j])[u].r) rfl rfl rfl ?_)
   refine rn ?_;exact ⟨hu,trivial,by rw [yev hu];exact eA⟩
  ·have qu:=zd0 hc34 lu
   subst qu
   rw [List.take_length]
   refine rn ?_;refine y3 rfl (fun hc49=> ?_) (fun hc49=> ?_)
   ·have hsw:ydi k L[j] M=false:=by simpa using hc49
    refine rn ?_;have hw:=ydh hM hj hsw
    exact ⟨hj,(x,(zie M (zck k L[j])),dfs),⟨by simp only;rw [hw];exact hx,zy8 hM hj⟩,by simp only;rw [hw];exact eA⟩
   ·have hsw:ydi k L[j] M=true:=by simpa using hc49
    refine zad ?_;refine j7 ?_;refine x8 (y7 ?_)
    refine q1 ?_;refine q1 ?_;refine qq rfl rfl (zc9 (k:=j) rfl rfl (by rw [List.length_map];omega)) ?_
    rw [←List.map_take]
    refine rn ?_;have hx0:=hx
    rw [←yid k L j L[j]] at hx ⊢
    refine zge (L.take j).length (fun i (z:σ×List Nat)=>p (brP k L j L[j] i) z.1) (fun i z=>⟨[(54,iv i),(1,pZ bi),(2,pZ bl),(3,pZ b3),(4,pZ b4),(5,.fn (.func 110) [] [pZ bi,pZ b4]),(7,pZ b7),(16,zc1 L),(17,iv (L.map zbj).length),(18,iv j),(52,zc1 (L.take j)),(53,iv ((L.take j).map zbj).length)],.box b7 121 (zbj L[j]):: .box b4 141 [mpv bm]:: .map bm (j4 zbi (zba iv (zie M (zck k L[j])))):: .box b3 175 [y]:: .box bl 101 [zc1 L]:: .box bi 3 [iv ((k:Nat):Int)]:: .glob 0 117 x7::(I (brP k L j L[j] i) z.1++(z.2.map Res.defs)),z.2⟩) (x,dfs) hx es ?_
    clear hx hx0
    rintro i ⟨x,dfs⟩ li hx
    have hx:p (brP k L j L[j] i) x:=hx
    show aw _ _ _ _ _ ⟨[(54,iv i),(1,pZ bi),(2,pZ bl),(3,pZ b3),(4,pZ b4),(5,.fn (.func 110) [] [pZ bi,pZ b4]),(7,pZ b7),(16,zc1 L),(17,iv (L.map zbj).length),(18,iv j),(52,zc1 (L.take j)),(53,iv ((L.take j).map zbj).length)],.box b7 121 (zbj L[j]):: .box b4 141 [mpv bm]:: .map bm (j4 zbi (zba iv (zie M (zck k L[j])))):: .box b3 175 [y]:: .box bl 101 [zc1 L]:: .box bi 3 [iv ((k:Nat):Int)]:: .glob 0 117 x7::(I (brP k L j L[j] i) x++(dfs.map Res.defs)),dfs⟩
    refine rn ?_;refine y3 rfl (fun hc55=> ?_) (fun hc55=> ?_)
    ·have hi:=zdx hc55
     have ri:=zc8 (f:=zbj) hi
     have hil:=List.length_take_le j L
     refine rn ?_;refine z7 rfl (x5 rfl fun b12=> ?_)
     refine rn ?_;refine z7 rfl (w7 rfl rfl (z8.of_fun (yam k (L.take j)[i] L[j] _)) rfl ?_)
     rintro _ _ ⟨ci,ce,cl,rfl,rfl⟩
     refine rn ?_;refine zl7 (fun pend h''=>(pend=none∧(zhk k (L.take j)[i] L[j])= []∧h''= .box cl 121 (zbj L[j]):: .box ce 121 (zbj (L.take j)[i]):: .box ci 3 [iv (k:Int)]:: .glob 0 117 x7:: .box b12 121 (zbj (L.take j)[i]):: .box b7 121 (zbj L[j]):: .box b4 141 [mpv bm]:: .map bm (j4 zbi (zba iv (zie M (zck k L[j])))):: .box b3 175 [y]:: .box bl 101 [zc1 L]:: .box bi 3 [iv (k:Int)]::(I (brP k L j L[j] i) x++(dfs.map Res.defs)))∨(pend=some (.exit 6)∧∃b rest x',(zhk k (L.take j)[i] L[j])=b::rest∧p ((brP k L j L[j] i)++ [b]) x'∧h''= .box cl 121 (zbj L[j]):: .box ce 121 (zbj (L.take j)[i]):: .box ci 3 [iv (k:Int)]:: .glob 0 117 x7:: .box b12 121 (zbj (L.take j)[i]):: .box b7 121 (zbj L[j]):: .box b4 141 [mpv bm]:: .map bm (j4 zbi (zba iv (zie M (zck k L[j])))):: .box b3 175 [y]:: .box bl 101 [zc1 L]:: .box bi 3 [iv (k:Int)]::(I ((brP k L j L[j] i)++ [b]) x'++(dfs.map Res.defs)))∨(pend=some .ret∧∃x',q x'∧h''= .box cl 121 (zbj L[j]):: .box ce 121 (zbj (L.take j)[i]):: .box ci 3 [iv (k:Int)]:: .glob 0 117 x7:: .box b12 121 (zbj (L.take j)[i]):: .box b7 121 (zbj L[j]):: .box b4 141 [mpv bm]:: .map bm (j4 zbi (zba iv (zie M (zck k L[j])))):: .box b3 175 [y]:: .box bl 101 [zc1 L]:: .box bi 3 [iv (k:Int)]::(X x'++(dfs.map Res.defs)))) rfl (fun fn l q0 lp hlp=> ?_) (fun q0 h'' hK=> ?_) (fun q0 h'' cc hK=> ?_)
     ·suffices hy2:∀pre d' rest z,(zhk k (L.take j)[i] L[j])=pre++d'::rest→(fun (pre:List Brch) (_:Bool×σ)=>pre= []) pre z→z8 Tryz.prog (yv l) [.agg (zdl d')] (.box cl 121 (zbj L[j]):: .box ce 121 (zbj (L.take j)[i]):: .box ci 3 [iv (k:Int)]:: .glob 0 117 x7::(fun (_:List Brch) (_:Bool×σ)=>lp .ready none:: .defs q0:: .box b12 121 (zbj (L.take j)[i]):: .box b7 121 (zbj L[j]):: .box b4 141 [mpv bm]:: .map bm (j4 zbi (zba iv (zie M (zck k L[j])))):: .box b3 175 [y]:: .box bl 101 [zc1 L]:: .box bi 3 [iv (k:Int)]::(I (brP k L j L[j] i) x++(dfs.map Res.defs))) pre z) (fun r h'=>∃z',(r=bv true∧(fun (pre:List Brch) (_:Bool×σ)=>pre= []) (pre++ [d']) z'∧h'= .box cl 121 (zbj L[j]):: .box ce 121 (zbj (L.take j)[i]):: .box ci 3 [iv (k:Int)]:: .glob 0 117 x7::(fun (_:List Brch) (_:Bool×σ)=>lp .ready none:: .defs q0:: .box b12 121 (zbj (L.take j)[i]):: .box b7 121 (zbj L[j]):: .box b4 141 [mpv bm]:: .map bm (j4 zbi (zba iv (zie M (zck k L[j])))):: .box b3 175 [y]:: .box bl 101 [zc1 L]:: .box bi 3 [iv (k:Int)]::(I (brP k L j L[j] i) x++(dfs.map Res.defs))) (pre++ [d']) z')∨(r=bv false∧(fun z:Bool×σ=>(z.1=true∧(∃b rest,(zhk k (L.take j)[i] L[j])=b::rest)∧p ((brP k L j L[j] i)++ [hdB (zhk k (L.take j)[i] L[j])]) z.2)∨(z.1=false∧q z.2)) z'∧h'= .box cl 121 (zbj L[j]):: .box ce 121 (zbj (L.take j)[i]):: .box ci 3 [iv (k:Int)]:: .glob 0 117 x7::(fun z:Bool×σ=>lp .done (some (bif z.1 then .exit 6 else .ret)):: .defs q0:: .box b12 121 (zbj (L.take j)[i]):: .box b7 121 (zbj L[j]):: .box b4 141 [mpv bm]:: .map bm (j4 zbi (zba iv (zie M (zck k L[j])))):: .box b3 175 [y]:: .box bl 101 [zc1 L]:: .box bi 3 [iv (k:Int)]::((bif z.1 then I ((brP k L j L[j] i)++ [hdB (zhk k (L.take j)[i] L[j])]) z.2 else X z.2)++(dfs.map Res.defs))) z')) by
       refine x3.mono (x3.perm ((pt2 _ _ _ _).trans (.cons _ ((pt2 _ _ _ _).trans (.cons _ ((pt2 _ _ _ _).trans (.cons _ (pt9 _ _ _ _ _ _ _ _ _ _ _))))))) (yal k hk (L.take j)[i] L[j] (hf _ (List.mem_of_mem_take (List.getElem_mem hi))) (hs _ (List.getElem_mem hj)) (yv l) ci ce cl (fun (pre:List Brch) (_:Bool×σ)=>pre= []) (fun z:Bool×σ=>(z.1=true∧(∃b rest,(zhk k (L.take j)[i] L[j])=b::rest)∧p ((brP k L j L[j] i)++ [hdB (zhk k (L.take j)[i] L[j])]) z.2)∨(z.1=false∧q z.2)) (fun (_:List Brch) (_:Bool×σ)=>lp .ready none:: .defs q0:: .box b12 121 (zbj (L.take j)[i]):: .box b7 121 (zbj L[j]):: .box b4 141 [mpv bm]:: .map bm (j4 zbi (zba iv (zie M (zck k L[j])))):: .box b3 175 [y]:: .box bl 101 [zc1 L]:: .box bi 3 [iv (k:Int)]::(I (brP k L j L[j] i) x++(dfs.map Res.defs))) (fun z:Bool×σ=>lp .done (some (bif z.1 then .exit 6 else .ret)):: .defs q0:: .box b12 121 (zbj (L.take j)[i]):: .box b7 121 (zbj L[j]):: .box b4 141 [mpv bm]:: .map bm (j4 zbi (zba iv (zie M (zck k L[j])))):: .box b3 175 [y]:: .box bl 101 [zc1 L]:: .box bi 3 [iv (k:Int)]::((bif z.1 then I ((brP k L j L[j] i)++ [hdB (zhk k (L.take j)[i] L[j])]) z.2 else X z.2)++(dfs.map Res.defs))) (false,x) rfl hy2)) ?_
       rintro _ _ ⟨⟨b,x'⟩,⟨hn,rfl⟩|⟨⟨e1,⟨b0,rest,hn⟩,hp1⟩|⟨e1,hq1⟩,rfl⟩⟩
       ·exact ⟨none,.ready,_,((pt4 _ _ _ _ _ _).trans (.cons _ (pt4 _ _ _ _ _ _))),by simp,.inl ⟨rfl,hn,rfl⟩⟩
       ·have e1:b=true:=e1
        subst e1
        have hd1:hdB (zhk k (L.take j)[i] L[j])=b0:=by rw [hn];rfl
        exact ⟨some (.exit 6),.done,_,((pt4 _ _ _ _ _ _).trans (.cons _ (pt4 _ _ _ _ _ _))),by simp,.inr (.inl ⟨rfl,b0,rest,x',hn,by rw [←hd1];exact hp1,by rw [←hd1];rfl⟩)⟩
       ·have e1:b=false:=e1
        subst e1
        exact ⟨some .ret,.done,_,((pt4 _ _ _ _ _ _).trans (.cons _ (pt4 _ _ _ _ _ _))),by simp,.inr (.inr ⟨rfl,x',hq1,rfl⟩)⟩
      intro pre d' rest z hL hpre
      obtain rfl:pre= []:=hpre
      have hL1:(zhk k (L.take j)[i] L[j])=d'::rest:=hL
      obtain ⟨R,hL2⟩:=yf4 hj hi hL1
      have hd1:hdB (zhk k (L.take j)[i] L[j])=d':=by rw [hL1];rfl
      refine z8.perm (pt4 _ _ _ _ _ _) (z8.ventE ?_)
      refine zdi hlp rfl rfl ?_
      refine rn ?_;refine z7 rfl (x5 rfl fun b13=> ?_)
      refine rn ?_;refine ⟨[(13,pZ b13),(3,pZ b3)],.box b13 36 (zdl d'):: .box cl 121 (zbj L[j]):: .box ce 121 (zbj (L.take j)[i]):: .box ci 3 [iv (k:Int)]:: .glob 0 117 x7:: .defs q0:: .box b12 121 (zbj (L.take j)[i]):: .box b7 121 (zbj L[j]):: .box b4 141 [mpv bm]:: .map bm (j4 zbi (zba iv (zie M (zck k L[j])))):: .box b3 175 [y]:: .box bl 101 [zc1 L]:: .box bi 3 [iv (k:Int)]::(I (brP k L j L[j] i) x++(dfs.map Res.defs)),v8 (zam (pt1 _ _ _)) es,?_⟩
      refine zac ?_;refine x8 ?_;refine x8 (y7 ?_)
      refine q1 ?_;refine q1 ?_;refine z7 rfl (w7 rfl rfl (z8.perm (.cons _ (.cons _ (.cons _ (.cons _ (.cons _ ((pt1 _ _ _).trans (.cons _ ((pt1 _ _ _).trans (.cons _ ((pt1 _ _ _).trans (.cons _ ((pt1 _ _ _).trans (.cons _ ((pt1 _ _ _).trans (.cons _ ((pt1 _ _ _).trans (.cons _ ((pt1 _ _ _).trans (.cons _ (pt1 _ _ _)))))))))))))))))))) (z8.fr11 (hyF (brP k L j L[j] i) d' R x (dfs.map Res.defs) hL2 hx))) rfl ?_)
      rintro _ _ ⟨_,rfl,x',⟨rfl,hp',rfl⟩|⟨rfl,hq',rfl⟩⟩
      ·refine rn ?_;refine y3 rfl (fun hc66=> ?_) (fun hc66=> ?_)
       ·first|cases hc66|exact absurd hc66 (by decide)|(exfalso;simp_all;done)
       ·refine rn ?_;exact zlh (.refl _) ⟨_,_,.trans (.perm ((pt1 _ _ _).trans (.cons _ ((pt1 _ _ _).trans (.cons _ ((pt1 _ _ _).trans (.cons _ ((pt1 _ _ _).trans (.cons _ (pt9 _ _ _ _ _ _ _ _ _ _ _))))))))) _) (.drop [_] _ _),(true,x'),.inr ⟨rfl,.inl ⟨rfl,⟨_,_,hL1⟩,by rw [hd1];exact hp'⟩,by rw [hd1];rfl⟩⟩
      ·refine rn ?_;refine y3 rfl (fun hc66=> ?_) (fun hc66=> ?_)
       ·refine rn ?_;exact zlg (.refl _) ⟨_,_,.trans (.perm ((pt1 _ _ _).trans (.cons _ ((pt1 _ _ _).trans (.cons _ ((pt1 _ _ _).trans (.cons _ ((pt1 _ _ _).trans (.cons _ (pt9 _ _ _ _ _ _ _ _ _ _ _))))))))) _) (.drop [_] _ _),(false,x'),.inr ⟨rfl,.inr ⟨rfl,hq'⟩,rfl⟩⟩
       ·first|cases hc66|exact absurd hc66 (by decide)|(exfalso;simp_all;done)
     ·obtain ⟨_,hFE,rfl⟩|⟨hc',_⟩|⟨hc',_⟩:=hK
      rotate_left
      ·cases hc'
      ·cases hc'
      refine rn ?_;exact ⟨hi,(x,q0::dfs),by simp only;rw [yf6 hi hFE];exact hx,by simp only;rw [yf6 hi hFE];exact v8 (zam ((List.Perm.cons _ (.cons _ (.cons _ (.cons _ ((pt1 _ _ _).trans (.cons _ ((pt1 _ _ _).trans (.cons _ ((pt1 _ _ _).trans (.cons _ ((pt1 _ _ _).trans (.cons _ ((pt1 _ _ _).trans (.cons _ ((pt1 _ _ _).trans (.cons _ (pt1 _ _ _))))))))))))))))).trans (zgt _ [_,_,_,_,_,_,_,_,_,_,_] _ _))) (v8 (zct (h1:= [_,_,_,_])) es)⟩
     ·obtain ⟨hc',_⟩|⟨hc',b,rest,x',hFE,hpp,rfl⟩|⟨hc',x',hqq,rfl⟩:=hK
      ·cases hc'
      ·obtain rfl:cc= .exit 6:=by simpa using hc'
       refine rn ?_;exact ⟨hi,(x',q0::dfs),by simp only;rw [yf5 hi hFE];exact hpp,by simp only;rw [yf5 hi hFE];exact v8 (zam ((List.Perm.cons _ (.cons _ (.cons _ (.cons _ ((pt1 _ _ _).trans (.cons _ ((pt1 _ _ _).trans (.cons _ ((pt1 _ _ _).trans (.cons _ ((pt1 _ _ _).trans (.cons _ ((pt1 _ _ _).trans (.cons _ ((pt1 _ _ _).trans (.cons _ (pt1 _ _ _))))))))))))))))).trans (zgt _ [_,_,_,_,_,_,_,_,_,_,_] _ _))) (v8 (zct (h1:= [_,_,_,_])) es)⟩
      ·obtain rfl:cc= .ret:=by simpa using hc'
       refine rn ?_;refine ⟨fun l h=>(by cases h),?_⟩
       exact zgq (.cons _ (zqn [_,_,_,_,_,_,_,_,_,_,_] _ dfs)) .nil (.trans (.perm (.cons _ (.cons _ (.cons _ ((pt1 _ _ _).trans (.cons _ ((pt1 _ _ _).trans (.cons _ ((pt1 _ _ _).trans (.cons _ ((pt1 _ _ _).trans (.cons _ ((pt1 _ _ _).trans (.cons _ ((pt1 _ _ _).trans (.cons _ (pt1 _ _ _)))))))))))))))) _) (.drop [_,_,_,_,_,_,_,_] _ _)) ⟨x',.inr ⟨hqq,rfl⟩⟩
    ·have qi:=zd0 hc55 li
     refine rn ?_;have hw:=yic (k:=k) hj qi
     exact ⟨hj,(x,(zie M (zck k L[j])),dfs),⟨by simp only;rw [←hw];exact hx,zy8 hM hj⟩,by simp only;rw [←hw];exact eA⟩
 ·have qj:=zd0 hc19 lj
  subst qj
  refine rn ?_;refine ⟨fun l h=>(by cases h),?_⟩
  exact yau (zqn [_,_,_,_,_,_] _ dfs) .nil (.drop [_,_,_] _ _) ⟨x,.inl ⟨hx,rfl⟩⟩
end Go.Proofs
