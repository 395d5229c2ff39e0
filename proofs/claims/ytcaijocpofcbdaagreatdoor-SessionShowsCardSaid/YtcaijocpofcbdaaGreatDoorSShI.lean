/- The walks of swapRangeCmpFunc, rotateCmpFunc, insertionSortCmpFunc. Conditions: none. -/
import Derived.Test.YtcaijocpofcbdaaGreatDoorSShH
import Derived.ChangeArms
set_option linter.unusedSectionVars false
set_option linter.unusedSimpArgs false
set_option linter.unusedVariables false
set_option maxRecDepth 10000
namespace Go.Proofs
open Go Go.Ab
attribute [local irreducible] QR QV OE zb0 aw zcx zb4 zbi zal thn zfo zdd jch zew
open Go.H
def ybm (cv:AV):Prop:=∀x y:zin,z8 Tryz.prog cv [.agg (zbj x),.agg (zbj y)] [] (fun r h'=>h'= []∧r=iv (zbz x y))
set_option maxHeartbeats 4000000 in
theorem zhk (s:SV) (l:List zin) (a b n:Nat) (cv:AV) (h1:a+n≤b) (h2:b+n≤l.length) (hl:l.length≤1000000000):x3 Tryz.prog 228 [.v s.v,iv (a:Int),iv (b:Int),iv (n:Int),cv] [.row s.v 3 178 ((l).map zbj)] (fun r h'=>h'= [.row s.v 3 178 ((swN l a b n).map zbj)]∧r= .tup []):=by
 refine z6 Tryz.func228 rfl rfl rfl ?_
 refine rn ?_;refine za1 n (fun _=>True) (fun k=>⟨[(10,iv (k:Int)),(0,.v s.v),(1,iv (a:Int)),(2,iv (b:Int)),(3,iv (n:Int))],.row s.v 3 178 ((swN l a b k).map zbj):: [],[]⟩) trivial es ?_
 intro k lk _
 refine rn ?_;refine y3 rfl (fun hc13=> ?_) (fun hc13=> ?_)
 ·have hk:k < n:=by simpa using hc13
  obtain ⟨vx,hx⟩:∃v,(swN l a b k)[a+k]? =some v:=⟨_,List.getElem?_eq_getElem (by rw [zjm];omega)⟩
  obtain ⟨vy,hy⟩:∃v,(swN l a b k)[b+k]? =some v:=⟨_,List.getElem?_eq_getElem (by rw [zjm];omega)⟩
  have hxy:a+k≠b+k:=by omega
  refine zab ?_;refine rn0 ?_;refine w6 ?_;refine zah ?_;refine zje 22 [21] [] [12,13,18,19,20] (fun he=>True) rfl rfl rfl trivial ?_
  refine jq rfl (fun he hC=>by replace hC:=hC.2;exact qrA) ?_
  refine jq rfl (fun he hC=>by replace hC:=hC.2;exact qrA) ?_
  refine jq rfl (fun he hC=>by replace hC:=hC.2;exact qrA) ?_
  refine jq rfl (fun he hC=>by replace hC:=hC.2;exact qrA) ?_
  refine jq rfl (fun he hC=>by replace hC:=hC.2;exact qrA) ?_
  refine jq rfl (fun he hC=>by replace hC:=hC.2;exact qrA) ?_
  refine jq rfl (fun he hC=>by replace hC:=hC.2;exact qrA) ?_
  refine jq rfl (fun he hC=>by replace hC:=hC.2;exact qrA) ?_
  refine jq rfl (fun he hC=>by replace hC:=hC.2;exact qrA) ?_
  refine jq rfl (fun he hC=>by replace hC:=hC.2;exact qrA) ?_
  refine jq rfl (fun he hC=>by replace hC:=hC.2;exact qrA) ?_
  refine jq rfl (fun he hC=>by replace hC:=hC.2;exact qrA) ?_
  refine jq rfl (fun he hC=>by obtain rfl:=hC.1 rfl;exact q8 (k:=(b+k)) rfl rfl (by rw [List.length_map];exact (zdp hy))) ?_
  refine jq rfl (fun he hC=>by obtain rfl:=hC.1 rfl;exact u3 (row:=zbj vy) rfl (zbm hy) rfl) ?_
  refine jq rfl (fun he hC=>by replace hC:=hC.2;exact qrA) ?_
  refine jq rfl (fun he hC=>by replace hC:=hC.2;exact qrA) ?_
  refine jq rfl (fun he hC=>by replace hC:=hC.2;exact qrA) ?_
  refine jq rfl (fun he hC=>by replace hC:=hC.2;exact qrA) ?_
  refine jq rfl (fun he hC=>by obtain rfl:=hC.1 rfl;exact q8 (k:=(a+k)) rfl rfl (by rw [List.length_map];exact (zdp hx))) ?_
  refine jq rfl (fun he hC=>by obtain rfl:=hC.1 rfl;exact u3 (row:=zbj vx) rfl (zbm hx) rfl) ?_
  refine jq rfl (fun he hC=>by obtain rfl:=hC.1 rfl;exact q8 (k:=(a+k)) rfl rfl (by rw [List.length_map];exact (zdp hx))) ?_
  refine je rfl ?_;refine zxt ?_;refine jce rfl fun u=> ?_
  refine zbf (k:=(a+k)) rfl rfl rfl (zbm hx) rfl (Nat.le_of_ble_eq_true rfl) ⟨.any,_,rfl,trivial,?_⟩
  refine jcn ?_;refine ln ?_;refine qq rfl rfl (q8 (k:=(b+k)) rfl rfl (by rw [List.length_set,List.length_map];exact zdp hy)) ?_
  refine z7 rfl (zbf (k:=(b+k)) rfl rfl rfl (row:=zbj vy) (by rw [List.getElem?_set_ne hxy];exact zbm hy) rfl (Nat.le_of_ble_eq_true rfl) ?_)
  have hsw:=ziu (f:=zbj) hx hy
  refine rn ?_;exact ⟨hk,trivial,by rw [show (swN l a b (k+1)).map zbj=_ from hsw.symm];exact eA⟩
 ·have qk:k=n:=by have q:¬(k:Int) < n:=(by simpa using hc13);omega
  refine rn ?_;refine yas ?_;rw [qk];exact ⟨rfl,rfl⟩
set_option maxHeartbeats 4000000 in
theorem ycm (s:SV) (l tg:List zin) (a m b:Nat) (cv:AV) (hR:Rot m (m - a) (b - m) l tg) (h1:a < m) (h2:m < b) (hb:b≤l.length) (hl:l.length≤1000000000):x3 Tryz.prog 226 [.v s.v,iv (a:Int),iv (m:Int),iv (b:Int),cv] [.row s.v 3 178 ((l).map zbj)] (fun r h'=>h'= [.row s.v 3 178 ((tg).map zbj)]∧r= .tup []):=by
 refine z6 Tryz.func226 rfl rfl rfl ?_
 refine w6 (y6 ?_)
 refine q1 ?_;refine q1 ?_;refine qq rfl rfl (za4 (j6 rfl rfl rfl (by omega)) (show iv _=iv ((m - a:Nat):Int) from congrArg iv (by omega))) ?_
 refine q1 ?_;refine u5 (k7 ?_)
 refine w6 (y6 ?_)
 refine q1 ?_;refine q1 ?_;refine qq rfl rfl (za4 (j6 rfl rfl rfl (by omega)) (show iv _=iv ((b - m:Nat):Int) from congrArg iv (by omega))) ?_
 refine rn ?_;refine zc7 (fun x:Nat×Nat×List zin=>Rot m x.1 x.2.1 x.2.2 tg∧1≤x.1∧1≤x.2.1∧x.2.2.length=l.length) (fun x=>⟨[(10,iv (x.1:Int)),(11,iv (x.2.1:Int)),(0,.v s.v),(2,iv (m:Int)),(4,cv)],.row s.v 3 178 ((x.2.2).map zbj):: [],[]⟩) (fun x=>x.1+x.2.1) (m - a,b - m,l) ⟨hR,by show 1≤m - a;omega,by show 1≤b - m;omega,rfl⟩ es ?_
 rintro ⟨i,j,c⟩ ⟨hr,hi,hj,hcl⟩
 simp only at hr hi hj hcl
 have hrl:=ycn hr
 show aw _ _ _ _ _ ⟨[(10,iv (i:Int)),(11,iv (j:Int)),(0,.v s.v),(2,iv (m:Int)),(4,cv)],.row s.v 3 178 ((c).map zbj):: [],[]⟩
 refine rn ?_;refine y3 rfl (fun hc20=> ?_) (fun hc20=> ?_)
 ·have hne:i≠j:=by have q:¬(i:Int)=j:=(by simpa using hc20);omega
  refine rn ?_;refine y3 rfl (fun hc23=> ?_) (fun hc23=> ?_)
  ·have hlt:j < i:=by have q:(i:Int) > j:=(by simpa using hc23);omega
   refine w6 (y6 ?_)
   refine q1 ?_;refine q1 ?_;refine q1 ?_;refine qq rfl rfl (za4 (j6 rfl rfl rfl (by omega)) (show iv _=iv ((m - i:Nat):Int) from congrArg iv (by omega))) ?_
   refine rn ?_;refine z7 rfl (w7 rfl rfl (z8.of_fun (zhk s c (m - i) m j cv (by omega) (by omega) (by omega))) rfl ?_)
   rintro _ _ ⟨rfl,rfl⟩
   refine u5 (k7 ?_)
   refine y6 ?_;refine q1 ?_;refine q1 ?_;refine qq rfl rfl (za4 (j6 rfl rfl rfl (by omega)) (show iv _=iv ((i - j:Nat):Int) from congrArg iv (by omega))) ?_
   refine rn ?_;exact ⟨(i - j,j,swN c (m - i) m j),⟨yf3 hr hlt,by simp only;omega,hj,by rw [zjm];exact hcl⟩,eA,by simp only;omega⟩
  ·have hlt:i < j:=by have q:¬(i:Int) > j:=(by simpa using hc23);omega
   refine w6 (y6 ?_)
   refine q1 ?_;refine q1 ?_;refine q1 ?_;refine qq rfl rfl (za4 (j6 rfl rfl rfl (by omega)) (show iv _=iv ((m - i:Nat):Int) from congrArg iv (by omega))) ?_
   refine q1 ?_;refine q1 ?_;refine q1 ?_;refine q1 ?_;refine qq rfl rfl (za4 (j6 rfl rfl rfl (by omega)) (show iv _=iv ((m+j - i:Nat):Int) from congrArg iv (by omega))) ?_
   refine rn ?_;refine z7 rfl (w7 rfl rfl (z8.of_fun (zhk s c (m - i) (m+j - i) i cv (by omega) (by omega) (by omega))) rfl ?_)
   rintro _ _ ⟨rfl,rfl⟩
   refine u5 (k7 ?_)
   refine y6 ?_;refine q1 ?_;refine q1 ?_;refine qq rfl rfl (za4 (j6 rfl rfl rfl (by omega)) (show iv _=iv ((j - i:Nat):Int) from congrArg iv (by omega))) ?_
   refine rn ?_;exact ⟨(i,j - i,swN c (m - i) (m+j - i) i),⟨yf2 hr hlt,hi,by simp only;omega,by rw [zjm];exact hcl⟩,eA,by simp only;omega⟩
 ·have hij:i=j:=by have q:(i:Int)=j:=(by simpa using hc20);omega
  subst hij
  refine zgu ?_;refine zgj ?_;refine zgj ?_;refine zdf ?_;refine k7 ?_;refine y6 ?_;refine q1 ?_;refine q1 ?_;refine q1 ?_;refine qq rfl rfl (za4 (j6 rfl rfl rfl (by omega)) (show iv _=iv ((m - i:Nat):Int) from congrArg iv (by omega))) ?_
  refine rn ?_;refine z7 rfl (w7 rfl rfl (z8.of_fun (zhk s c (m - i) m i cv (by omega) (by omega) (by omega))) rfl ?_)
  rintro _ _ ⟨rfl,rfl⟩
  refine rn ?_;refine yas ?_;rw [yf4 hr];exact ⟨rfl,rfl⟩
set_option maxHeartbeats 4000000 in
theorem zv3 (s:SV) (P M Z:List zin) (a b:Nat) (cv:AV) (hc:ybm cv) (hP:P.length=a) (hM:a+M.length=b) (hl:(P++(M++Z)).length≤1000000000):x3 Tryz.prog 215 [.v s.v,iv (a:Int),iv (b:Int),cv] [.row s.v 3 178 ((P++(M++Z)).map zbj)] (fun r h'=>h'= [.row s.v 3 178 ((P++(isL zbz M++Z)).map zbj)]∧r= .tup []):=by
 refine z6 Tryz.func215 rfl rfl rfl ?_
 simp only [List.length_append] at hl
 refine rn ?_;refine za1 M.length (fun _=>True) (fun k=>⟨[(8,iv ((a+1+k:Nat):Int)),(0,.v s.v),(1,iv (a:Int)),(2,iv (b:Int)),(3,cv)],.row s.v 3 178 ((P++(isL zbz (M.take (k+1))++(M.drop (k+1)++Z))).map zbj):: [],[]⟩) trivial (by rw [yd1];exact es) ?_
 intro k lk _
 refine rn ?_;refine y3 rfl (fun hc14=> ?_) (fun hc14=> ?_)
 ·have hk:k+1 < M.length:=by have q:((a+1+k:Nat):Int) < b:=(by simpa using hc14);omega
  have hS:(isL zbz (M.take (k+1))).Pairwise (LeC zbz):=(zl5 zxs _).1
  have hSl:(isL zbz (M.take (k+1))).length=k+1:=by rw [zgo,List.length_take];omega
  have e0:P++((isL zbz (M.take (k+1)))++(M.drop (k+1)++Z))=P++((isL zbz (M.take (k+1))).take (k+1)++M[k+1]::((isL zbz (M.take (k+1))).drop (k+1)++(M.drop (k+1+1)++Z))):=zzq hSl hk
  obtain ⟨x,hxm⟩:∃x,M[k+1]'hk=x:=⟨_,rfl⟩
  rw [e0,hxm]
  refine rn ?_;refine zc7 (fun q:Nat=>q≤(isL zbz (M.take (k+1))).length∧∀z∈(isL zbz (M.take (k+1))).drop q,zbz x z < 0) (fun q=>⟨[(9,iv ((a+q:Nat):Int)),(8,iv ((a+1+k:Nat):Int)),(0,.v s.v),(1,iv (a:Int)),(2,iv (b:Int)),(3,cv)],.row s.v 3 178 ((P++((isL zbz (M.take (k+1))).take q++x::((isL zbz (M.take (k+1))).drop q++(M.drop (k+1+1)++Z)))).map zbj):: [],[]⟩) (fun q=>q) (k+1) ⟨by omega,fun z hz=>absurd hz (by rw [List.drop_eq_nil_of_le (Nat.le_of_eq hSl)];simp)⟩ (by rw [show a+(k+1)=a+1+k by omega];exact es) ?_
  rintro q ⟨hq,hz⟩
  refine rn ?_;refine j4 14 rfl ?_
  refine rn ?_;refine zdw (fun hg4_3=> ?_) (fun hg4_3=> ?_)
  ·refine dq rfl rfl qrA ?_;refine dq rfl rfl qrA ?_;refine dq rfl rfl qrA ?_;refine dq rfl rfl (q8 (k:=a+q) rfl rfl (by rw [List.length_map];exact zdp (yhf hP hq))) ?_
   refine dq rfl rfl (u3 (row:=zbj x) rfl (zbm (yhf hP hq)) rfl) ?_
   refine dq rfl rfl qrA ?_;refine dq rfl rfl qrA ?_;refine dq rfl rfl (za4 (j6 rfl rfl rfl (by omega)) (show iv _=iv ((a+q - 1:Nat):Int) from congrArg iv (by have h0:=of_decide_eq_true hg4_3;omega))) ?_
   refine dq rfl rfl (q8 (k:=a+q - 1) rfl rfl (by rw [List.length_map];exact zdp (yi0 hP hq (by have h0:=of_decide_eq_true hg4_3;omega)))) ?_
   refine dq rfl rfl (u3 (row:=zbj ((isL zbz (M.take (k+1))).getD (q - 1) x)) rfl (zbm (yi0 hP hq (by have h0:=of_decide_eq_true hg4_3;omega))) rfl) ?_
   refine rn ?_;refine qv rfl rfl (y5 rfl rfl (z8.pure (R:=fun r=>r=iv (zbz x ((isL zbz (M.take (k+1))).getD (q - 1) x))) (hc x ((isL zbz (M.take (k+1))).getD (q - 1) x)))) ?_
   refine rn ?_;refine y3 rfl (fun hc34=> ?_) (fun hc34=> ?_)
   ·have hq1:1≤q:=(by have h0:=of_decide_eq_true hg4_3;omega)
    have hlt:zbz x ((isL zbz (M.take (k+1))).getD (q - 1) x) < 0:=of_decide_eq_true hc34
    have hx:=yhf (Z:=(M.drop (k+1+1)++Z)) (x:=x) hP hq
    have hy:=yi0 (Z:=(M.drop (k+1+1)++Z)) (x:=x) hP hq hq1
    obtain ⟨v,hv⟩:∃v,((isL zbz (M.take (k+1))).getD (q - 1) x)=v:=⟨_,rfl⟩
    rw [hv] at hy
    have hxy:a+q≠a+q - 1:=by omega
    refine zab ?_;refine rn0 ?_;refine w6 ?_;refine zah ?_;refine zje 16 [15] [] [8,9,12,13,14] (fun he=>True) rfl rfl rfl trivial ?_
    refine jq rfl (fun he hC=>by replace hC:=hC.2;exact qrA) ?_
    refine jq rfl (fun he hC=>by replace hC:=hC.2;exact qrA) ?_
    refine jq rfl (fun he hC=>by replace hC:=hC.2;exact qrA) ?_
    refine jq rfl (fun he hC=>by replace hC:=hC.2;exact qrA) ?_
    refine jq rfl (fun he hC=>by replace hC:=hC.2;exact za4 (j6 rfl rfl rfl (by omega)) (show iv _=iv ((a+q - 1:Nat):Int) from congrArg iv (by omega))) ?_
    refine jq rfl (fun he hC=>by replace hC:=hC.2;exact qrA) ?_
    refine jq rfl (fun he hC=>by replace hC:=hC.2;exact qrA) ?_
    refine jq rfl (fun he hC=>by replace hC:=hC.2;exact za4 (j6 rfl rfl rfl (by omega)) (show iv _=iv ((a+q - 1:Nat):Int) from congrArg iv (by omega))) ?_
    refine jq rfl (fun he hC=>by obtain rfl:=hC.1 rfl;exact q8 (k:=(a+q - 1)) rfl rfl (by rw [List.length_map];exact (zdp hy))) ?_
    refine jq rfl (fun he hC=>by obtain rfl:=hC.1 rfl;exact u3 (row:=zbj v) rfl (zbm hy) rfl) ?_
    refine jq rfl (fun he hC=>by replace hC:=hC.2;exact qrA) ?_
    refine jq rfl (fun he hC=>by replace hC:=hC.2;exact qrA) ?_
    refine jq rfl (fun he hC=>by obtain rfl:=hC.1 rfl;exact q8 (k:=(a+q)) rfl rfl (by rw [List.length_map];exact (zdp hx))) ?_
    refine jq rfl (fun he hC=>by obtain rfl:=hC.1 rfl;exact u3 (row:=zbj x) rfl (zbm hx) rfl) ?_
    refine jq rfl (fun he hC=>by obtain rfl:=hC.1 rfl;exact q8 (k:=(a+q)) rfl rfl (by rw [List.length_map];exact (zdp hx))) ?_
    refine je rfl ?_;refine zxt ?_;refine jce rfl fun u=> ?_
    refine zbf (k:=(a+q)) rfl rfl rfl (zbm hx) rfl (Nat.le_of_ble_eq_true rfl) ⟨.any,_,rfl,trivial,?_⟩
    refine jcn ?_;refine ln ?_;refine qq rfl rfl (q8 (k:=(a+q - 1)) rfl rfl (by rw [List.length_set,List.length_map];exact zdp hy)) ?_
    refine z7 rfl (zbf (k:=(a+q - 1)) rfl rfl rfl (row:=zbj v) (by rw [List.getElem?_set_ne hxy];exact zbm hy) rfl (Nat.le_of_ble_eq_true rfl) ?_)
    have hsw:=ziu (f:=zbj) hx hy
    refine u5 ?_;refine zj0 ?_;refine k7 ?_;refine y6 ?_;refine q1 ?_;refine qq rfl rfl (za4 (j6 rfl rfl rfl (by omega)) (show iv _=iv ((a+(q - 1):Nat):Int) from congrArg iv (by omega))) ?_
    refine rn ?_;exact ⟨q - 1,⟨by omega,yd2 hq hq1 hlt hz⟩,by rw [←zv0 hP hq hq1,←hsw];exact eA,by omega⟩
   ·have hst:1≤q→¬zbz x ((isL zbz (M.take (k+1))).getD (q - 1) x) < 0:=by first|exact fun _=>of_decide_eq_false hc34|exact fun h1=>absurd (of_decide_eq_false hg4_3) (by omega)
    refine rn ?_;subst hxm
    exact ⟨by omega,trivial,by rw [←ya4 zkf hS hk hq hz hst];exact eA⟩
  ·refine rn ?_;refine zqy rfl ?_;have hst:1≤q→¬zbz x ((isL zbz (M.take (k+1))).getD (q - 1) x) < 0:=by first|exact fun _=>of_decide_eq_false hc34|exact fun h1=>absurd (of_decide_eq_false hg4_3) (by omega)
   refine rn ?_;subst hxm
   exact ⟨by omega,trivial,by rw [←ya4 zkf hS hk hq hz hst];exact eA⟩
 ·have hk:M.length≤k+1:=by have q:¬((a+1+k:Nat):Int) < b:=(by simpa using hc14);omega
  refine rn ?_;refine yas ?_;rw [List.take_of_length_le hk,List.drop_eq_nil_of_le hk];exact ⟨rfl,rfl⟩
set_option maxHeartbeats 4000000 in
theorem yld (s:SV) (P R Z:List zin) (x:zin) (a m b:Nat) (cv:AV) (hc:ybm cv) (hP:P.length=a) (hm:a+ [x].length=m) (hb:m+R.length=b) (hR:R.Pairwise (LeC zbz)) (hl:(P++([x]++(R++Z))).length≤1000000000):x3 Tryz.prog 216 [.v s.v,iv (a:Int),iv (m:Int),iv (b:Int),cv] [.row s.v 3 178 ((P++([x]++(R++Z))).map zbj)] (fun r h'=>h'= [.row s.v 3 178 ((P++(mrg zbz [x] R++Z)).map zbj)]∧r= .tup []):=by
 refine z6 Tryz.func216 rfl rfl rfl ?_
 simp only [List.length_append] at hl
 refine w6 ?_;refine w6 (y6 ?_)
 refine q1 ?_;refine q1 ?_;refine q1 ?_;refine qq rfl rfl (zco (c:=true) rfl rfl (congrArg some (beq_iff_eq.2 (by simp at hm;omega)))) ?_
 refine rn ?_;refine y3 rfl (fun hc28=> ?_) (fun hc28=> ?_)
 ·refine rn ?_;refine zc7 (fun z:Nat×Nat=>z.1≤z.2∧z.2≤R.length∧(1≤z.1→zbz (R.getD (z.1 - 1) zc8) x < 0)∧(z.2 < R.length→¬zbz (R.getD z.2 zc8) x < 0)) (fun z=>⟨[(10,iv ((m+z.1:Nat):Int)),(11,iv ((m+z.2:Nat):Int)),(0,.v s.v),(1,iv (a:Int)),(2,iv (m:Int)),(3,iv (b:Int)),(4,cv)],.row s.v 3 178 ((P++([x]++(R++Z))).map zbj):: [],[]⟩) (fun z=>z.2 - z.1) (0,R.length) ⟨Nat.zero_le _,Nat.le_refl _,fun h=>absurd h (by simp),fun h=>absurd h (by simp)⟩ (by simp only [Nat.add_zero,hb];exact es) ?_
  rintro ⟨u,v⟩ ⟨huv0,hu0,h1,h2⟩
  simp only at huv0 hu0 h1 h2
  show aw _ _ _ _ _ ⟨[(10,iv ((m+u:Nat):Int)),(11,iv ((m+v:Nat):Int)),(0,.v s.v),(1,iv (a:Int)),(2,iv (m:Int)),(3,iv (b:Int)),(4,cv)],.row s.v 3 178 ((P++([x]++(R++Z))).map zbj):: [],[]⟩
  refine rn ?_;refine y3 rfl (fun hc33=> ?_) (fun hc33=> ?_)
  ·have huv:u < v:=by have q:((m+u:Nat):Int) < ((m+v:Nat):Int):=of_decide_eq_true hc33;omega
   refine zab ?_;refine k7 ?_;refine zah ?_;refine w6 (y6 ?_)
   refine q1 ?_;refine q1 ?_;refine qq rfl rfl (za4 (j6 rfl rfl rfl (by omega)) (show iv _=iv (((m+u)+(m+v):Nat):Int) from congrArg iv (by omega))) ?_
   refine qq rfl rfl (zbu (m:=(((m+u)+(m+v):Nat):Int)) rfl (zis (by omega))) ?_
   refine qq rfl rfl (zg6 (c:=((((m+u)+(m+v)) / 2:Nat):Int)) rfl rfl (zit (by omega)) (by decide)) ?_
   refine qq rfl rfl (zbu (m:=((((m+u)+(m+v)) / 2:Nat):Int)) rfl (zi8 (by omega))) ?_
   refine rn0 ?_;refine w6 ?_;rw [show (m+u+(m+v)) / 2=m+((u+v) / 2) by omega]
   refine j4 9 rfl ?_
   refine dq rfl rfl qrA ?_;refine dq rfl rfl qrA ?_;refine dq rfl rfl qrA ?_;refine dq rfl rfl (q8 (k:=(m+((u+v) / 2))) rfl rfl (by rw [List.length_map];exact (zdp (ye9 (L:= [x]) hP hm zc8 (by omega) (by omega))))) ?_
   refine dq rfl rfl (u3 (row:=zbj (R.getD (m+((u+v) / 2) - m) zc8)) rfl (zbm (ye9 (L:= [x]) hP hm zc8 (by omega) (by omega))) rfl) ?_
   refine dq rfl rfl qrA ?_;refine dq rfl rfl qrA ?_;refine dq rfl rfl (q8 (k:=a) rfl rfl (by rw [List.length_map];exact (zdp (yfa (L:= [x]) (R:=R) (Z:=Z) hP zc8 (Nat.le_refl a) (by simp))))) ?_
   refine dq rfl rfl (u3 (row:=zbj ([x].getD (a - a) zc8)) rfl (zbm (yfa (L:= [x]) (R:=R) (Z:=Z) hP zc8 (Nat.le_refl a) (by simp))) rfl) ?_
   refine rn ?_;refine qv rfl rfl (y5 rfl rfl (z8.pure (R:=fun r=>r=iv (zbz (R.getD (m+((u+v) / 2) - m) zc8) ([x].getD (a - a) zc8))) (hc (R.getD (m+((u+v) / 2) - m) zc8) ([x].getD (a - a) zc8)))) ?_
   refine rn ?_;refine y3 rfl (fun hc50=> ?_) (fun hc50=> ?_)
   ·have hlt:zbz (R.getD (m+((u+v) / 2) - m) zc8) ([x].getD (a - a) zc8) < 0:=of_decide_eq_true hc50
    rw [show m+((u+v) / 2) - m=((u+v) / 2) by omega,show [x].getD (a - a) zc8=x by rw [Nat.sub_self];rfl] at hlt
    refine y6 ?_;refine q1 ?_;refine qq rfl rfl (za4 (j6 rfl rfl rfl (by omega)) (show iv _=iv ((m+(((u+v) / 2)+1):Nat):Int) from congrArg iv (by omega))) ?_
    refine rn ?_;exact ⟨(((u+v) / 2)+1,v),⟨by simp only;omega,hu0,fun _=>by simp only;rw [Nat.add_sub_cancel];exact hlt,h2⟩,eA,by simp only;omega⟩
   ·have hlt:¬zbz (R.getD (m+((u+v) / 2) - m) zc8) ([x].getD (a - a) zc8) < 0:=of_decide_eq_false hc50
    rw [show m+((u+v) / 2) - m=((u+v) / 2) by omega,show [x].getD (a - a) zc8=x by rw [Nat.sub_self];rfl] at hlt
    refine rn ?_;exact ⟨(u,((u+v) / 2)),⟨by simp only;omega,by simp only;omega,h1,fun _=>hlt⟩,eA,by simp only;omega⟩
  ·have huv:u=v:=by have q:¬((m+u:Nat):Int) < ((m+v:Nat):Int):=of_decide_eq_false hc33;omega
   subst huv
   refine rn ?_;have hu:u≤R.length:=hu0
   refine za1 u (fun _=>True) (fun q=>⟨[(13,iv ((a+q:Nat):Int)),(10,iv ((m+u:Nat):Int)),(0,.v s.v),(1,iv (a:Int)),(2,iv (m:Int)),(3,iv (b:Int)),(4,cv)],.row s.v 3 178 ((P++(R.take q++x::(R.drop q++Z))).map zbj):: [],[]⟩) trivial es ?_
   intro q lq _
   refine w6 ?_;refine w6 (y6 ?_)
   refine q1 ?_;refine q1 ?_;refine qq rfl rfl (za4 (j6 rfl rfl rfl (by omega)) (show iv _=iv ((a+u:Nat):Int) from congrArg iv (by simp at hm;omega))) ?_
   refine rn ?_;refine y3 rfl (fun hc58=> ?_) (fun hc58=> ?_)
   ·have hq:q < u:=by have q0:((a+q:Nat):Int) < ((a+u:Nat):Int):=of_decide_eq_true hc58;omega
    have hx:=yhf (S:=R) (Z:=Z) (x:=x) hP (Nat.le_of_lt (Nat.lt_of_lt_of_le hq hu))
    have hy:=ylu (S:=R) (Z:=Z) (x:=x) hP (Nat.lt_of_lt_of_le hq hu) zc8
    obtain ⟨v2,hv2⟩:∃v,R.getD q zc8=v:=⟨_,rfl⟩
    rw [hv2] at hy
    have hxy:a+q≠a+q+1:=by omega
    refine zab ?_;refine rn0 ?_;refine w6 ?_;refine zah ?_;refine zje 16 [15] [] [8,9,12,13,14] (fun he=>True) rfl rfl rfl trivial ?_
    refine jq rfl (fun he hC=>by replace hC:=hC.2;exact qrA) ?_
    refine jq rfl (fun he hC=>by replace hC:=hC.2;exact qrA) ?_
    refine jq rfl (fun he hC=>by replace hC:=hC.2;exact qrA) ?_
    refine jq rfl (fun he hC=>by replace hC:=hC.2;exact qrA) ?_
    refine jq rfl (fun he hC=>by replace hC:=hC.2;exact za4 (j6 rfl rfl rfl (by omega)) (show iv _=iv ((a+q+1:Nat):Int) from congrArg iv (by omega))) ?_
    refine jq rfl (fun he hC=>by replace hC:=hC.2;exact qrA) ?_
    refine jq rfl (fun he hC=>by replace hC:=hC.2;exact qrA) ?_
    refine jq rfl (fun he hC=>by replace hC:=hC.2;exact za4 (j6 rfl rfl rfl (by omega)) (show iv _=iv ((a+q+1:Nat):Int) from congrArg iv (by omega))) ?_
    refine jq rfl (fun he hC=>by obtain rfl:=hC.1 rfl;exact q8 (k:=(a+q+1)) rfl rfl (by rw [List.length_map];exact (zdp hy))) ?_
    refine jq rfl (fun he hC=>by obtain rfl:=hC.1 rfl;exact u3 (row:=zbj v2) rfl (zbm hy) rfl) ?_
    refine jq rfl (fun he hC=>by replace hC:=hC.2;exact qrA) ?_
    refine jq rfl (fun he hC=>by replace hC:=hC.2;exact qrA) ?_
    refine jq rfl (fun he hC=>by obtain rfl:=hC.1 rfl;exact q8 (k:=(a+q)) rfl rfl (by rw [List.length_map];exact (zdp hx))) ?_
    refine jq rfl (fun he hC=>by obtain rfl:=hC.1 rfl;exact u3 (row:=zbj x) rfl (zbm hx) rfl) ?_
    refine jq rfl (fun he hC=>by obtain rfl:=hC.1 rfl;exact q8 (k:=(a+q)) rfl rfl (by rw [List.length_map];exact (zdp hx))) ?_
    refine je rfl ?_;refine zxt ?_;refine jce rfl fun u=> ?_
    refine zbf (k:=(a+q)) rfl rfl rfl (zbm hx) rfl (Nat.le_of_ble_eq_true rfl) ⟨.any,_,rfl,trivial,?_⟩
    refine jcn ?_;refine ln ?_;refine qq rfl rfl (q8 (k:=(a+q+1)) rfl rfl (by rw [List.length_set,List.length_map];exact zdp hy)) ?_
    refine z7 rfl (zbf (k:=(a+q+1)) rfl rfl rfl (row:=zbj v2) (by rw [List.getElem?_set_ne hxy];exact zbm hy) rfl (Nat.le_of_ble_eq_true rfl) ?_)
    have hsw:=ziu (f:=zbj) hx hy
    refine u5 ?_;refine zj0 ?_;refine k7 ?_;refine y6 ?_;refine q1 ?_;refine qq rfl rfl (za4 (j6 rfl rfl rfl (by omega)) (show iv _=iv ((a+(q+1):Nat):Int) from congrArg iv (by omega))) ?_
    refine rn ?_;exact ⟨hq,trivial,by rw [←yj6 hP (Nat.lt_of_lt_of_le hq hu),←hsw];exact eA⟩
   ·have hq:q=u:=by have q0:¬((a+q:Nat):Int) < ((a+u:Nat):Int):=of_decide_eq_false hc58;omega
    subst hq
    refine rn ?_;refine rqz ?_;rw [zy0 zkf hR hu h1 h2];exact ⟨rfl,rfl⟩
 ·first|cases hc28|exact absurd hc28 (by decide)|(exfalso;simp_all;done)
set_option maxHeartbeats 4000000 in
theorem ylc (s:SV) (P L Z:List zin) (y:zin) (a m b:Nat) (cv:AV) (hc:ybm cv) (hP:P.length=a) (hm:a+L.length=m) (hb:m+ [y].length=b) (h1L:L.length≠1) (hL:L.Pairwise (LeC zbz)) (hl:(P++(L++([y]++Z))).length≤1000000000):x3 Tryz.prog 216 [.v s.v,iv (a:Int),iv (m:Int),iv (b:Int),cv] [.row s.v 3 178 ((P++(L++([y]++Z))).map zbj)] (fun r h'=>h'= [.row s.v 3 178 ((P++(mrg zbz L [y]++Z)).map zbj)]∧r= .tup []):=by
 refine z6 Tryz.func216 rfl rfl rfl ?_
 simp only [List.length_append] at hl
 refine w6 ?_;refine w6 (y6 ?_)
 refine q1 ?_;refine q1 ?_;refine q1 ?_;refine qq rfl rfl (zco (c:=false) rfl rfl (congrArg some (beq_eq_false_iff_ne.2 (by omega)))) ?_
 refine rn ?_;refine y3 rfl (fun hc28=> ?_) (fun hc28=> ?_)
 ·first|cases hc28|exact absurd hc28 (by decide)|(exfalso;simp_all;done)
 ·refine zab ?_;refine k7 ?_;refine w6 ?_;refine w6 (y6 ?_)
  refine q1 ?_;refine q1 ?_;refine q1 ?_;refine qq rfl rfl (zco (c:=true) rfl rfl (congrArg some (beq_iff_eq.2 (by simp at hb;omega)))) ?_
  refine rn ?_;refine y3 rfl (fun hc80=> ?_) (fun hc80=> ?_)
  ·refine rn ?_;refine zc7 (fun z:Nat×Nat=>z.1≤z.2∧z.2≤L.length∧(1≤z.1→¬zbz y (L.getD (z.1 - 1) zc8) < 0)∧(z.2 < L.length→zbz y (L.getD z.2 zc8) < 0)) (fun z=>⟨[(14,iv ((a+z.1:Nat):Int)),(15,iv ((a+z.2:Nat):Int)),(0,.v s.v),(1,iv (a:Int)),(2,iv (m:Int)),(3,iv (b:Int)),(4,cv)],.row s.v 3 178 ((P++(L++([y]++Z))).map zbj):: [],[]⟩) (fun z=>z.2 - z.1) (0,L.length) ⟨Nat.zero_le _,Nat.le_refl _,fun h=>absurd h (by simp),fun h=>absurd h (by simp)⟩ (by simp only [Nat.add_zero,hm];exact es) ?_
   rintro ⟨u,v⟩ ⟨huv0,hu0,h1,h2⟩
   simp only at huv0 hu0 h1 h2
   show aw _ _ _ _ _ ⟨[(14,iv ((a+u:Nat):Int)),(15,iv ((a+v:Nat):Int)),(0,.v s.v),(1,iv (a:Int)),(2,iv (m:Int)),(3,iv (b:Int)),(4,cv)],.row s.v 3 178 ((P++(L++([y]++Z))).map zbj):: [],[]⟩
   refine rn ?_;refine y3 rfl (fun hc85=> ?_) (fun hc85=> ?_)
   ·have huv:u < v:=by have q:((a+u:Nat):Int) < ((a+v:Nat):Int):=of_decide_eq_true hc85;omega
    refine zab ?_;refine k7 ?_;refine zah ?_;refine w6 (y6 ?_)
    refine q1 ?_;refine q1 ?_;refine qq rfl rfl (za4 (j6 rfl rfl rfl (by omega)) (show iv _=iv (((a+u)+(a+v):Nat):Int) from congrArg iv (by omega))) ?_
    refine qq rfl rfl (zbu (m:=(((a+u)+(a+v):Nat):Int)) rfl (zis (by omega))) ?_
    refine qq rfl rfl (zg6 (c:=((((a+u)+(a+v)) / 2:Nat):Int)) rfl rfl (zit (by omega)) (by decide)) ?_
    refine qq rfl rfl (zbu (m:=((((a+u)+(a+v)) / 2:Nat):Int)) rfl (zi8 (by omega))) ?_
    refine rn0 ?_;refine w6 ?_;rw [show (a+u+(a+v)) / 2=a+((u+v) / 2) by omega]
    refine j4 9 rfl ?_
    refine dq rfl rfl qrA ?_;refine dq rfl rfl qrA ?_;refine dq rfl rfl qrA ?_;refine dq rfl rfl (q8 (k:=m) rfl rfl (by rw [List.length_map];exact (zdp (ye9 (L:=L) (R:= [y]) (Z:=Z) hP hm zc8 (Nat.le_refl m) (by simp))))) ?_
    refine dq rfl rfl (u3 (row:=zbj ([y].getD (m - m) zc8)) rfl (zbm (ye9 (L:=L) (R:= [y]) (Z:=Z) hP hm zc8 (Nat.le_refl m) (by simp))) rfl) ?_
    refine dq rfl rfl qrA ?_;refine dq rfl rfl qrA ?_;refine dq rfl rfl (q8 (k:=(a+((u+v) / 2))) rfl rfl (by rw [List.length_map];exact (zdp (yfa (L:=L) (R:= [y]) (Z:=Z) hP zc8 (by omega) (by omega))))) ?_
    refine dq rfl rfl (u3 (row:=zbj (L.getD (a+((u+v) / 2) - a) zc8)) rfl (zbm (yfa (L:=L) (R:= [y]) (Z:=Z) hP zc8 (by omega) (by omega))) rfl) ?_
    refine rn ?_;refine qv rfl rfl (y5 rfl rfl (z8.pure (R:=fun r=>r=iv (zbz ([y].getD (m - m) zc8) (L.getD (a+((u+v) / 2) - a) zc8))) (hc ([y].getD (m - m) zc8) (L.getD (a+((u+v) / 2) - a) zc8)))) ?_
    refine rn ?_;refine y3 rfl (fun hc103=> ?_) (fun hc103=> ?_)
    ·have hlt:¬zbz ([y].getD (m - m) zc8) (L.getD (a+((u+v) / 2) - a) zc8) < 0:=of_decide_eq_false (by simpa using hc103)
     rw [show a+((u+v) / 2) - a=((u+v) / 2) by omega,show [y].getD (m - m) zc8=y by rw [Nat.sub_self];rfl] at hlt
     refine y6 ?_;refine q1 ?_;refine qq rfl rfl (za4 (j6 rfl rfl rfl (by omega)) (show iv _=iv ((a+(((u+v) / 2)+1):Nat):Int) from congrArg iv (by omega))) ?_
     refine rn ?_;exact ⟨(((u+v) / 2)+1,v),⟨by simp only;omega,hu0,fun _=>by simp only;rw [Nat.add_sub_cancel];exact hlt,h2⟩,eA,by simp only;omega⟩
    ·have hlt:zbz ([y].getD (m - m) zc8) (L.getD (a+((u+v) / 2) - a) zc8) < 0:=of_decide_eq_true (by simpa using hc103)
     rw [show a+((u+v) / 2) - a=((u+v) / 2) by omega,show [y].getD (m - m) zc8=y by rw [Nat.sub_self];rfl] at hlt
     refine rn ?_;exact ⟨(u,((u+v) / 2)),⟨by simp only;omega,by simp only;omega,h1,fun _=>hlt⟩,eA,by simp only;omega⟩
   ·have huv:u=v:=by have q:¬((a+u:Nat):Int) < ((a+v:Nat):Int):=of_decide_eq_false hc85;omega
    subst huv
    refine rn ?_;have hu:u≤L.length:=hu0
    refine zc7 (fun q:Nat=>u≤q∧q≤L.length) (fun q=>⟨[(17,iv ((a+q:Nat):Int)),(14,iv ((a+u:Nat):Int)),(0,.v s.v),(1,iv (a:Int)),(2,iv (m:Int)),(3,iv (b:Int)),(4,cv)],.row s.v 3 178 ((P++(L.take q++y::(L.drop q++Z))).map zbj):: [],[]⟩) (fun q=>q) L.length ⟨hu,Nat.le_refl _⟩ (by rw [List.take_length,List.drop_length,hm];exact es) ?_
    rintro q ⟨hq1,hq2⟩
    refine rn ?_;refine y3 rfl (fun hc110=> ?_) (fun hc110=> ?_)
    ·have hq:u < q:=by have q0:((a+q:Nat):Int) > ((a+u:Nat):Int):=of_decide_eq_true hc110;omega
     have hx:=yhf (S:=L) (Z:=Z) (x:=y) hP hq2
     have hy:=yi0 (S:=L) (Z:=Z) (x:=y) hP hq2 (by omega)
     obtain ⟨v2,hv2⟩:∃v,L.getD (q - 1) y=v:=⟨_,rfl⟩
     rw [hv2] at hy
     have hxy:a+q≠a+q - 1:=by omega
     refine zab ?_;refine rn0 ?_;refine w6 ?_;refine zah ?_;refine zje 16 [15] [] [8,9,12,13,14] (fun he=>True) rfl rfl rfl trivial ?_
     refine jq rfl (fun he hC=>by replace hC:=hC.2;exact qrA) ?_
     refine jq rfl (fun he hC=>by replace hC:=hC.2;exact qrA) ?_
     refine jq rfl (fun he hC=>by replace hC:=hC.2;exact qrA) ?_
     refine jq rfl (fun he hC=>by replace hC:=hC.2;exact qrA) ?_
     refine jq rfl (fun he hC=>by replace hC:=hC.2;exact za4 (j6 rfl rfl rfl (by omega)) (show iv _=iv ((a+q - 1:Nat):Int) from congrArg iv (by omega))) ?_
     refine jq rfl (fun he hC=>by replace hC:=hC.2;exact qrA) ?_
     refine jq rfl (fun he hC=>by replace hC:=hC.2;exact qrA) ?_
     refine jq rfl (fun he hC=>by replace hC:=hC.2;exact za4 (j6 rfl rfl rfl (by omega)) (show iv _=iv ((a+q - 1:Nat):Int) from congrArg iv (by omega))) ?_
     refine jq rfl (fun he hC=>by obtain rfl:=hC.1 rfl;exact q8 (k:=(a+q - 1)) rfl rfl (by rw [List.length_map];exact (zdp hy))) ?_
     refine jq rfl (fun he hC=>by obtain rfl:=hC.1 rfl;exact u3 (row:=zbj v2) rfl (zbm hy) rfl) ?_
     refine jq rfl (fun he hC=>by replace hC:=hC.2;exact qrA) ?_
     refine jq rfl (fun he hC=>by replace hC:=hC.2;exact qrA) ?_
     refine jq rfl (fun he hC=>by obtain rfl:=hC.1 rfl;exact q8 (k:=(a+q)) rfl rfl (by rw [List.length_map];exact (zdp hx))) ?_
     refine jq rfl (fun he hC=>by obtain rfl:=hC.1 rfl;exact u3 (row:=zbj y) rfl (zbm hx) rfl) ?_
     refine jq rfl (fun he hC=>by obtain rfl:=hC.1 rfl;exact q8 (k:=(a+q)) rfl rfl (by rw [List.length_map];exact (zdp hx))) ?_
     refine je rfl ?_;refine zxt ?_;refine jce rfl fun u=> ?_
     refine zbf (k:=(a+q)) rfl rfl rfl (zbm hx) rfl (Nat.le_of_ble_eq_true rfl) ⟨.any,_,rfl,trivial,?_⟩
     refine jcn ?_;refine ln ?_;refine qq rfl rfl (q8 (k:=(a+q - 1)) rfl rfl (by rw [List.length_set,List.length_map];exact zdp hy)) ?_
     refine z7 rfl (zbf (k:=(a+q - 1)) rfl rfl rfl (row:=zbj v2) (by rw [List.getElem?_set_ne hxy];exact zbm hy) rfl (Nat.le_of_ble_eq_true rfl) ?_)
     have hsw:=ziu (f:=zbj) hx hy
     refine u5 ?_;refine zj0 ?_;refine k7 ?_;refine y6 ?_;refine q1 ?_;refine qq rfl rfl (za4 (j6 rfl rfl rfl (by omega)) (show iv _=iv ((a+(q - 1):Nat):Int) from congrArg iv (by omega))) ?_
     refine rn ?_;exact ⟨q - 1,⟨by omega,by omega⟩,by rw [←zv0 hP hq2 (by omega),←hsw];exact eA,by omega⟩
    ·have hq:q=u:=by have q0:¬((a+q:Nat):Int) > ((a+u:Nat):Int):=of_decide_eq_false hc110;omega
     subst hq
     refine rn ?_;refine rqz ?_;rw [zvr zkf hL hu h1 h2];exact ⟨rfl,rfl⟩
  ·first|cases hc80|exact absurd hc80 (by decide)|(exfalso;simp_all;done)
set_option maxHeartbeats 8000000 in
theorem ylb (s:SV) (n:Nat) (P L R Z:List zin) (a m b:Nat) (cv:AV) (hc:ybm cv) (hn:L.length+R.length=n) (hP:P.length=a) (hm:a+L.length=m) (hb:m+R.length=b) (hL1:1≤L.length) (hR1:1≤R.length) (h1L:L.length≠1) (h1R:R.length≠1) (hL:L.Pairwise (LeC zbz)) (hR:R.Pairwise (LeC zbz)) (hl:(P++(L++(R++Z))).length≤1000000000) (ih:∀(P L R Z:List zin) (a m b:Nat),L.length+R.length < n→P.length=a→a+L.length=m→m+R.length=b→1≤L.length→1≤R.length→L.Pairwise (LeC zbz)→R.Pairwise (LeC zbz)→(P++(L++(R++Z))).length≤1000000000→
 x3 Tryz.prog 216 [.v s.v,iv (a:Int),iv (m:Int),iv (b:Int),cv] [.row s.v 3 178 ((P++(L++(R++Z))).map zbj)] (fun r h'=>h'= [.row s.v 3 178 ((P++(mrg zbz L R++Z)).map zbj)]∧r= .tup [])):x3 Tryz.prog 216 [.v s.v,iv (a:Int),iv (m:Int),iv (b:Int),cv] [.row s.v 3 178 ((P++(L++(R++Z))).map zbj)] (fun r h'=>h'= [.row s.v 3 178 ((P++(mrg zbz L R++Z)).map zbj)]∧r= .tup []):=by
 refine z6 Tryz.func216 rfl rfl rfl ?_
 simp only [List.length_append] at hl
 refine w6 ?_;refine w6 (y6 ?_)
 refine q1 ?_;refine q1 ?_;refine q1 ?_;refine qq rfl rfl (zco (c:=false) rfl rfl (congrArg some (beq_eq_false_iff_ne.2 (by omega)))) ?_
 refine rn ?_;refine y3 rfl (fun hc28=> ?_) (fun hc28=> ?_)
 ·first|cases hc28|exact absurd hc28 (by decide)|(exfalso;simp_all;done)
 ·refine zab ?_;refine k7 ?_;refine w6 ?_;refine w6 (y6 ?_)
  refine q1 ?_;refine q1 ?_;refine q1 ?_;refine qq rfl rfl (zco (c:=false) rfl rfl (congrArg some (beq_eq_false_iff_ne.2 (by omega)))) ?_
  refine rn ?_;refine y3 rfl (fun hc80=> ?_) (fun hc80=> ?_)
  ·first|cases hc80|exact absurd hc80 (by decide)|(exfalso;simp_all;done)
  ·refine zab ?_;refine k7 ?_;refine w6 (y6 ?_)
   refine q1 ?_;refine q1 ?_;refine qq rfl rfl (za4 (j6 rfl rfl rfl (by omega)) (show iv _=iv ((a+b:Nat):Int) from congrArg iv (by omega))) ?_
   refine qq rfl rfl (zbu (m:=((a+b:Nat):Int)) rfl (zis (by omega))) ?_
   refine qq rfl rfl (zg6 (c:=(((a+b) / 2:Nat):Int)) rfl rfl (zit (by omega)) (by decide)) ?_
   refine qq rfl rfl (zbu (m:=(((a+b) / 2:Nat):Int)) rfl (zi8 (by omega))) ?_
   refine q1 ?_;refine u5 (k7 ?_)
   refine w6 (y6 ?_)
   refine q1 ?_;refine q1 ?_;refine qq rfl rfl (za4 (j6 rfl rfl rfl (by omega)) (show iv _=iv ((((a+b) / 2)+m:Nat):Int) from congrArg iv (by omega))) ?_
   refine rn0 ?_;refine w6 (y6 ?_)
   refine rn0 ?_;refine zw7 (fun z:Nat×Nat=>SmS L R a m b ((a+b) / 2) z.1 z.2) (fun z=>⟨[(20,iv (z.1:Int)),(21,iv (z.2:Int)),(18,iv ((((a+b) / 2):Nat):Int)),(19,iv ((((a+b) / 2)+m:Nat):Int)),(0,.v s.v),(1,iv (a:Int)),(2,iv (m:Int)),(3,iv (b:Int)),(4,cv)],.row s.v 3 178 ((P++(L++(R++Z))).map zbj):: [],[]⟩) ?_ ?_
   ·refine rn ?_;refine y3 rfl (fun hc140=> ?_) (fun hc140=> ?_)
    ·have hS0:SmS L R a m b ((a+b) / 2) (((a+b) / 2)+m - b) ((a+b) / 2):=⟨hm,hb,rfl,.inl ⟨by have q:(m:Int) > ((((a+b) / 2):Nat):Int):=of_decide_eq_true hc140;omega,rfl,rfl⟩⟩
     refine w6 (y6 ?_)
     refine q1 ?_;refine q1 ?_;refine qq rfl rfl (za4 (j6 rfl rfl rfl (by omega)) (show iv _=iv ((((a+b) / 2)+m - b:Nat):Int) from congrArg iv (by have q:(m:Int) > ((((a+b) / 2):Nat):Int):=of_decide_eq_true hc140;omega))) ?_
     refine rn ?_;exact ⟨(_,_),hS0,eA⟩
    ·have hS0:SmS L R a m b ((a+b) / 2) a m:=⟨hm,hb,rfl,.inr ⟨by have q:¬(m:Int) > ((((a+b) / 2):Nat):Int):=of_decide_eq_false hc140;omega,rfl,rfl⟩⟩
     refine rn ?_;exact ⟨(_,_),hS0,eA⟩
   ·rintro ⟨s0,r0⟩ hS
    replace hS:SmS L R a m b ((a+b) / 2) s0 r0:=hS
    show aw _ _ _ _ _ ⟨[(20,iv (s0:Int)),(21,iv (r0:Int)),(18,iv ((((a+b) / 2):Nat):Int)),(19,iv ((((a+b) / 2)+m:Nat):Int)),(0,.v s.v),(1,iv (a:Int)),(2,iv (m:Int)),(3,iv (b:Int)),(4,cv)],.row s.v 3 178 ((P++(L++(R++Z))).map zbj):: [],[]⟩
    refine w6 (y6 ?_)
    refine q1 ?_;refine qq rfl rfl (za4 (j6 rfl rfl rfl (by omega)) (show iv _=iv ((((a+b) / 2)+m - 1:Nat):Int) from congrArg iv (by omega))) ?_
    refine rn ?_;refine zc7 (fun z:Nat×Nat=>SmI zbz L R a m b ((a+b) / 2) s0 r0 z.1 z.2) (fun z=>⟨[(20,iv (z.1:Int)),(21,iv (z.2:Int)),(22,iv (((((a+b) / 2)+m - 1):Nat):Int)),(18,iv ((((a+b) / 2):Nat):Int)),(19,iv ((((a+b) / 2)+m:Nat):Int)),(0,.v s.v),(1,iv (a:Int)),(2,iv (m:Int)),(3,iv (b:Int)),(4,cv)],.row s.v 3 178 ((P++(L++(R++Z))).map zbj):: [],[]⟩) (fun z=>z.2 - z.1) (s0,r0) (ylg hS) es ?_
    rintro ⟨st,rr⟩ hI
    replace hI:SmI zbz L R a m b ((a+b) / 2) s0 r0 st rr:=hI
    show aw _ _ _ _ _ ⟨[(20,iv (st:Int)),(21,iv (rr:Int)),(22,iv (((((a+b) / 2)+m - 1):Nat):Int)),(18,iv ((((a+b) / 2):Nat):Int)),(19,iv ((((a+b) / 2)+m:Nat):Int)),(0,.v s.v),(1,iv (a:Int)),(2,iv (m:Int)),(3,iv (b:Int)),(4,cv)],.row s.v 3 178 ((P++(L++(R++Z))).map zbj):: [],[]⟩
    refine rn ?_;refine y3 rfl (fun hc151=> ?_) (fun hc151=> ?_)
    ·have hsr:st < rr:=by have q:(st:Int) < (rr:Int):=of_decide_eq_true hc151;omega
     obtain ⟨b1,b2,b3,b4,b5,b6,b7,b8,b9,b10⟩:=yjb hS hI hsr
     have hu:=getD_some b6 zc8
     have hv:=getD_some b5 zc8
     rw [b7] at hu
     refine zab ?_;refine k7 ?_;refine zah ?_;refine w6 (y6 ?_)
     refine q1 ?_;refine q1 ?_;refine qq rfl rfl (za4 (j6 rfl rfl rfl (by omega)) (show iv _=iv ((st+rr:Nat):Int) from congrArg iv (by omega))) ?_
     refine qq rfl rfl (zbu (m:=((st+rr:Nat):Int)) rfl (zis (by omega))) ?_
     refine qq rfl rfl (zg6 (c:=(((st+rr) / 2:Nat):Int)) rfl rfl (zit (by omega)) (by decide)) ?_
     refine qq rfl rfl (zbu (m:=(((st+rr) / 2:Nat):Int)) rfl (zi8 (by omega))) ?_
     refine rn ?_;refine j4 11 rfl ?_
     refine dq rfl rfl qrA ?_;refine dq rfl rfl qrA ?_;refine dq rfl rfl qrA ?_;refine dq rfl rfl qrA ?_;refine dq rfl rfl (za4 (j6 rfl rfl rfl (by omega)) (show iv _=iv (((((a+b) / 2)+m - 1 - ((st+rr) / 2)):Nat):Int) from congrArg iv (by omega))) ?_
     refine dq rfl rfl (q8 (k:=(((a+b) / 2)+m - 1 - ((st+rr) / 2))) rfl rfl (by rw [List.length_map];exact (zdp (ye9 (L:=L) (R:=R) (Z:=Z) hP hm zc8 b3 (by omega))))) ?_
     refine dq rfl rfl (u3 (row:=zbj (R.getD ((((a+b) / 2)+m - 1 - ((st+rr) / 2)) - m) zc8)) rfl (zbm (ye9 (L:=L) (R:=R) (Z:=Z) hP hm zc8 b3 (by omega))) rfl) ?_
     refine dq rfl rfl qrA ?_;refine dq rfl rfl qrA ?_;refine dq rfl rfl (q8 (k:=((st+rr) / 2)) rfl rfl (by rw [List.length_map];exact (zdp (yfa (L:=L) (R:=R) (Z:=Z) hP zc8 b1 (by omega))))) ?_
     refine dq rfl rfl (u3 (row:=zbj (L.getD (((st+rr) / 2) - a) zc8)) rfl (zbm (yfa (L:=L) (R:=R) (Z:=Z) hP zc8 b1 (by omega))) rfl) ?_
     refine rn ?_;refine qv rfl rfl (y5 rfl rfl (z8.pure (R:=fun r=>r=iv (zbz (R.getD ((((a+b) / 2)+m - 1 - ((st+rr) / 2)) - m) zc8) (L.getD (((st+rr) / 2) - a) zc8))) (hc (R.getD ((((a+b) / 2)+m - 1 - ((st+rr) / 2)) - m) zc8) (L.getD (((st+rr) / 2) - a) zc8)))) ?_
     refine rn ?_;refine y3 rfl (fun hc171=> ?_) (fun hc171=> ?_)
     ·have hn:¬zbz (R.getD ((((a+b) / 2)+m - 1 - ((st+rr) / 2)) - m) zc8) (L.getD (((st+rr) / 2) - a) zc8) < 0:=of_decide_eq_false (by simpa using hc171)
      rw [b7] at hn
      refine y6 ?_;refine q1 ?_;refine qq rfl rfl (za4 (j6 rfl rfl rfl (by omega)) (show iv _=iv ((((st+rr) / 2)+1:Nat):Int) from congrArg iv (by omega))) ?_
      refine rn ?_;exact ⟨(((st+rr) / 2)+1,rr),yle hS hI hsr rfl hu hv hn,eA,by simp only;omega⟩
     ·have hn:zbz (R.getD ((((a+b) / 2)+m - 1 - ((st+rr) / 2)) - m) zc8) (L.getD (((st+rr) / 2) - a) zc8) < 0:=of_decide_eq_true (by simpa using hc171)
      rw [b7] at hn
      refine rn ?_;exact ⟨(st,((st+rr) / 2)),ylf hS hI hsr rfl hu hv hn,eA,by simp only;omega⟩
    ·have hsr:st=rr:=by
      have q:¬(st:Int) < (rr:Int):=of_decide_eq_false hc151
      have:=hI.2.1
      omega
     subst hsr
     obtain ⟨x,y,hs,hmid,hx,hy,hmg⟩:=yfr zkf hL hR hS hI
     subst hs
     rw [hmid]
     refine zgu ?_;refine zgj ?_;refine zgj ?_;refine zdf ?_;refine k7 ?_;refine w6 (y6 ?_)
     refine q1 ?_;refine q1 ?_;refine qq rfl rfl (za4 (j6 rfl rfl rfl (by omega)) (show iv _=iv ((m+y:Nat):Int) from congrArg iv (by omega))) ?_
     refine rn0 ?_;refine ze7 (⟨[(20,iv (((a+x):Nat):Int)),(18,iv (((a+x+y):Nat):Int)),(24,iv (((m+y):Nat):Int)),(0,.v s.v),(1,iv (a:Int)),(2,iv (m:Int)),(3,iv (b:Int)),(4,cv)],.row s.v 3 178 ((P++((L.take x)++((R.take y)++((L.drop x)++((R.drop y)++Z))))).map zbj):: [],[]⟩) ?_ ?_
     ·refine ze7 (⟨[(185,bv (decide (((((a+x):Nat):Int)) < ((((m):Nat):Int))) && decide (((((m):Nat):Int)) < ((((m+y):Nat):Int))))),(20,iv (((a+x):Nat):Int)),(18,iv (((a+x+y):Nat):Int)),(24,iv (((m+y):Nat):Int)),(0,.v s.v),(1,iv (a:Int)),(2,iv (m:Int)),(3,iv (b:Int)),(4,cv)],.row s.v 3 178 ((P++(L++(R++Z))).map zbj):: [],[]⟩) ?_ ?_
      ·refine rn ?_;refine q9 (fun hg39_3=> ?_) (fun hg39_3=> ?_)
       ·refine rn ?_;first|(rw [hg39_3,Bool.true_and];exact eA)|(rw [hg39_3,Bool.false_and];exact eA)
       ·refine rn ?_;first|(rw [hg39_3,Bool.true_and];exact eA)|(rw [hg39_3,Bool.false_and];exact eA)
      ·refine y3 rfl (fun hc185=> ?_) (fun hc185=> ?_)
       ·have hg:=hc185
        rw [Bool.and_eq_true,decide_eq_true_iff,decide_eq_true_iff] at hg
        refine rn ?_;refine z7 rfl (w7 rfl rfl (z8.of_fun (ycm s _ _ (a+x) m (m+y) cv (by rw [show m - (a+x)=L.length - x by omega,show m+y - m=y by omega];exact yfq hP hm hx hy) (by omega) (by omega) (by simp only [List.length_append];omega) (by simp only [List.length_append];omega))) rfl ?_)
        rintro _ _ ⟨rfl,rfl⟩
        refine rn ?_;exact eA
       ·have hg:=hc185
        rw [Bool.and_eq_false_iff,decide_eq_false_iff_not,decide_eq_false_iff_not] at hg
        have hxy:x=L.length∨y=0:=by omega
        rw [yca (P:=P) (Z:=Z) hxy]
        refine rn ?_;exact eA
     ·refine ze7 (⟨[(20,iv (((a+x):Nat):Int)),(18,iv (((a+x+y):Nat):Int)),(24,iv (((m+y):Nat):Int)),(0,.v s.v),(1,iv (a:Int)),(2,iv (m:Int)),(3,iv (b:Int)),(4,cv)],.row s.v 3 178 ((P++(mrg zbz (L.take x) (R.take y)++((L.drop x)++((R.drop y)++Z)))).map zbj):: [],[]⟩) ?_ ?_
      ·refine ze7 (⟨[(199,bv (decide (((((a):Nat):Int)) < ((((a+x):Nat):Int))) && decide (((((a+x):Nat):Int)) < ((((a+x+y):Nat):Int))))),(20,iv (((a+x):Nat):Int)),(18,iv (((a+x+y):Nat):Int)),(24,iv (((m+y):Nat):Int)),(0,.v s.v),(1,iv (a:Int)),(2,iv (m:Int)),(3,iv (b:Int)),(4,cv)],.row s.v 3 178 ((P++((L.take x)++((R.take y)++((L.drop x)++((R.drop y)++Z))))).map zbj):: [],[]⟩) ?_ ?_
       ·refine rn ?_;refine q9 (fun hg41_3=> ?_) (fun hg41_3=> ?_)
        ·refine rn ?_;first|(rw [hg41_3,Bool.true_and];exact eA)|(rw [hg41_3,Bool.false_and];exact eA)
        ·refine rn ?_;first|(rw [hg41_3,Bool.true_and];exact eA)|(rw [hg41_3,Bool.false_and];exact eA)
       ·refine y3 rfl (fun hc199=> ?_) (fun hc199=> ?_)
        ·have hg:=hc199
         rw [Bool.and_eq_true,decide_eq_true_iff,decide_eq_true_iff] at hg
         refine rn ?_;refine z7 rfl (w7 rfl rfl (z8.of_fun (ih P (L.take x) (R.take y) ((L.drop x)++((R.drop y)++Z)) a (a+x) (a+x+y) (by simp only [List.length_take];omega) hP (by simp only [List.length_take];omega) (by simp only [List.length_take];omega) (by simp only [List.length_take];omega) (by simp only [List.length_take];omega) (zq7 hL x) (zq7 hR y) (by simp only [List.length_append,List.length_take,List.length_drop];omega))) rfl ?_)
         rintro _ _ ⟨rfl,rfl⟩
         refine rn ?_;exact eA
        ·have hg:=hc199
         rw [Bool.and_eq_false_iff,decide_eq_false_iff_not,decide_eq_false_iff_not] at hg
         have hxy:(L.take x)= []∨(R.take y)= []:=by
          by_cases h0:1≤x
          ·exact .inr (zq8 (by omega))
          ·exact .inl (zq8 h0)
         rw [zt7 (cmp:=zbz) (P:=P) hxy]
         refine rn ?_;exact eA
      ·refine ze7 (⟨[(213,bv (decide (((((a+x+y):Nat):Int)) < ((((m+y):Nat):Int))) && decide (((((m+y):Nat):Int)) < ((((b):Nat):Int))))),(20,iv (((a+x):Nat):Int)),(18,iv (((a+x+y):Nat):Int)),(24,iv (((m+y):Nat):Int)),(0,.v s.v),(1,iv (a:Int)),(2,iv (m:Int)),(3,iv (b:Int)),(4,cv)],.row s.v 3 178 ((P++(mrg zbz (L.take x) (R.take y)++((L.drop x)++((R.drop y)++Z)))).map zbj):: [],[]⟩) ?_ ?_
       ·refine rn ?_;refine q9 (fun hg43_3=> ?_) (fun hg43_3=> ?_)
        ·refine rn ?_;first|(rw [hg43_3,Bool.true_and];exact eA)|(rw [hg43_3,Bool.false_and];exact eA)
        ·refine rn ?_;first|(rw [hg43_3,Bool.true_and];exact eA)|(rw [hg43_3,Bool.false_and];exact eA)
       ·refine y3 rfl (fun hc213=> ?_) (fun hc213=> ?_)
        ·have hg:=hc213
         rw [Bool.and_eq_true,decide_eq_true_iff,decide_eq_true_iff] at hg
         rw [←List.append_assoc P (mrg zbz (L.take x) (R.take y)) ((L.drop x)++((R.drop y)++Z))]
         refine rn ?_;refine z7 rfl (w7 rfl rfl (z8.of_fun (ih (P++mrg zbz (L.take x) (R.take y)) (L.drop x) (R.drop y) Z (a+x+y) (m+y) b (by simp only [List.length_drop];omega) (by simp only [List.length_append,zd6,List.length_take];omega) (by simp only [List.length_drop];omega) (by simp only [List.length_drop];omega) (by simp only [List.length_drop];omega) (by simp only [List.length_drop];omega) (zsd hL x) (zsd hR y) (by simp only [List.length_append,zd6,List.length_take,List.length_drop];omega))) rfl ?_)
         rintro _ _ ⟨rfl,rfl⟩
         refine rn ?_;refine yas ?_;exact ⟨by simp only [hmg,List.append_assoc],rfl⟩
        ·have hg:=hc213
         rw [Bool.and_eq_false_iff,decide_eq_false_iff_not,decide_eq_false_iff_not] at hg
         have hxy:(L.drop x)= []∨(R.drop y)= []:=by
          by_cases h0:x < L.length
          ·exact .inr (zol (by omega))
          ·exact .inl (zol h0)
         rw [←List.append_assoc P (mrg zbz (L.take x) (R.take y)) ((L.drop x)++((R.drop y)++Z)),zt7 (cmp:=zbz) (P:=P++mrg zbz (L.take x) (R.take y)) hxy]
         refine rn ?_;refine yas ?_;exact ⟨by simp only [hmg,List.append_assoc],rfl⟩
theorem yi7 (s:SV) (cv:AV) (hc:ybm cv):∀(n:Nat) (P L R Z:List zin) (a m b:Nat),L.length+R.length < n→P.length=a→a+L.length=m→m+R.length=b→1≤L.length→1≤R.length→L.Pairwise (LeC zbz)→R.Pairwise (LeC zbz)→(P++(L++(R++Z))).length≤1000000000→
 x3 Tryz.prog 216 [.v s.v,iv (a:Int),iv (m:Int),iv (b:Int),cv] [.row s.v 3 178 ((P++(L++(R++Z))).map zbj)] (fun r h'=>h'= [.row s.v 3 178 ((P++(mrg zbz L R++Z)).map zbj)]∧r= .tup [])
 |0,_,_,_,_,_,_,_,h,_,_,_,_,_,_,_,_=>absurd h (by omega)
 |n+1,P,L,R,Z,a,m,b,h,hP,hm,hb,hL1,hR1,hL,hR,hl=>by
  by_cases e1:L.length=1
  ·obtain ⟨x,rfl⟩:=List.length_eq_one_iff.1 e1
   exact yld s P R Z x a m b cv hc hP hm hb hR hl
  ·by_cases e2:R.length=1
   ·obtain ⟨y,rfl⟩:=List.length_eq_one_iff.1 e2
    exact ylc s P L Z y a m b cv hc hP hm hb e1 hL hl
   ·exact ylb s (L.length+R.length) P L R Z a m b cv hc rfl hP hm hb hL1 hR1 e1 e2 hL hR hl fun P' L' R' Z' a' m' b' q=>yi7 s cv hc n P' L' R' Z' a' m' b' (by omega)
set_option maxHeartbeats 4000000 in
theorem yb0 (s:SV) (l:List zin) (cv:AV) (hc:ybm cv) (hl:l.length≤1000000000):x3 Tryz.prog 197 [.v s.v,iv (l.length:Int),cv] [.row s.v 3 178 ((l).map zbj)] (fun r h'=>∃c,zng zxs l c∧h'= [.row s.v 3 178 ((c).map zbj)]∧r= .tup []):=by
 refine z6 Tryz.func197 rfl rfl rfl ?_
 refine rn ?_;refine zc7 (fun z:Nat×List zin=>St1 zxs 20 l z.2 z.1∧z.2.length=l.length) (fun z=>⟨[(6,iv 20),(7,iv (z.1:Int)),(8,iv ((z.1+20:Nat):Int)),(0,.v s.v),(1,iv (l.length:Int)),(2,cv)],.row s.v 3 178 ((z.2).map zbj):: [],[]⟩) (fun z=>l.length - z.1) (0,l) ⟨yja 20 l,rfl⟩ es ?_
 rintro ⟨q,c⟩ ⟨hs,hcl⟩
 simp only at hs hcl
 show aw _ _ _ _ _ ⟨[(6,iv 20),(7,iv (q:Int)),(8,iv ((q+20:Nat):Int)),(0,.v s.v),(1,iv (l.length:Int)),(2,cv)],.row s.v 3 178 ((c).map zbj):: [],[]⟩
 refine rn ?_;refine y3 rfl (fun hc13=> ?_) (fun hc13=> ?_)
 ·have hb:q+20≤c.length:=by have q0:((q+20:Nat):Int)≤(l.length:Int):=of_decide_eq_true hc13;omega
  obtain ⟨P,M,Z,rfl,hP,hM,hs'⟩:=zx9 hs hb
  have hcl2:=hcl
  simp only [List.length_append] at hcl2
  refine rn ?_;refine z7 rfl (w7 rfl rfl (z8.of_fun (zv3 s P M Z q (q+20) cv hc hP (by omega) (by omega))) rfl ?_)
  rintro _ _ ⟨rfl,rfl⟩
  refine u5 (k7 ?_)
  refine w6 (y6 ?_)
  refine q1 ?_;refine q1 ?_;refine u5 (k7 ?_)
  refine y6 ?_;refine q1 ?_;refine q1 ?_;refine qq rfl rfl (za4 (j6 rfl rfl rfl (by omega)) (show iv _=iv ((q+20+20:Nat):Int) from congrArg iv (by omega))) ?_
  refine rn ?_;exact ⟨(q+20,P++(isL zbz M++Z)),⟨hs',by simp only [List.length_append,zgo];omega⟩,eA,by simp only;omega⟩
 ·have hb:c.length < q+20:=by have q0:¬((q+20:Nat):Int)≤(l.length:Int):=of_decide_eq_false hc13;omega
  obtain ⟨P,M,rfl,hP,hs2⟩:=yb4 hs hb
  have hcl2:=hcl
  simp only [List.length_append] at hcl2
  rw [show P++M=P++(M++ []) by rw [List.append_nil]]
  refine rn ?_;refine z7 rfl (w7 rfl rfl (z8.of_fun (zv3 s P M [] q l.length cv hc hP (by omega) (by simp only [List.length_append,List.length_nil];omega))) rfl ?_)
  rintro _ _ ⟨rfl,rfl⟩
  refine rn ?_;refine zc7 (fun z:Nat×List zin=>1≤z.1∧St2 zxs z.1 l z.2∧z.2.length=l.length) (fun z=>⟨[(6,iv (z.1:Int)),(0,.v s.v),(1,iv (l.length:Int)),(2,cv)],.row s.v 3 178 ((z.2).map zbj):: [],[]⟩) (fun z=>l.length - z.1) (20,P++isL zbz M) ⟨by show 1≤20;decide,hs2,by simp only [List.length_append,zgo];omega⟩ (by rw [List.append_nil];exact es) ?_
  rintro ⟨bs,c⟩ ⟨h0,hs0,hcl⟩
  simp only at h0 hs0 hcl
  clear hs hb hs2 hcl2
  show aw _ _ _ _ _ ⟨[(6,iv (bs:Int)),(0,.v s.v),(1,iv (l.length:Int)),(2,cv)],.row s.v 3 178 ((c).map zbj):: [],[]⟩
  refine rn ?_;refine y3 rfl (fun hc30=> ?_) (fun hc30=> ?_)
  ·have hbs:bs < l.length:=by have q0:(bs:Int) < (l.length:Int):=of_decide_eq_true hc30;omega
   refine zab ?_;refine k7 ?_;refine zah ?_;refine w6 (y6 ?_)
   refine q1 ?_;refine qq rfl rfl (za4 (j6 rfl rfl rfl (by omega)) (show iv _=iv ((2 * bs:Nat):Int) from congrArg iv (by omega))) ?_
   refine rn ?_;refine zc7 (fun z:Nat×List zin=>St3 zxs bs l z.2 z.1∧z.2.length=l.length) (fun z=>⟨[(7,iv (z.1:Int)),(8,iv ((z.1+2 * bs:Nat):Int)),(6,iv (bs:Int)),(0,.v s.v),(1,iv (l.length:Int)),(2,cv)],.row s.v 3 178 ((z.2).map zbj):: [],[]⟩) (fun z=>l.length - z.1) (0,c) ⟨yi9 hs0,hcl⟩ (by simp only [Nat.zero_add];exact es) ?_
   rintro ⟨q,d⟩ ⟨hs,hdl⟩
   simp only at hs hdl
   have hqd:=yb1 hs
   show aw _ _ _ _ _ ⟨[(7,iv (q:Int)),(8,iv ((q+2 * bs:Nat):Int)),(6,iv (bs:Int)),(0,.v s.v),(1,iv (l.length:Int)),(2,cv)],.row s.v 3 178 ((d).map zbj):: [],[]⟩
   refine rn ?_;refine y3 rfl (fun hc35=> ?_) (fun hc35=> ?_)
   ·have hb:q+2 * bs≤d.length:=by have q0:((q+2 * bs:Nat):Int)≤(l.length:Int):=of_decide_eq_true hc35;omega
    obtain ⟨P,L,R,Z,rfl,hP,hL,hR,sL,sR,hs'⟩:=zx8 h0 hs hb
    have hdl2:=hdl
    simp only [List.length_append] at hdl2
    refine zab ?_;refine k7 ?_;refine zah ?_;refine w6 (y6 ?_)
    refine q1 ?_;refine q1 ?_;refine q1 ?_;refine q1 ?_;refine qq rfl rfl (za4 (j6 rfl rfl rfl (by omega)) (show iv _=iv ((q+bs:Nat):Int) from congrArg iv (by omega))) ?_
    refine rn ?_;refine z7 rfl (w7 rfl rfl (z8.of_fun (yi7 s cv hc (L.length+R.length+1) P L R Z q (q+bs) (q+2 * bs) (by omega) hP (by omega) (by omega) (by omega) (by omega) sL sR (by omega))) rfl ?_)
    rintro _ _ ⟨rfl,rfl⟩
    refine u5 (k7 ?_)
    refine w6 (y6 ?_)
    refine q1 ?_;refine q1 ?_;refine u5 (k7 ?_)
    refine y6 ?_;refine q1 ?_;refine q1 ?_;refine q1 ?_;refine qq rfl rfl (za4 (j6 rfl rfl rfl (by omega)) (show iv _=iv ((q+2 * bs+2 * bs:Nat):Int) from congrArg iv (by omega))) ?_
    refine rn ?_;exact ⟨(q+2 * bs,P++(mrg zbz L R++Z)),⟨hs',by simp only [List.length_append,zd6];omega⟩,eA,by simp only;omega⟩
   ·have hb:d.length < q+2 * bs:=by have q0:¬((q+2 * bs:Nat):Int)≤(l.length:Int):=of_decide_eq_false hc35;omega
    have hen:=yb2 hs hb
    refine zgu ?_;refine zgj ?_;refine zgj ?_;refine zdf ?_;refine k7 ?_;refine w6 ?_;refine w6 (y6 ?_)
    refine q1 ?_;refine q1 ?_;refine qq rfl rfl (za4 (j6 rfl rfl rfl (by omega)) (show iv _=iv ((q+bs:Nat):Int) from congrArg iv (by omega))) ?_
    refine rn ?_;refine y3 rfl (fun hc54=> ?_) (fun hc54=> ?_)
    ·have hmn:q+bs < d.length:=by have q0:((q+bs:Nat):Int) < (l.length:Int):=of_decide_eq_true hc54;omega
     obtain ⟨_,P,L,R,rfl,hP,hL,sL,sR,hs2⟩:=hen.resolve_left (fun h=>by omega)
     have hdl2:=hdl
     simp only [List.length_append] at hdl2 hmn
     rw [show P++(L++R)=P++(L++(R++ [])) by rw [List.append_nil]]
     refine rn ?_;refine z7 rfl (w7 rfl rfl (z8.of_fun (yi7 s cv hc (L.length+R.length+1) P L R [] q (q+bs) l.length (by omega) hP (by omega) (by omega) (by omega) (by omega) sL sR (by simp only [List.length_append,List.length_nil];omega))) rfl ?_)
     rintro _ _ ⟨rfl,rfl⟩
     refine u5 (k7 ?_)
     refine y6 ?_;refine q1 ?_;refine qq rfl rfl (za4 (j6 rfl rfl rfl (by omega)) (show iv _=iv ((2 * bs:Nat):Int) from congrArg iv (by omega))) ?_
     refine rn ?_;exact ⟨(2 * bs,P++mrg zbz L R),⟨by simp only;omega,hs2,by simp only [List.length_append,zd6];omega⟩,by rw [List.append_nil];exact eA,by simp only;omega⟩
    ·have hmn:d.length≤q+bs:=by have q0:¬((q+bs:Nat):Int) < (l.length:Int):=of_decide_eq_false hc54;omega
     obtain ⟨_,hs2⟩:=hen.resolve_right (fun h=>by have:=h.1;omega)
     refine zab ?_;refine k7 ?_;refine y6 ?_;refine q1 ?_;refine qq rfl rfl (za4 (j6 rfl rfl rfl (by omega)) (show iv _=iv ((2 * bs:Nat):Int) from congrArg iv (by omega))) ?_
     refine rn ?_;exact ⟨(2 * bs,d),⟨by simp only;omega,hs2,hdl⟩,eA,by simp only;omega⟩
  ·have hbs:c.length≤bs:=by have q0:¬(bs:Int) < (l.length:Int):=of_decide_eq_false hc30;omega
   refine rn ?_;refine yas ?_;exact ⟨c,yb3 h0 hs0 hbs,rfl,rfl⟩
theorem zpi (s:SV) (l:List zin) (cv:AV) (hc:ybm cv) (hl:l.length≤1000000000):x3 Tryz.prog 157 [.v s.v,cv] [.row s.v 3 178 ((l).map zbj)] (fun r h'=>∃c,zng zxs l c∧h'= [.row s.v 3 178 ((c).map zbj)]∧r= .tup []):=by
 refine z6 Tryz.func157 rfl rfl rfl ?_
 refine y6 ?_;refine q1 ?_;refine q1 ?_;refine qq rfl rfl (za4 (zle rfl) (show iv _=iv (l.length:Int) from by rw [List.length_map])) ?_
 refine rn ?_;refine z7 rfl (w7 rfl rfl (z8.of_fun (yb0 s l cv hc hl)) rfl ?_)
 rintro _ _ ⟨c,hst,rfl,rfl⟩
 refine rn ?_;refine yas ?_;exact ⟨c,hst,rfl,rfl⟩
theorem yjx (x y:zin):x3 Tryz.prog 156 [.agg (zbj x),.agg (zbj y)] [] (fun r h'=>h'= []∧r=iv (zbz x y)):=by
 refine z6 Tryz.func156 rfl rfl rfl ?_
 have hx:=x.2
 have hy:=y.2
 refine rn ?_;refine z7 rfl (x8 rfl rfl rfl fun b2=> ?_)
 refine z7 rfl (x8 rfl rfl rfl fun b3=> ?_)
 refine q1 ?_;refine u5 (k7 ?_)
 refine w6 (y6 ?_)
 refine q1 ?_;refine q1 ?_;refine q1 ?_;refine q1 ?_;refine qq rfl rfl (j6 rfl rfl rfl (by omega)) ?_
 refine rn ?_;refine rq 2 ?_
 exact ⟨rfl,rfl⟩
theorem ygw:ybm (.fn (.func 156) [] []):=fun x y=>z8.of_fun (yjx x y)
theorem yfo (s:SV) (n:Nat) (l:List Acc) (hk:∀a∈l,0≤a.o∧a.o < n) (hn:n≤1000000) (hl:l.length≤1000000000):x3 Tryz.prog 157 [.v s.v,.fn (.func 156) [] []] [.row s.v 3 178 (l.map accR)] (fun r h'=>h'= [.row s.v 3 178 ((zk6 n l).map accR)]∧r= .tup []):=by
 obtain ⟨lB,e⟩:=zxk hn hk
 have hlen:lB.length=l.length:=by rw [←e,List.length_map]
 have h1:=zpi s lB _ ygw (by omega)
 have e1:lB.map zbj=l.map accR:=by rw [←e,List.map_map];rfl
 rw [e1] at h1
 refine h1.mono ?_;rintro _ _ ⟨c,hst,rfl,rfl⟩
 exact ⟨by rw [←zx7 e hst hk,List.map_map];rfl,rfl⟩
theorem zvz (h:Hist) (la:Lim 4611686018427387904 h):x3 Tryz.prog 23 [.agg (x5 h)] [.glob 3 148 y8,.glob 5 276 y9,.glob 6 279 y4,.glob 2 197 u0] (fun r h'=>h'= [.glob 3 148 y8,.glob 5 276 y9,.glob 6 279 y4,.glob 2 197 u0]∧r=iv (k8 h)):=by
 refine z6 Tryz.func23 rfl rfl rfl ?_
 refine rn ?_;refine z7 rfl (x8 rfl rfl rfl fun b1=> ?_)
 refine rn ?_;refine qv rfl rfl (y5 rfl rfl (z8.qt (z8.of_fun (yh5 h la)) ((pt1 _ _ _).trans (.cons _ ((pt1 _ _ _).trans (.cons _ (pt1 _ _ _))))))) ?_
 refine rn ?_;refine y3 rfl (fun hc7=> ?_) (fun hc7=> ?_)
 ·have hm:¬ze8 h=true:=by intro q;rw [zcw,if_pos q] at hc7;cases hc7
  have he:zcw h=210:=by rw [zcw,if_neg hm]
  refine rn ?_;refine rq 1 ?_
  exact ⟨rfl,by rw [k8,if_neg hm,he];rfl⟩
 ·have hm:ze8 h=true:=zwu.1 (by simpa using hc7)
  refine rn ?_;refine qv rfl rfl (y5 rfl rfl (z8.qt (z8.of_fun (yf9 h la)) ((pt1 _ _ _).trans (.cons _ ((pt1 _ _ _).trans (.cons _ ((pt1 _ _ _).trans (.cons _ (pt1 _ _ _))))))))) ?_
  refine rn ?_;refine y3 rfl (fun hc11=> ?_) (fun hc11=> ?_)
  ·refine rn ?_;refine rq 1 ?_
   exact ⟨rfl,by rw [k8,if_pos hm];simp_all;rfl⟩
  ·refine rn ?_;refine rq 1 ?_
   exact ⟨rfl,by rw [k8,if_pos hm];simp_all;rfl⟩
theorem zmq (h:Hist) (kd:Int) (W:List Res):x3 Tryz.prog 120 [.agg (x5 h),iv kd] W (fun r h'=>∃b1 b2,h'= .box b1 28 (x5 h):: .box b2 3 [iv kd]::W∧r= .fn (.func 158) [] [pZ b1,pZ b2]):=by
 refine z6 Tryz.func120 rfl rfl rfl ?_
 refine rn ?_;refine z7 rfl (x8 rfl rfl rfl fun b2=> ?_)
 refine z7 rfl (x8 rfl rfl rfl fun b3=> ?_)
 refine rn ?_;exact zad rfl (.perm (pt1 _ _ _) _) ⟨_,_,rfl,rfl⟩
set_option maxHeartbeats 4000000 in
theorem zjz {σ:Type} (h:Hist) (la:h.evs.length≤1000000) (kd:Int) (y:AV) (b1 b2:Nat) (p q:Nat→σ→Prop) (I F:Nat→σ→List Res) (x0:σ) (hp0:p 0 x0) (hy:∀k x,(hk:k < h.evs.length)→p k x→(h.evs[k].kind==kd)=true→z8 Tryz.prog y [iv k,.agg (evR h.evs[k])] (.box b1 28 (x5 h):: .box b2 3 [iv kd]::I k x) (fun r h'=>∃x',(r=bv true∧p (k+1) x'∧h'= .box b1 28 (x5 h):: .box b2 3 [iv kd]::I (k+1) x')∨(r=bv false∧q k x'∧h'= .box b1 28 (x5 h):: .box b2 3 [iv kd]::F k x'))) (hs:∀k x,(hk:k < h.evs.length)→p k x→(h.evs[k].kind==kd)=false→∃x',p (k+1) x'∧I (k+1) x'=I k x):x3 Tryz.prog 158 [y,pZ b1,pZ b2] (.box b1 28 (x5 h):: .box b2 3 [iv kd]::I 0 x0) (fun r h'=>(∃x,p h.evs.length x∧h'=I h.evs.length x)∨∃k x,q k x∧h'=F k x):=by
 refine z6 Tryz.func158 rfl rfl rfl ?_
 refine rn ?_;refine zgs h.evs.length p (fun k x=>⟨[(9,iv k),(0,y),(2,pZ b2),(7,zwh h.evs),(8,iv (h.evs.map evR).length)],.box b1 28 (x5 h):: .box b2 3 [iv kd]::I k x,[]⟩) x0 hp0 es ?_
 intro k x lk zk
 refine rn ?_;refine y3 rfl (fun hc10=> ?_) (fun hc10=> ?_)
 ·have hk:=zd7 hc10
  have rk:=zcy (f:=evR) hk
  refine rn ?_;refine z7 rfl (x4 rfl fun b5=> ?_)
  refine rn ?_;refine q9 (fun hg3_4=> ?_) (fun hg3_4=> ?_)
  ·refine q1 ?_;refine q1 ?_;refine q1 ?_;refine z7 rfl (w7 rfl rfl (z8.fr1 (hy k x hk zk (by simpa using hg3_4))) rfl ?_)
   rintro _ _ ⟨_,rfl,x',⟨rfl,hp,rfl⟩|⟨rfl,hq,rfl⟩⟩
   ·refine rn ?_;refine y3 rfl (fun hc24=> ?_) (fun hc24=> ?_)
    ·first|cases hc24|exact absurd hc24 (by decide)|(exfalso;simp_all;done)
    ·refine rn ?_;exact ⟨hk,x',hp,eA⟩
   ·refine rn ?_;refine y3 rfl (fun hc24=> ?_) (fun hc24=> ?_)
    ·refine rn ?_;exact zeh .nil (.drop [_,_,_] _ _) (.inr ⟨k,x',hq,rfl⟩)
    ·first|cases hc24|exact absurd hc24 (by decide)|(exfalso;simp_all;done)
  ·refine rn ?_;refine zqy rfl ?_;refine rn ?_;obtain ⟨x',hp,e⟩:=hs k x hk zk (by simpa using hg3_4)
   exact ⟨hk,x',hp,by rw [e];exact eA⟩
 ·have qk:=zd9 hc10 lk
  subst qk
  refine rn ?_;exact zdz .nil (.drop [_,_] _ _) (.inl ⟨x,zk,rfl⟩)
def zid {α:Type} (kd:Int) (x:Nat→Ev→α) (p:Nat→Ev→Bool) (k:Nat) (e:Ev):Option α:=if (e.kind==kd && p k e)=true then some (x k e) else none
theorem ya8 {α:Type} {kd:Int} {x:Nat→Ev→α} {p:Nat→Ev→Bool} {k:Nat} {e:Ev} (h:(e.kind==kd)=false):zid kd x p k e=none:=by rw [zid,h];simp
theorem ya7 {α:Type} {kd:Int} {x:Nat→Ev→α} {p:Nat→Ev→Bool} {k:Nat} {e:Ev} (h:p k e=false):zid kd x p k e=none:=by rw [zid,h];simp
theorem ya6 {α:Type} {kd:Int} {x:Nat→Ev→α} {p:Nat→Ev→Bool} {k:Nat} {e:Ev} (h1:(e.kind==kd)=true) (h:p k e=true):zid kd x p k e=some (x k e):=by rw [zid,h1,h];simp
theorem zr5 {α:Type} {f:Nat→Ev→Option α} {l:List Ev} {k:Nat} (h:k < l.length) (hf:f k l[k]=none):zea f l (k+1)=zea f l k:=by rw [zr4 h,hf];simp
theorem ya5 {α:Type} {f:Nat→Ev→Option α} {l:List Ev} {k:Nat} {a:α} (h:k < l.length) (hf:f k l[k]=some a):zea f l (k+1)=zea f l k++ [a]:=by rw [zr4 h,hf];rfl
def zie (f:Ver×Nat):List AV:= [iv f.1.t,iv f.1.k,iv f.2]
theorem ydc (l:List (Ver×Nat)):∀r∈l.map zie,r.all AV.one=true:=by
 intro r hr;obtain ⟨a,_,rfl⟩:=List.mem_map.1 hr;rfl
set_option maxHeartbeats 4000000 in
theorem ya2 (h:Hist) (la:h.evs.length≤1000000) (kd:Int) (fv:AV) (hone:fv.cellsOf=some [fv]) (W:List Res) (x:Nat→Ev→Int) (p:Nat→Ev→Bool) (hp:∀k,(hk:k < h.evs.length)→(h.evs[k].kind==kd)=true→z8 Tryz.prog fv [iv k,.agg (evR h.evs[k])] W (fun r h'=>h'=W∧r= .tup [iv (x k h.evs[k]),bv (p k h.evs[k])])):x3 Tryz.prog 73 [.agg (x5 h),iv kd,fv] W (fun r h'=>∃s:SV,h'= .row s.v 1 3 ((zea (zid kd x p) h.evs h.evs.length).map zde)::W∧r= .v s.v):=by
 refine z6 Tryz.func73 rfl rfl rfl ?_
 refine rn ?_;refine z7 rfl (x8 rfl rfl rfl fun b3=> ?_)
 refine z7 rfl (x8 rfl hone rfl fun b5=> ?_)
 refine rn ?_;refine z7 rfl (x4 rfl fun b7=> ?_)
 refine rn ?_;refine z7 rfl (w7 rfl rfl (z8.of_fun (zmq h kd _)) rfl ?_)
 rintro _ _ ⟨b1,b2,rfl,rfl⟩
 refine rn ?_;refine zfv (s':=⟨[(14,.fn (.func 158) [] [pZ b1,pZ b2]),(5,pZ b5),(7,pZ b7)],.box b1 28 (x5 h):: .box b2 3 [iv kd]:: .box b7 54 [.v (⟨none,0,0⟩:SV).v]:: .row (⟨none,0,0⟩:SV).v 1 3 ((zea (zid kd x p) h.evs 0).map zde):: .box b5 129 [fv]:: .box b3 28 (x5 h)::W,[]⟩) (v8 (v8 (zci 1 3) (zae ((pt1 _ _ _).trans (.cons _ ((pt1 _ _ _).trans (.cons _ (pt1 _ _ _))))))) es) ?_
 refine zkm (fun pend h''=>pend=none∧∃s:SV,h''= .box b7 54 [.v s.v]:: .row s.v 1 3 ((zea (zid kd x p) h.evs h.evs.length).map zde):: .box b5 129 [fv]:: .box b3 28 (x5 h)::W) rfl (fun fn l q lp hlp=> ?_) (fun q h'' hK=> ?_) (fun q h'' c hK=> ?_)
 ·suffices hy:∀k (s:SV),(hk:k < h.evs.length)→True→(h.evs[k].kind==kd)=true→z8 Tryz.prog (yv l) [iv k,.agg (evR h.evs[k])] (.box b1 28 (x5 h):: .box b2 3 [iv kd]::lp .ready none:: .defs q:: .box b7 54 [.v s.v]:: .row s.v 1 3 ((zea (zid kd x p) h.evs k).map zde):: .box b5 129 [fv]:: .box b3 28 (x5 h)::W) (fun r h'=>∃s':SV,(r=bv true∧True∧h'= .box b1 28 (x5 h):: .box b2 3 [iv kd]::lp .ready none:: .defs q:: .box b7 54 [.v s'.v]:: .row s'.v 1 3 ((zea (zid kd x p) h.evs (k+1)).map zde):: .box b5 129 [fv]:: .box b3 28 (x5 h)::W)∨(r=bv false∧False∧h'= .box b1 28 (x5 h):: .box b2 3 [iv kd]:: [])) by
   refine x3.mono (x3.perm ((pt2 _ _ _ _).trans (.cons _ (pt2 _ _ _ _))) (zjz h la kd (yv l) b1 b2 (fun _ _=>True) (fun _ _=>False) (fun k (s:SV)=>lp .ready none:: .defs q:: .box b7 54 [.v s.v]:: .row s.v 1 3 ((zea (zid kd x p) h.evs k).map zde):: .box b5 129 [fv]:: .box b3 28 (x5 h)::W) (fun _ _=> []) ⟨none,0,0⟩ trivial hy (fun k s hk _ hn=>⟨s,trivial,by rw [zr5 hk (ya8 hn)]⟩))) ?_
   rintro _ _ (⟨s,_,rfl⟩|⟨_,_,hF,_⟩)
   ·exact ⟨none,.ready,_,.refl _,by simp,rfl,s,rfl⟩
   ·exact hF.elim
  intro k s hk _ hkd
  refine z8.perm (pt2 _ _ _ _) (z8.ventE ?_)
  refine zcu hlp rfl rfl ?_
  refine rn ?_;refine z7 rfl (x4 rfl fun b9=> ?_)
  refine rn ?_;refine ⟨[(8,iv k),(9,pZ b9),(5,pZ b5),(7,pZ b7)],.box b9 66 (evR h.evs[k]):: .box b1 28 (x5 h):: .box b2 3 [iv kd]:: .defs q:: .box b7 54 [.v s.v]:: .row s.v 1 3 ((zea (zid kd x p) h.evs k).map zde):: .box b5 129 [fv]:: .box b3 28 (x5 h)::W,v8 (zae (pt1 _ _ _)) es,?_⟩
  refine rn ?_;refine qv rfl rfl (y5 rfl rfl (z8.qt (h2:= [_,_,_,_,_,_,_,_,_]) (hp k hk hkd) (zdb [_,_,_,_,_,_,_,_,_] _))) ?_
  refine rn ?_;refine y3 rfl (fun hc24=> ?_) (fun hc24=> ?_)
  ·refine y6 ?_;refine q1 ?_;refine q1 ?_;refine q1 ?_;refine q1 ?_;refine q1 ?_;refine qq rfl rfl (zlg rfl (by rfl) (by rfl)) ?_
   refine rn ?_;refine qv rfl rfl (u1 rfl rfl) ?_
   refine zsl s.v ?_
   refine z7 rfl (zaa rfl rfl (by simp only [List.length_map,List.length_cons,List.length_nil];have:=zhb (zid kd x p) h.evs k;omega) rfl (fun s33=> ?_) (zmh [x k h.evs[k]]))
   refine za8 s33 fun sv hsv=> ?_
   subst hsv
   refine rn ?_;exact zd4 (.refl _) ⟨_,_,.trans (.perm ((pt1 _ _ _).trans (.cons _ ((pt1 _ _ _).trans (.cons _ (pt1 _ _ _))))) _) (.drop [_] _ _),sv,.inl ⟨rfl,trivial,by rw [ya5 hk (ya6 hkd hc24),List.map_append];rfl⟩⟩
  ·refine rn ?_;exact zd4 (.refl _) ⟨_,_,.trans (.perm ((pt1 _ _ _).trans (.cons _ ((pt1 _ _ _).trans (.cons _ (pt1 _ _ _))))) _) (.drop [_] _ _),s,.inl ⟨rfl,trivial,by rw [zr5 hk (ya7 hc24)]⟩⟩
 ·obtain ⟨_,s,rfl⟩:=hK
  refine rn ?_;exact zfg (.refl _) (.cons _ _ _ _ (.tmp _ _ rfl) .nil) (.trans (.drop1 _ _ _) (.trans (.perm (pt1 _ _ _) _) (.trans (.drop [_] _ _) (.trans (.perm (pt1 _ _ _) _) (.drop [_] _ _))))) ⟨s,rfl,rfl⟩
 ·obtain ⟨hc,_⟩:=hK
  exact absurd hc (by simp)
set_option maxHeartbeats 4000000 in
theorem yhe (h:Hist) (la:h.evs.length≤1000000) (kd:Int) (fv:AV) (hone:fv.cellsOf=some [fv]) (W:List Res) (x:Nat→Ev→Ver×Nat) (p:Nat→Ev→Bool) (hp:∀k,(hk:k < h.evs.length)→(h.evs[k].kind==kd)=true→z8 Tryz.prog fv [iv k,.agg (evR h.evs[k])] W (fun r h'=>h'=W∧r= .tup [.agg (zie (x k h.evs[k])),bv (p k h.evs[k])])):x3 Tryz.prog 163 [.agg (x5 h),iv kd,fv] W (fun r h'=>∃s:SV,h'= .row s.v 3 133 ((zea (zid kd x p) h.evs h.evs.length).map zie)::W∧r= .v s.v):=by
 refine z6 Tryz.func163 rfl rfl rfl ?_
 refine rn ?_;refine z7 rfl (x8 rfl rfl rfl fun b3=> ?_)
 refine z7 rfl (x8 rfl hone rfl fun b5=> ?_)
 refine rn ?_;refine z7 rfl (x4 rfl fun b7=> ?_)
 refine rn ?_;refine z7 rfl (w7 rfl rfl (z8.of_fun (zmq h kd _)) rfl ?_)
 rintro _ _ ⟨b1,b2,rfl,rfl⟩
 refine rn ?_;refine zfv (s':=⟨[(14,.fn (.func 158) [] [pZ b1,pZ b2]),(5,pZ b5),(7,pZ b7)],.box b1 28 (x5 h):: .box b2 3 [iv kd]:: .box b7 190 [.v (⟨none,0,0⟩:SV).v]:: .row (⟨none,0,0⟩:SV).v 3 133 ((zea (zid kd x p) h.evs 0).map zie):: .box b5 232 [fv]:: .box b3 28 (x5 h)::W,[]⟩) (v8 (v8 (zci 3 133) (zae ((pt1 _ _ _).trans (.cons _ ((pt1 _ _ _).trans (.cons _ (pt1 _ _ _))))))) es) ?_
 refine zkm (fun pend h''=>pend=none∧∃s:SV,h''= .box b7 190 [.v s.v]:: .row s.v 3 133 ((zea (zid kd x p) h.evs h.evs.length).map zie):: .box b5 232 [fv]:: .box b3 28 (x5 h)::W) rfl (fun fn l q lp hlp=> ?_) (fun q h'' hK=> ?_) (fun q h'' c hK=> ?_)
 ·suffices hy:∀k (s:SV),(hk:k < h.evs.length)→True→(h.evs[k].kind==kd)=true→z8 Tryz.prog (yv l) [iv k,.agg (evR h.evs[k])] (.box b1 28 (x5 h):: .box b2 3 [iv kd]::lp .ready none:: .defs q:: .box b7 190 [.v s.v]:: .row s.v 3 133 ((zea (zid kd x p) h.evs k).map zie):: .box b5 232 [fv]:: .box b3 28 (x5 h)::W) (fun r h'=>∃s':SV,(r=bv true∧True∧h'= .box b1 28 (x5 h):: .box b2 3 [iv kd]::lp .ready none:: .defs q:: .box b7 190 [.v s'.v]:: .row s'.v 3 133 ((zea (zid kd x p) h.evs (k+1)).map zie):: .box b5 232 [fv]:: .box b3 28 (x5 h)::W)∨(r=bv false∧False∧h'= .box b1 28 (x5 h):: .box b2 3 [iv kd]:: [])) by
   refine x3.mono (x3.perm ((pt2 _ _ _ _).trans (.cons _ (pt2 _ _ _ _))) (zjz h la kd (yv l) b1 b2 (fun _ _=>True) (fun _ _=>False) (fun k (s:SV)=>lp .ready none:: .defs q:: .box b7 190 [.v s.v]:: .row s.v 3 133 ((zea (zid kd x p) h.evs k).map zie):: .box b5 232 [fv]:: .box b3 28 (x5 h)::W) (fun _ _=> []) ⟨none,0,0⟩ trivial hy (fun k s hk _ hn=>⟨s,trivial,by rw [zr5 hk (ya8 hn)]⟩))) ?_
   rintro _ _ (⟨s,_,rfl⟩|⟨_,_,hF,_⟩)
   ·exact ⟨none,.ready,_,.refl _,by simp,rfl,s,rfl⟩
   ·exact hF.elim
  intro k s hk _ hkd
  refine z8.perm (pt2 _ _ _ _) (z8.ventE ?_)
  refine zcu hlp rfl rfl ?_
  refine rn ?_;refine z7 rfl (x4 rfl fun b9=> ?_)
  refine rn ?_;refine ⟨[(8,iv k),(9,pZ b9),(5,pZ b5),(7,pZ b7)],.box b9 66 (evR h.evs[k]):: .box b1 28 (x5 h):: .box b2 3 [iv kd]:: .defs q:: .box b7 190 [.v s.v]:: .row s.v 3 133 ((zea (zid kd x p) h.evs k).map zie):: .box b5 232 [fv]:: .box b3 28 (x5 h)::W,v8 (zae (pt1 _ _ _)) es,?_⟩
  refine rn ?_;refine qv rfl rfl (y5 rfl rfl (z8.qt (h2:= [_,_,_,_,_,_,_,_,_]) (hp k hk hkd) (zdb [_,_,_,_,_,_,_,_,_] _))) ?_
  refine rn ?_;refine z7 rfl (x4 rfl fun b10=> ?_)
  refine rn ?_;refine y3 rfl (fun hc24=> ?_) (fun hc24=> ?_)
  ·refine j4 8 rfl ?_
   refine dq rfl rfl qrA ?_;refine dq rfl rfl qrA ?_;refine dq rfl rfl qrA ?_;refine dq rfl rfl qrA ?_;refine dq rfl rfl qrA ?_;refine dq rfl rfl (zlg rfl (by rfl) (by rfl)) ?_
   refine rn ?_;refine dv rfl rfl (u1 rfl rfl) ?_
   refine rn ?_;refine zsl s.v ?_
   refine z7 rfl (zaa rfl rfl (by simp only [List.length_map,List.length_cons,List.length_nil];have:=zhb (zid kd x p) h.evs k;omega) rfl (fun s33=> ?_) (ydc [x k h.evs[k]]))
   refine za8 s33 fun sv hsv=> ?_
   subst hsv
   refine rn ?_;exact zd4 (pt1 _ _ _) ⟨_,_,.trans (.perm ((pt1 _ _ _).trans (.cons _ ((pt1 _ _ _).trans (.cons _ ((pt1 _ _ _).trans (.cons _ (pt1 _ _ _))))))) _) (.drop [_,_] _ _),sv,.inl ⟨rfl,trivial,by rw [ya5 hk (ya6 hkd hc24),List.map_append];rfl⟩⟩
  ·refine rn ?_;exact zd4 (pt1 _ _ _) ⟨_,_,.trans (.perm ((pt1 _ _ _).trans (.cons _ ((pt1 _ _ _).trans (.cons _ ((pt1 _ _ _).trans (.cons _ (pt1 _ _ _))))))) _) (.drop [_,_] _ _),s,.inl ⟨rfl,trivial,by rw [zr5 hk (ya7 hc24)]⟩⟩
 ·obtain ⟨_,s,rfl⟩:=hK
  refine rn ?_;exact zfg (.refl _) (.cons _ _ _ _ (.tmp _ _ rfl) .nil) (.trans (.drop1 _ _ _) (.trans (.perm (pt1 _ _ _) _) (.trans (.drop [_] _ _) (.trans (.perm (pt1 _ _ _) _) (.drop [_] _ _))))) ⟨s,rfl,rfl⟩
 ·obtain ⟨hc,_⟩:=hK
  exact absurd hc (by simp)
theorem ydu (k s:Int) (e:Ev) (b2 b3 rm:Nat) (M:List (Int×Bool)):x3 Tryz.prog 74 [iv k,.agg (evR e),pZ b2,pZ b3] [.box b2 3 [iv s],.box b3 126 [mpv rm],.map rm (j7 zbn (zbg bv M))] (fun r h'=>h'= [.box b2 3 [iv s],.box b3 126 [mpv rm],.map rm (j7 zbn (zbg bv M))]∧r= .tup [iv e.t,bv (e.s==s && (zbc e.t M).getD false)]):=by
 refine z6 Tryz.func74 rfl rfl rfl ?_
 refine rn ?_;refine z7 rfl (x8 rfl rfl rfl fun b5=> ?_)
 refine rn ?_;refine j4 13 rfl ?_
 refine rn ?_;refine zdw (fun hg1_6=> ?_) (fun hg1_6=> ?_)
 ·refine dq rfl rfl qrA ?_;refine dq rfl rfl qrA ?_;refine dq rfl rfl qrA ?_;refine dq rfl rfl (zbt (enc:=zbn) (k:=e.t) false rfl rfl) ?_
  refine rn ?_;refine rq 1 ?_
  exact ⟨rfl,by rw [hg1_6];rfl⟩
 ·refine rn ?_;refine rq 1 ?_
  exact ⟨rfl,by rw [hg1_6];rfl⟩
theorem ydv (k s:Int) (e:Ev) (b2 b3 rm:Nat) (M:List (Int×Bool)):x3 Tryz.prog 161 [iv k,.agg (evR e),pZ b2,pZ b3] [.box b2 3 [iv s],.box b3 126 [mpv rm],.map rm (j7 zbn (zbg bv M))] (fun r h'=>h'= [.box b2 3 [iv s],.box b3 126 [mpv rm],.map rm (j7 zbn (zbg bv M))]∧r= .tup [iv e.t,bv (e.o==s && (zbc e.t M).getD false)]):=by
 refine z6 Tryz.func161 rfl rfl rfl ?_
 refine rn ?_;refine z7 rfl (x8 rfl rfl rfl fun b5=> ?_)
 refine rn ?_;refine j4 13 rfl ?_
 refine rn ?_;refine zdw (fun hg1_6=> ?_) (fun hg1_6=> ?_)
 ·refine dq rfl rfl qrA ?_;refine dq rfl rfl qrA ?_;refine dq rfl rfl qrA ?_;refine dq rfl rfl (zbt (enc:=zbn) (k:=e.t) false rfl rfl) ?_
  refine rn ?_;refine rq 1 ?_
  exact ⟨rfl,by rw [hg1_6];rfl⟩
 ·refine rn ?_;refine rq 1 ?_
  exact ⟨rfl,by rw [hg1_6];rfl⟩
theorem ydt (k a:Nat) (t x:Int) (e:Ev) (b2 b3 b4:Nat):x3 Tryz.prog 164 [iv k,.agg (evR e),pZ b2,pZ b3,pZ b4] [.box b2 3 [iv t],.box b3 3 [iv x],.box b4 3 [iv a]] (fun r h'=>h'= [.box b2 3 [iv t],.box b3 3 [iv x],.box b4 3 [iv a]]∧r= .tup [.agg (zie (e.v,k)),bv (e.t==t && e.o==x && decide (k < a))]):=by
 refine z6 Tryz.func164 rfl rfl rfl ?_
 refine rn ?_;refine z7 rfl (x8 rfl rfl rfl fun b6=> ?_)
 refine z7 rfl (x4 rfl fun b7=> ?_)
 refine rn ?_;refine ze1 20 [(b7,133,_)] rfl (List.perm_append_comm (l₁:= [_])) ?_
 refine dq rfl rfl qrA ?_;refine dq rfl rfl qrA ?_;refine dq rfl rfl qrA ?_;refine dq rfl rfl (j8 (out:= [iv e.v.t,iv e.v.k,iv k]) rfl (by rfl)) ?_
 refine rn ?_;refine zdw (fun hg1_8=> ?_) (fun hg1_8=> ?_)
 ·refine rn ?_;refine zdw (fun hg1_14=> ?_) (fun hg1_14=> ?_)
  ·refine rn ?_;refine dw 0 rfl rfl rfl rfl rfl (Nat.le_of_ble_eq_true rfl) ?_
   refine rn2 ?_;show zb0 _ _ _ _ _ _ ⟨_,.box b7 133 (zie (e.v,k)):: .box b6 66 (evR e):: [.box b2 3 [iv t],.box b3 3 [iv x],.box b4 3 [iv a]],_⟩
   refine rn ?_;exact zeh (.cons _ _ _ _ (.agg _ _ _ _ _ _ _ rfl inferInstance inferInstance inferInstance rfl) (.cons _ _ _ _ (.tmp _ _ rfl) .nil)) (.drop [_,_] _ _) ⟨rfl,by first|(rw [hg1_8,hg1_14];exact congrArg (fun b=>AV.tup [AV.agg (zie (e.v,k)),bv b]) (by simp))|(rw [hg1_8];rfl)⟩
  ·refine rn ?_;refine dw 0 rfl rfl rfl rfl rfl (Nat.le_of_ble_eq_true rfl) ?_
   refine rn2 ?_;show zb0 _ _ _ _ _ _ ⟨_,.box b7 133 (zie (e.v,k)):: .box b6 66 (evR e):: [.box b2 3 [iv t],.box b3 3 [iv x],.box b4 3 [iv a]],_⟩
   refine rn ?_;exact zeh (.cons _ _ _ _ (.agg _ _ _ _ _ _ _ rfl inferInstance inferInstance inferInstance rfl) (.cons _ _ _ _ (.tmp _ _ rfl) .nil)) (.drop [_,_] _ _) ⟨rfl,by first|(rw [hg1_8,hg1_14];exact congrArg (fun b=>AV.tup [AV.agg (zie (e.v,k)),bv b]) (by simp))|(rw [hg1_8];rfl)⟩
 ·refine rn ?_;refine dw 0 rfl rfl rfl rfl rfl (Nat.le_of_ble_eq_true rfl) ?_
  refine rn2 ?_;show zb0 _ _ _ _ _ _ ⟨_,.box b7 133 (zie (e.v,k)):: .box b6 66 (evR e):: [.box b2 3 [iv t],.box b3 3 [iv x],.box b4 3 [iv a]],_⟩
  refine rn ?_;exact zeh (.cons _ _ _ _ (.agg _ _ _ _ _ _ _ rfl inferInstance inferInstance inferInstance rfl) (.cons _ _ _ _ (.tmp _ _ rfl) .nil)) (.drop [_,_] _ _) ⟨rfl,by first|(rw [hg1_8,hg1_14];exact congrArg (fun b=>AV.tup [AV.agg (zie (e.v,k)),bv b]) (by simp))|(rw [hg1_8];rfl)⟩
theorem yj4 (x:Int) (s:Ord) (b1:Nat):x3 Tryz.prog 160 [.agg (zdy s),pZ b1] [.box b1 3 [iv x]] (fun r h'=>h'= [.box b1 3 [iv x]]∧r=bv (s.o==x)):=by
 refine z6 Tryz.func160 rfl rfl rfl ?_
 refine rn ?_;refine z7 rfl (x8 rfl rfl rfl fun b2=> ?_)
 refine rn ?_;refine rq 1 ?_
 exact ⟨rfl,rfl⟩
set_option maxHeartbeats 4000000 in
theorem zvy (h:Hist) (la:h.evs.length≤1000000) (W:List Res):x3 Tryz.prog 72 [.agg (x5 h)] W (fun r h'=>∃rm,h'= .map rm (j7 zbn (zbg bv (zja h.evs)))::W∧r=mpv rm):=by
 refine z6 Tryz.func72 rfl rfl rfl ?_
 refine rn ?_;refine z7 rfl (x8 rfl rfl rfl fun b1=> ?_)
 refine rn ?_;refine z7 rfl (zas (enc:=zbn) rfl fun b6=> ?_)
 refine z7 rfl (x4 rfl fun b3=> ?_)
 refine rn ?_;refine z7 rfl (w7 rfl rfl (z8.of_fun (zmq h 5 _)) rfl ?_)
 rintro _ _ ⟨e1,e2,rfl,rfl⟩
 refine rn ?_;refine zfv (s':=⟨[(8,.fn (.func 158) [] [pZ e1,pZ e2]),(3,pZ b3)],.box e1 28 (x5 h):: .box e2 3 [iv 5]:: .box b3 126 [mpv b6]:: .map b6 (j7 zbn (zbg bv (zja (h.evs.take 0)))):: .box b1 28 (x5 h)::W,[]⟩) es ?_
 refine zkm (fun pend h''=>pend=none∧h''= .box b3 126 [mpv b6]:: .map b6 (j7 zbn (zbg bv (zja (h.evs.take h.evs.length)))):: .box b1 28 (x5 h)::W) rfl (fun fn l q lp hlp=> ?_) (fun q h'' hK=> ?_) (fun q h'' c hK=> ?_)
 ·suffices hy:∀k (x:Unit),(hk:k < h.evs.length)→True→(h.evs[k].kind==5)=true→z8 Tryz.prog (yv l) [iv k,.agg (evR h.evs[k])] (.box e1 28 (x5 h):: .box e2 3 [iv 5]::lp .ready none:: .defs q:: .box b3 126 [mpv b6]:: .map b6 (j7 zbn (zbg bv (zja (h.evs.take k)))):: .box b1 28 (x5 h)::W) (fun r h'=>∃x':Unit,(r=bv true∧True∧h'= .box e1 28 (x5 h):: .box e2 3 [iv 5]::lp .ready none:: .defs q:: .box b3 126 [mpv b6]:: .map b6 (j7 zbn (zbg bv (zja (h.evs.take (k+1))))):: .box b1 28 (x5 h)::W)∨(r=bv false∧False∧h'= .box e1 28 (x5 h):: .box e2 3 [iv 5]:: [])) by
   refine x3.mono (x3.perm ((pt2 _ _ _ _).trans (.cons _ (pt2 _ _ _ _))) (zjz h la 5 (yv l) e1 e2 (fun _ _=>True) (fun _ _=>False) (fun k (_:Unit)=>lp .ready none:: .defs q:: .box b3 126 [mpv b6]:: .map b6 (j7 zbn (zbg bv (zja (h.evs.take k)))):: .box b1 28 (x5 h)::W) (fun _ _=> []) () trivial hy (fun k s hk _ hn=>⟨s,trivial,by rw [yh3 hk hn]⟩))) ?_
   rintro _ _ (⟨s,_,rfl⟩|⟨_,_,hF,_⟩)
   ·exact ⟨none,.ready,_,.refl _,by simp,rfl,rfl⟩
   ·exact hF.elim
  intro k s hk _ hkd
  refine z8.perm (pt2 _ _ _ _) (z8.ventE ?_)
  refine zcu hlp rfl rfl ?_
  refine rn ?_;refine z7 rfl (x4 rfl fun b5=> ?_)
  refine rn ?_;refine ⟨[(5,pZ b5),(3,pZ b3)],.box b5 66 (evR h.evs[k]):: .box e1 28 (x5 h):: .box e2 3 [iv 5]:: .defs q:: .box b3 126 [mpv b6]:: .map b6 (j7 zbn (zbg bv (zja (h.evs.take k)))):: .box b1 28 (x5 h)::W,v8 (zae (pt1 _ _ _)) es,?_⟩
  refine rn ?_;refine z7 rfl (za5 (g:=bv) (enc:=zbn) (k:=h.evs[k].t) (v:=true) rfl rfl rfl ?_)
  refine rn ?_;exact zd4 (.refl _) ⟨_,_,.trans (.perm ((pt1 _ _ _).trans (.cons _ ((pt1 _ _ _).trans (.cons _ (pt1 _ _ _))))) _) (.drop [_] _ _),(),.inl ⟨rfl,trivial,by rw [yh2 hk hkd]⟩⟩
 ·obtain ⟨_,rfl⟩:=hK
  refine rn ?_;exact zfg (.refl _) (.cons _ _ _ _ (.tmp _ _ rfl) .nil) (.trans (.drop1 _ _ _) (.trans (.perm (pt1 _ _ _) _) (.drop [_] _ _))) ⟨b6,by rw [List.take_length],rfl⟩
 ·obtain ⟨hc,_⟩:=hK
  exact absurd hc (by simp)
theorem zw9 {h:Hist} {n many:Int} (he:zgv h n many≠0) (X:List Int):(onE (zgv h n many) X).map zde= []:=by rw [onE,if_neg he];rfl
theorem zv9 {α:Type} (kd:Int) (g:Ev→α) (q:Ev→Bool) (l:List Ev):zea (zid kd (fun _ e=>g e) (fun _ e=>q e)) l l.length=(l.filter fun e=>e.kind==kd && q e).map g:=zzu (fun _ _=>rfl) l
theorem ya3 (h:Hist) (la:Lim 4611686018427387904 h) (n many:Int) (fv:AV) (hone:fv.cellsOf=some [fv]) (X:List Int) (W:List Res) (hp:zgv h n many=0→z8 Tryz.prog fv [] (.glob 3 148 y8:: .glob 5 276 y9:: .glob 6 279 y4:: .glob 2 197 u0::W) (fun r h'=>∃s:SV,h'= .row s.v 1 3 (X.map zde):: .glob 3 148 y8:: .glob 5 276 y9:: .glob 6 279 y4:: .glob 2 197 u0::W∧r= .v s.v)):x3 Tryz.prog 70 [.agg (x5 h),iv n,iv many,fv] (.glob 3 148 y8:: .glob 5 276 y9:: .glob 6 279 y4:: .glob 2 197 u0::W) (fun r h'=>∃s:SV,h'= .row s.v 1 3 ((onE (zgv h n many) X).map zde):: .glob 3 148 y8:: .glob 5 276 y9:: .glob 6 279 y4:: .glob 2 197 u0::W∧r= .tup [.v s.v,iv (zgv h n many)]):=by
 refine z6 Tryz.func70 rfl rfl rfl ?_
 refine rn ?_;refine z7 rfl (x8 rfl rfl rfl fun b4=> ?_)
 refine rn ?_;refine qv rfl rfl (y5 rfl rfl (z8.qt (z8.of_fun (zvz h la)) ((pt1 _ _ _).trans (.cons _ ((pt1 _ _ _).trans (.cons _ ((pt1 _ _ _).trans (.cons _ (pt1 _ _ _))))))))) ?_
 refine rn ?_;refine y3 rfl (fun hc15=> ?_) (fun hc15=> ?_)
 ·have hc:k8 h≠0:=by simpa using hc15
  refine rn ?_;exact zbo rfl rfl (.trans (.drop [_] _ _) (zax 1 3 _)) ⟨⟨none,0,0⟩,by rw [zw9 (by rw [ye1 hc];exact hc)];rfl,by rw [ye1 hc];rfl⟩
 ·have hc:k8 h=0:=by simpa using hc15
  refine rn ?_;refine q9 (fun hg5_2=> ?_) (fun hg5_2=> ?_)
  ·refine rn ?_;refine ztp rfl ?_;have hn:¬(0≤n∧n < many):=by first|(have q:=of_decide_eq_true hg5_2;omega)|(have q:=of_decide_eq_true hc24;omega)
   refine rn ?_;exact zbo rfl rfl (.trans (.drop [_] _ _) (zax 1 3 _)) ⟨⟨none,0,0⟩,by rw [zw9 (by rw [zxb hc hn];decide)];rfl,by rw [zxb hc hn];rfl⟩
  ·refine rn ?_;refine y3 rfl (fun hc24=> ?_) (fun hc24=> ?_)
   ·have hn:¬(0≤n∧n < many):=by first|(have q:=of_decide_eq_true hg5_2;omega)|(have q:=of_decide_eq_true hc24;omega)
    refine rn ?_;exact zbo rfl rfl (.trans (.drop [_] _ _) (zax 1 3 _)) ⟨⟨none,0,0⟩,by rw [zw9 (by rw [zxb hc hn];decide)];rfl,by rw [zxb hc hn];rfl⟩
   ·have hn:0≤n∧n < many:=by have q:=of_decide_eq_false hg5_2;have q':=of_decide_eq_false hc24;omega
    refine rn ?_;refine z7 rfl (w7 rfl rfl (z8.fr1 (hp (zq0 hc hn))) rfl ?_)
    rintro _ _ ⟨_,rfl,s,rfl,rfl⟩
    refine rn ?_;exact zbo rfl rfl (.drop [_] _ _) ⟨s,by rw [zq0 hc hn];rfl,by rw [zq0 hc hn];rfl⟩
theorem zmg {P:Program} {h:List Res} {f:Operand→Option AV} {dst:Option Tmp} {ty:TypeId} {pos:String} {after:Array Edge} {guard:Option (Nat×Bool)} {x y:Operand} {T E:TypeId} {s:Value} {sz i:Nat} {k:Int} {E':TypeId} {rows:List (List AV)} (hx:f x=some (.v s)) (hy:f y=some (.v (.int .i64 k))) [hr:HasRow h s i sz E' rows] [Und P T (.slice E)] [Siz P E sz] (h0:0≤k) (hk:k.toNat < rows.length):
 QR P h f ⟨dst,.indexAddr T x y,ty,pos,after,guard⟩ (.rp s sz k.toNat 0):=q8 hx (by rw [Int.toNat_of_nonneg h0];exact hy) hk
theorem zq1 {h:Hist} {n many:Int} (he:zgv h n many=0):Lim 3000 h:=zp7 (zdt (zm8 he).1).1
theorem zxa {h:Hist} {n many:Int} (he:zgv h n many=0):h.evs.length≤1000000:=Nat.le_trans (zq1 he).evs (by decide)
theorem zkh {h:Hist} (he:k8 h=0):Lim 3000 h:=zp7 (zdt (zcv.1 he)).1
theorem zzi (l:List Ev) (s:Int):zea (zid 1 (fun _ e=>e.t) (fun _ e=>e.s==s && (zbc e.t (zja l)).getD false)) l l.length=za7 l s:=by
 rw [zv9 1 Ev.t (fun e=>e.s==s && (zbc e.t (zja l)).getD false),za7];simp only [zsa]
theorem yd7 (l:List Ev) (x:Int):zea (zid 2 (fun _ e=>e.t) (fun _ e=>e.o==x && (zbc e.t (zja l)).getD false)) l l.length=yfd l x:=by
 rw [zv9 2 Ev.t (fun e=>e.o==x && (zbc e.t (zja l)).getD false),yfd];simp only [zsa]
theorem ygq {h:Hist} {x:Int} (hc:decide (zaq (fun o:Ord=>o.o==x) 0 h.ords ≥ 0)=true):∃k,∃hk:k < h.ords.length,zaq (fun o:Ord=>o.o==x) 0 h.ords=(k:Int)∧zed h x=h.ords[k].ts:=by
 have:=zhd (fun o:Ord=>o.o==x) h.ords 0
 cases hf:h.ords.find? (fun o=>o.o==x) with
 |none=>rw [hf] at this;simp only at this;rw [this] at hc;exact absurd hc (by decide)
 |some o=>
  rw [hf] at this
  obtain ⟨k,hk,e,eo,_⟩:=this
  exact ⟨k,hk,by rw [e,Nat.zero_add],by rw [zed,hf,eo]⟩
theorem ygp {h:Hist} {x:Int} (hc:decide (zaq (fun o:Ord=>o.o==x) 0 h.ords ≥ 0)=false):zed h x=zaz (yfd h.evs x):=by
 have:=zhd (fun o:Ord=>o.o==x) h.ords 0
 cases hf:h.ords.find? (fun o=>o.o==x) with
 |none=>rw [zed,hf]
 |some o=>
  rw [hf] at this
  obtain ⟨k,hk,e,eo,_⟩:=this
  rw [e] at hc
  have:=of_decide_eq_false hc
  omega
set_option maxHeartbeats 4000000 in
theorem ydy (h:Hist) (la:h.evs.length≤1000000) (s:Int) (b2 b4:Nat):x3 Tryz.prog 71 [pZ b2,pZ b4] (.glob 3 148 y8:: .glob 5 276 y9:: .glob 6 279 y4:: .glob 2 197 u0:: .box b2 28 (x5 h):: .box b4 3 [iv s]:: []) (fun r h'=>∃s':SV,h'= .row s'.v 1 3 ((za7 h.evs s).map zde):: .glob 3 148 y8:: .glob 5 276 y9:: .glob 6 279 y4:: .glob 2 197 u0:: .box b2 28 (x5 h):: .box b4 3 [iv s]:: []∧r= .v s'.v):=by
 refine z6 Tryz.func71 rfl rfl rfl ?_
 refine rn ?_;refine z7 rfl (w7 rfl rfl (z8.of_fun (zvy h la _)) rfl ?_)
 rintro _ _ ⟨rm,rfl,rfl⟩
 refine z7 rfl (x4 rfl fun b3=> ?_)
 refine rn ?_;refine z7 rfl (w7 rfl rfl (z8.of_fun (ya2 h la 1 _ rfl _ (fun _ e=>e.t) (fun _ e=>e.s==s && (zbc e.t (zja h.evs)).getD false) (fun k hk _=>z8.qt (z8.of_acall (fs:= []) (cs:= [pZ b4,pZ b3]) (ydu k s h.evs[k] b4 b3 rm (zja h.evs))) (pt7 _ _ _ _ _ _ _ _ _)))) rfl ?_)
 rintro _ _ ⟨s',rfl,rfl⟩
 refine rn ?_;exact zad rfl (.trans (.perm ((pt1 _ _ _).trans (.cons _ (pt1 _ _ _))) _) (.drop [_,_] _ _)) ⟨s',by rw [zzi],rfl⟩
set_option maxHeartbeats 4000000 in
theorem ydz (h:Hist) (la:Lim 4611686018427387904 h) (n:Int):x3 Tryz.prog 28 [.agg (x5 h),iv n] (.glob 3 148 y8:: .glob 5 276 y9:: .glob 6 279 y4:: .glob 2 197 u0:: []) (fun r h'=>∃s:SV,h'= .row s.v 1 3 ((onE (zgv h n h.ss.length) (za7 h.evs n)).map zde):: .glob 3 148 y8:: .glob 5 276 y9:: .glob 6 279 y4:: .glob 2 197 u0:: []∧r= .tup [.v s.v,iv (zgv h n h.ss.length)]):=by
 refine z6 Tryz.func28 rfl rfl rfl ?_
 refine rn ?_;refine z7 rfl (x8 rfl rfl rfl fun b2=> ?_)
 refine z7 rfl (x8 rfl rfl rfl fun b3=> ?_)
 refine rn ?_;refine z7 rfl (w7 rfl rfl (z8.perm ((pt2 _ _ _ _).trans (.cons _ ((pt2 _ _ _ _).trans (.cons _ ((pt2 _ _ _ _).trans (.cons _ ((pt2 _ _ _ _).trans (.cons _ (pt1 _ _ _))))))))) (z8.of_fun (ya3 h la n (h.ss.map zh0).length (.fn (.func 71) [] [pZ b2,pZ b3]) rfl (za7 h.evs n) [.box b2 28 (x5 h),.box b3 3 [iv n]] (fun he=>z8.of_acall (fs:= []) (cs:= [pZ b2,pZ b3]) (ydy h (zxa he) n b2 b3))))) rfl ?_)
 rintro _ _ ⟨s,rfl,rfl⟩
 refine rn ?_;exact zbo rfl rfl (.trans (.perm ((pt5 _ _ _ _ _ _ _).trans (.cons _ (pt5 _ _ _ _ _ _ _))) _) (.drop [_,_] _ _)) ⟨s,by simp only [List.length_map],by simp only [List.length_map];rfl⟩
theorem ya0 (h:Hist) (la:Lim 4611686018427387904 h) (n:Int):x3 Tryz.prog 28 [.agg (x5 h),iv n] (.glob 3 148 y8:: .glob 5 276 y9:: .glob 6 279 y4:: .glob 2 197 u0:: []) (fun r h'=>h'= .glob 3 148 y8:: .glob 5 276 y9:: .glob 6 279 y4:: .glob 2 197 u0:: []∧r= .tup [zel (onE (zgv h n h.ss.length) (za7 h.evs n)),iv (zgv h n h.ss.length)]):=
 (ydz h la n).ventR (by rintro _ _ ⟨s,rfl,rfl⟩;exact ⟨_,_,za3 [] [_],rfl,rfl⟩)
set_option maxHeartbeats 4000000 in
theorem yhd (h:Hist) (la:Lim 3000 h) (x:Int) (W:List Res):x3 Tryz.prog 122 [.agg (x5 h),iv x] W (fun r h'=>∃s:SV,h'= .row s.v 1 3 ((zed h x).map zde)::W∧r= .v s.v):=by
 refine z6 Tryz.func122 rfl rfl rfl ?_
 have le:h.evs.length≤1000000:=Nat.le_trans la.evs (by decide)
 have lo:=la.ords
 refine rn ?_;refine z7 rfl (x8 rfl rfl rfl fun b2=> ?_)
 refine z7 rfl (x8 rfl rfl rfl fun b3=> ?_)
 refine rn ?_;refine qv rfl rfl (y5 rfl rfl (z8.of_fun (zib h.ords _ (fun o:Ord=>o.o==x) _ (fun a _=>z8.qt (z8.of_acall (fs:= []) (cs:= [pZ b3]) (yj4 x a b3)) (.refl _)) (Nat.le_trans la.ords (by decide))))) ?_
 refine rn ?_;refine y3 rfl (fun hc13=> ?_) (fun hc13=> ?_)
 ·obtain ⟨k,hk,ek,hx⟩:=ygq hc13
  have rk:=zcy (f:=zdy) hk
  rw [ek]
  refine rn ?_;refine z7 rfl (w7 rfl rfl (z8.fr (z8.rowS (z8.of_fun (zkg (h.ords[k].ts.map zde) (by rw [List.length_map];exact Nat.le_trans (la.ordts h.ords[k] (List.getElem_mem hk)) (by decide)) (zmh _)))) (.refl _)) rfl ?_)
  rintro _ _ ⟨_,rfl,s,rfl,rfl⟩
  refine rn ?_;exact zad rfl (.trans (.perm ((pt1 _ _ _).trans (.cons _ (pt1 _ _ _))) _) (.drop [_,_] _ _)) ⟨s,by rw [hx],rfl⟩
 ·have hx:=ygp hc13
  refine rn ?_;refine z7 rfl (w7 rfl rfl (z8.of_fun (zvy h le _)) rfl ?_)
  rintro _ _ ⟨rm,rfl,rfl⟩
  refine z7 rfl (x4 rfl fun b6=> ?_)
  refine rn ?_;refine z7 rfl (w7 rfl rfl (z8.of_fun (ya2 h le 2 _ rfl _ (fun _ e=>e.t) (fun _ e=>e.o==x && (zbc e.t (zja h.evs)).getD false) (fun k hk _=>z8.qt (z8.of_acall (fs:= []) (cs:= [pZ b3,pZ b6]) (ydv k x h.evs[k] b3 b6 rm (zja h.evs))) (pt2 _ _ _ _)))) rfl ?_)
  rintro _ _ ⟨s,rfl,rfl⟩
  refine rn ?_;refine z7 rfl (w7 rfl rfl (zj6 (z8.of_fun (yer s _ (by have:=(zhb (zid 2 (fun _ e=>e.t) (fun _ e=>e.o==x && (zbc e.t (zja h.evs)).getD false)) h.evs h.evs.length);omega)))) rfl ?_)
  rintro _ _ ⟨s',rfl,rfl⟩
  refine rn ?_;exact zad rfl (.trans (.perm ((pt1 _ _ _).trans (.cons _ ((pt1 _ _ _).trans (.cons _ ((pt1 _ _ _).trans (.cons _ (pt1 _ _ _))))))) _) (.drop [_,_,_,_] _ _)) ⟨s',by rw [hx,yd7],rfl⟩
theorem yhc (h:Hist) (la:Lim 3000 h) (x:Int) (b2 b3:Nat):x3 Tryz.prog 121 [pZ b2,pZ b3] (.glob 3 148 y8:: .glob 5 276 y9:: .glob 6 279 y4:: .glob 2 197 u0:: .box b2 28 (x5 h):: .box b3 3 [iv x]:: []) (fun r h'=>∃s:SV,h'= .row s.v 1 3 ((zed h x).map zde):: .glob 3 148 y8:: .glob 5 276 y9:: .glob 6 279 y4:: .glob 2 197 u0:: .box b2 28 (x5 h):: .box b3 3 [iv x]:: []∧r= .v s.v):=by
 refine z6 Tryz.func121 rfl rfl rfl ?_
 refine rn ?_;refine z7 rfl (w7 rfl rfl (z8.of_fun (yhd h la x _)) rfl ?_)
 rintro _ _ ⟨s,rfl,rfl⟩
 refine rn ?_;exact zad rfl (.refl _ _) ⟨s,rfl,rfl⟩
set_option maxHeartbeats 4000000 in
theorem yd0 (h:Hist) (la:Lim 4611686018427387904 h) (x:Int):x3 Tryz.prog 75 [.agg (x5 h),iv x] (.glob 3 148 y8:: .glob 5 276 y9:: .glob 6 279 y4:: .glob 2 197 u0:: []) (fun r h'=>∃s:SV,h'= .row s.v 1 3 ((onE (zgv h x h.os.length) (zed h x)).map zde):: .glob 3 148 y8:: .glob 5 276 y9:: .glob 6 279 y4:: .glob 2 197 u0:: []∧r= .tup [.v s.v,iv (zgv h x h.os.length)]):=by
 refine z6 Tryz.func75 rfl rfl rfl ?_
 refine rn ?_;refine z7 rfl (x8 rfl rfl rfl fun b2=> ?_)
 refine z7 rfl (x8 rfl rfl rfl fun b3=> ?_)
 refine rn ?_;refine z7 rfl (w7 rfl rfl (z8.perm ((pt2 _ _ _ _).trans (.cons _ ((pt2 _ _ _ _).trans (.cons _ ((pt2 _ _ _ _).trans (.cons _ ((pt2 _ _ _ _).trans (.cons _ (pt1 _ _ _))))))))) (z8.of_fun (ya3 h la x (h.os.map zh0).length (.fn (.func 121) [] [pZ b2,pZ b3]) rfl (zed h x) [.box b2 28 (x5 h),.box b3 3 [iv x]] (fun he=>z8.of_acall (fs:= []) (cs:= [pZ b2,pZ b3]) (yhc h (zq1 he) x b2 b3))))) rfl ?_)
 rintro _ _ ⟨s,rfl,rfl⟩
 refine rn ?_;exact zbo rfl rfl (.trans (.perm ((pt5 _ _ _ _ _ _ _).trans (.cons _ (pt5 _ _ _ _ _ _ _))) _) (.drop [_,_] _ _)) ⟨s,by simp only [List.length_map],by simp only [List.length_map];rfl⟩
theorem ya1 (h:Hist) (la:Lim 4611686018427387904 h) (x:Int):x3 Tryz.prog 75 [.agg (x5 h),iv x] (.glob 3 148 y8:: .glob 5 276 y9:: .glob 6 279 y4:: .glob 2 197 u0:: []) (fun r h'=>h'= .glob 3 148 y8:: .glob 5 276 y9:: .glob 6 279 y4:: .glob 2 197 u0:: []∧r= .tup [zel (onE (zgv h x h.os.length) (zed h x)),iv (zgv h x h.os.length)]):=
 (yd0 h la x).ventR (by rintro _ _ ⟨s,rfl,rfl⟩;exact ⟨_,_,za3 [] [_],rfl,rfl⟩)
theorem zvs (l:List Ev) (t x:Int):∀k,k≤l.length→zbc (t,x) (znf (l.take k))=(zha l t x k).map Prod.fst
 |0,_=>rfl
 |k+1,hk=>by
  have ih:=zvs l t x k (by omega)
  rw [List.take_succ_eq_append_getElem hk,zdc,zha,List.getElem?_eq_getElem hk]
  simp only
  by_cases hw:zdj t x l[k]=true
  ·obtain ⟨h2,ht,hx⟩:=zee.1 hw
   rw [if_pos (by simpa using h2),zby,if_pos (by rw [kTO,ht,hx]),if_pos hw];rfl
  ·rw [if_neg hw]
   by_cases h2:l[k].kind=2
   ·rw [if_pos (by simpa using h2),zby,if_neg,ih]
    intro e
    rw [kTO,Prod.mk.injEq] at e
    exact hw (zee.2 ⟨h2,e.1,e.2⟩)
   ·rw [if_neg (by simpa using h2),ih]
theorem yds (h:Hist) (t x:Int):(zbc (t,x) (znf h.evs)).getD ⟨0,0⟩=zim h x t:=by
 have:=zvs h.evs t x h.evs.length (Nat.le_refl _)
 rw [List.take_length] at this
 rw [this,zim,zo6]
 cases zha h.evs t x h.evs.length <;> rfl
abbrev rkS (h:Hist) (rk:Nat):Res:= .map rk (j7 zd8 (zbg iv (rkM h h.os.length)))
theorem yjj (h:Hist) (n:Nat):rkM h (n+1)=zf6 h n 0 ((zed h n).take (zed h n).length) (zej (zo5 n ⟨0,0⟩) 0 (rkM h n)):=by rw [List.take_length];rfl
theorem yhh {h:Hist} (hc:k8 h=0) {x:Int} (h0:0≤x) (h1:x < h.os.length):(zed h x).length≤3000:=by
 rw [(zgp (zcv.1 hc) h0 h1).2.1]
 exact Nat.le_trans (zhi h.evs x) (zkh hc).evs
theorem yg8 {h:Hist} {j:Nat} (hj:j < h.evs.length) (hw:(h.evs[j].kind==2)=true):znf (h.evs.take (j+1))=zej (h.evs[j].t,h.evs[j].o) h.evs[j].v (znf (h.evs.take j)):=by
 rw [List.take_succ_eq_append_getElem hj,zdc,if_pos hw];rfl
theorem yg9 {h:Hist} {j:Nat} (hj:j < h.evs.length) (hw:(h.evs[j].kind==2)=false):znf (h.evs.take (j+1))=znf (h.evs.take j):=by
 rw [List.take_succ_eq_append_getElem hj,zdc,hw];rfl
theorem ybj {h:Hist} {t kd:Int} {k:Nat} {e:Ev} {r:Int} (ht:e.t=t) (hk:e.kind=kd) (hr:zsx h e.o e.v=some r):zk1 h t kd k e= [⟨e.o,r,k⟩]:=by
 rw [zk1,if_pos (by simp [ht,hk]),hr]
theorem zsn {h:Hist} {t kd:Int} {k:Nat} {e:Ev} (hn:¬(e.t=t∧e.kind=kd)):zk1 h t kd k e= []:=by
 rw [zk1,if_neg];intro q;rw [Bool.and_eq_true,beq_iff_eq,beq_iff_eq] at q;exact hn q
theorem ybk {h:Hist} {t kd:Int} {k:Nat} {e:Ev} (hr:zsx h e.o e.v=none):zk1 h t kd k e= []:=by
 rw [zk1];split
 ·rw [hr]
 ·rfl
theorem zij {h:Hist} {t kd:Int} {k:Nat} (hk:k < h.evs.length):znb h t kd (k+1)=znb h t kd k++zk1 h t kd k h.evs[k]:=by rw [znb,List.getElem?_eq_getElem hk]
theorem yaf (h:Hist) (t kd:Int) (k:Nat) (e:Ev):(zk1 h t kd k e).length≤1:=by
 rw [zk1];split
 ·split <;> simp
 ·simp
theorem ze2 (h:Hist) (t kd:Int):∀k,(znb h t kd k).length≤k
 |0=>Nat.le_refl _
 |k+1=>by
  have h1:=ze2 h t kd k
  rw [znb,List.length_append]
  split
  ·have h2:=yaf h t kd k
   rename_i e _
   have:=h2 e;omega
  ·simp;omega
theorem yio {h:Hist} {t kd:Int} {a:Acc} (ha:a∈zna h t kd):0≤a.o∧a.o < h.os.length:=by
 obtain ⟨k,hk,_,_,ho,_,hr⟩:=zxl ha
 by_cases q:((h.os.length:Nat):Int)≤h.evs[k].o∨h.evs[k].o < 0
 ·rw [zsx,zpo h _ _ _ q] at hr;cases hr
 ·rw [ho];omega
structure Dos where
 t:Int
 A:List Acc
 B:List Acc
abbrev zfw (l:List Acc):AV:= .list false 3 (l.map accR)
abbrev zao (d:Dos):List AV:= [iv d.t,zfw d.A,zfw d.B]
abbrev zcd (l:List Dos):AV:= .list false 3 (l.map zao)
def zom (h:Hist) (t:Int):Dos:=⟨t,zk6 h.os.length (zna h t 3),zk6 h.os.length (zna h t 2)⟩
def x9 (h:Hist) (s:Int):List Dos:=(za7 h.evs s).map (zom h)
def zb3 (h:Hist) (s:Int):Int:=zgv h s h.ss.length
def zzj (h:Hist) (s:Int):List Dos:=if zb3 h s=0 then x9 h s else []
theorem zmo (h:Hist) (s:Int):(za7 h.evs s).length≤h.evs.length:=by
 rw [za7,List.length_map];exact List.length_filter_le _ _
theorem ydq {h:Hist} {s:Int} (he:zb3 h s≠0):zzj h s= []:=if_neg he
theorem zqc {h:Hist} {s:Int} (he:zb3 h s=0):zzj h s=x9 h s:=if_pos he
instance:Chk3 Tryz.prog 139:=⟨fun e w a b c=>by kernel_rfl⟩
theorem yhb (h:Hist) (la:Lim 4611686018427387904 h) (hc:k8 h=0) (x:Int) (h0:0≤x) (h1:x < h.os.length):x3 Tryz.prog 75 [.agg (x5 h),iv x] (.glob 3 148 y8:: .glob 5 276 y9:: .glob 6 279 y4:: .glob 2 197 u0:: []) (fun r h'=>h'= .glob 3 148 y8:: .glob 5 276 y9:: .glob 6 279 y4:: .glob 2 197 u0:: []∧r= .tup [zel (zed h x),iv 0]):=(ya1 h la x).mono fun _ _ q=>⟨q.1,by rw [q.2,zq0 hc ⟨h0,h1⟩];rfl⟩
set_option maxHeartbeats 4000000 in
theorem zye (h:Hist) (la:Lim 4611686018427387904 h) (hc:k8 h=0):x3 Tryz.prog 117 [.agg (x5 h)] (.glob 3 148 y8:: .glob 5 276 y9:: .glob 6 279 y4:: .glob 2 197 u0:: []) (fun r h'=>∃rk,h'=rkS h rk:: .glob 3 148 y8:: .glob 5 276 y9:: .glob 6 279 y4:: .glob 2 197 u0:: []∧r=mpv rk):=by
 refine z6 Tryz.func117 rfl rfl rfl ?_
 have lA:=zkh hc
 have lO:=lA.os
 have lE:=lA.evs
 refine rn ?_;refine z7 rfl (x8 rfl rfl rfl fun b1=> ?_)
 refine rn ?_;refine z7 rfl (zas (enc:=zd8) rfl fun bO=> ?_)
 refine rn ?_;refine z7 rfl (zas (enc:=zc2) rfl fun bL=> ?_)
 refine rn ?_;refine za1 h.evs.length (fun _=>True) (fun j=>⟨[(17,iv j),(1,pZ b1),(3,mpv bO),(4,mpv bL),(15,zwh h.evs),(16,iv (h.evs.map evR).length)],.map bL (j7 zc2 (zbg zss (znf (h.evs.take j)))):: .map bO (j7 zd8 (zbg iv [])):: .box b1 28 (x5 h):: .glob 3 148 y8:: .glob 5 276 y9:: .glob 6 279 y4:: .glob 2 197 u0:: [],[]⟩) trivial es ?_
 intro j lj _
 refine rn ?_;refine y3 rfl (fun hc18=> ?_) (fun hc18=> ?_)
 ·have hj:=zd7 hc18
  have rj:=zcy (f:=evR) hj
  refine rn ?_;refine z7 rfl (x4 rfl fun b6=> ?_)
  refine rn ?_;refine y3 rfl (fun hc23=> ?_) (fun hc23=> ?_)
  ·have hw:(h.evs[j].kind==2)=true:=by simpa using hc23
   refine y6 ?_;refine q1 ?_;refine q1 ?_;refine q1 ?_;refine q1 ?_;refine q1 ?_;refine qq rfl rfl (zcb (out:= [iv h.evs[j].t,iv h.evs[j].o]) rfl (by rfl)) ?_
   refine rn ?_;refine z7 rfl (za5 (g:=zss) (enc:=zc2) (k:=(h.evs[j].t,h.evs[j].o)) (v:=h.evs[j].v) rfl rfl rfl ?_)
   refine rn ?_;exact ⟨hj,trivial,by rw [yg8 hj hw];exact eA⟩
  ·have hw:(h.evs[j].kind==2)=false:=by simpa using hc23
   refine rn ?_;exact ⟨hj,trivial,by rw [yg9 hj hw];exact eA⟩
 ·have qj:=zd9 hc18 lj
  subst qj
  rw [List.take_length]
  refine rn ?_;refine za1 h.os.length (fun _=>True) (fun k=>⟨[(36,iv k),(1,pZ b1),(3,mpv bO),(4,mpv bL),(35,iv (h.os.map zh0).length)],.map bL (j7 zc2 (zbg zss (znf h.evs))):: .map bO (j7 zd8 (zbg iv (rkM h k))):: .box b1 28 (x5 h):: .glob 3 148 y8:: .glob 5 276 y9:: .glob 6 279 y4:: .glob 2 197 u0:: [],[]⟩) trivial es ?_
  intro k lk _
  refine rn ?_;refine y3 rfl (fun hc37=> ?_) (fun hc37=> ?_)
  ·have hk:k < h.os.length:=by have q:=of_decide_eq_true hc37;rw [List.length_map] at q;omega
   have k0:(0:Int)≤(k:Int):=by omega
   have k1:(k:Int) < h.os.length:=by omega
   have hb:=yhh hc k0 k1
   refine zab ?_;refine k7 ?_;refine w6 ?_;refine zah ?_;refine w6 (y6 ?_)
   refine q1 ?_;refine q1 ?_;refine u5 (k7 ?_)
   refine w6 (y6 ?_)
   refine q1 ?_;refine q1 ?_;refine qq rfl rfl (j8 (out:= [iv k,iv 0,iv 0]) rfl (by rfl)) ?_
   refine z7 rfl (za5 (g:=iv) (enc:=zd8) (k:=((k:Int),(0:Int),(0:Int))) (v:=(0:Int)) rfl rfl rfl ?_)
   refine rn ?_;refine qv rfl rfl (y5 rfl rfl (z8.qt (z8.of_fun (yhb h la hc k k0 k1)) ((pt3 _ _ _ _ _).trans (.cons _ ((pt3 _ _ _ _ _).trans (.cons _ ((pt3 _ _ _ _ _).trans (.cons _ (pt3 _ _ _ _ _))))))))) ?_
   refine rn ?_;refine za1 (zed h k).length (fun _=>True) (fun j=>⟨[(50,iv j),(1,pZ b1),(3,mpv bO),(4,mpv bL),(7,iv k),(35,iv (h.os.map zh0).length),(36,iv k),(48,zel (zed h k)),(49,iv ((zed h k).map zde).length)],.map bL (j7 zc2 (zbg zss (znf h.evs))):: .map bO (j7 zd8 (zbg iv (zf6 h k 0 ((zed h k).take j) (zej (zo5 k ⟨0,0⟩) 0 (rkM h k))))):: .box b1 28 (x5 h):: .glob 3 148 y8:: .glob 5 276 y9:: .glob 6 279 y4:: .glob 2 197 u0:: [],[]⟩) trivial es ?_
   intro j lj _
   refine rn ?_;refine y3 rfl (fun hc51=> ?_) (fun hc51=> ?_)
   ·have hj:=zd7 hc51
    have rj:=zcy (f:=zde) hj
    refine zab ?_;refine k7 ?_;refine w6 ?_;refine zah ?_;refine w6 (y6 ?_)
    refine q1 ?_;refine q1 ?_;refine q1 ?_;refine q1 ?_;refine q1 ?_;refine u5 (k7 ?_)
    refine y6 ?_;refine q1 ?_;refine q1 ?_;refine q1 ?_;refine q1 ?_;refine q1 ?_;refine qq rfl rfl (zcb (out:= [iv (zed h k)[j],iv k]) rfl (by rfl)) ?_
    refine qq rfl rfl (za4 (zbt (g:=zss) (enc:=zc2) (k:=((zed h k)[j],(k:Int))) (⟨0,0⟩:Ver) rfl rfl) (show zss _=zss (zim h k (zed h k)[j]) from congrArg zss (yds h (zed h k)[j] k))) ?_
    refine qq rfl rfl (j8 (out:= [iv k,iv (zim h k (zed h k)[j]).t,iv (zim h k (zed h k)[j]).k]) rfl (by rfl)) ?_
    refine q1 ?_;refine qq rfl rfl (j6 rfl rfl rfl (by omega)) ?_
    refine z7 rfl (za5 (g:=iv) (enc:=zd8) (k:=((k:Int),(zim h k (zed h k)[j]).t,(zim h k (zed h k)[j]).k)) (v:=(j:Int)+1) rfl rfl rfl ?_)
    refine rn ?_;exact ⟨hj,trivial,by rw [ycp hj];exact eA⟩
   ·have qj:=zd9 hc51 lj
    rw [qj,List.take_length]
    refine rn ?_;exact ⟨hk,trivial,by rw [yjj,List.take_length];exact eA⟩
  ·have qk:k=h.os.length:=by have q:=of_decide_eq_false hc37;rw [List.length_map] at q;omega
   refine rn ?_;exact zad rfl (.trans (.perm (.cons _ (pt1 _ _ _)) _) (.drop [_,_] _ _)) ⟨bO,by rw [qk],rfl⟩
set_option maxHeartbeats 4000000 in
theorem yje (h:Hist) (la:Lim 4611686018427387904 h) (hc:k8 h=0) (t:Int) (rO:Nat) (W:List Res):x3 Tryz.prog 118 [.agg (x5 h),iv t,mpv rO] (rkS h rO::W) (fun r h'=>h'=rkS h rO::W∧r= .agg (zao (zom h t))):=by
 refine z6 Tryz.func118 rfl rfl rfl ?_
 have lA:=zkh hc
 have lO:=lA.os
 have lE:=lA.evs
 refine rn ?_;refine z7 rfl (x8 rfl rfl rfl fun b3=> ?_)
 refine z7 rfl (x4 rfl fun b6=> ?_)
 refine rn ?_;refine z7 rfl (x4 rfl fun b7=> ?_)
 refine rn ?_;refine zgs h.evs.length (fun _ (_:SV×SV)=>True) (fun k z=>⟨[(19,iv k),(1,iv t),(2,mpv rO),(6,pZ b6),(7,pZ b7),(17,zwh h.evs),(18,iv (h.evs.map evR).length)],.row z.1.v 3 178 ((znb h t 3 k).map accR):: .row z.2.v 3 178 ((znb h t 2 k).map accR):: .box b7 121 [iv t,.v z.1.v,.v z.2.v]:: .box b6 121 [iv 0,.v (.slice none 0 0),.v (.slice none 0 0)]:: .box b3 28 (x5 h)::rkS h rO::W,[]⟩) (⟨none,0,0⟩,⟨none,0,0⟩) trivial (v8 (zci 3 178) (v8 (zci 3 178) es)) ?_
 rintro k ⟨sR,sI⟩ lk -
 show aw _ _ _ _ _ ⟨[(19,iv k),(1,iv t),(2,mpv rO),(6,pZ b6),(7,pZ b7),(17,zwh h.evs),(18,iv (h.evs.map evR).length)],.row sR.v 3 178 ((znb h t 3 k).map accR):: .row sI.v 3 178 ((znb h t 2 k).map accR):: .box b7 121 [iv t,.v sR.v,.v sI.v]:: .box b6 121 [iv 0,.v (.slice none 0 0),.v (.slice none 0 0)]:: .box b3 28 (x5 h)::rkS h rO::W,[]⟩
 refine rn ?_;refine y3 rfl (fun hc20=> ?_) (fun hc20=> ?_)
 ·have hk:=zd7 hc20
  have rk:=zcy (f:=evR) hk
  refine rn ?_;refine z7 rfl (x4 rfl fun b9=> ?_)
  refine rn0 ?_;refine w6 ?_;refine ze7 (⟨[(37,bv (h.evs[k].t !=t||(h.evs[k].kind !=3 && h.evs[k].kind !=2))),(8,iv k),(9,pZ b9),(19,iv k),(1,iv t),(2,mpv rO),(6,pZ b6),(7,pZ b7),(17,zwh h.evs),(18,iv (h.evs.map evR).length)],.box b9 66 (evR h.evs[k]):: .row sR.v 3 178 ((znb h t 3 k).map accR):: .row sI.v 3 178 ((znb h t 2 k).map accR):: .box b7 121 [iv t,.v sR.v,.v sI.v]:: .box b6 121 [iv 0,.v (.slice none 0 0),.v (.slice none 0 0)]:: .box b3 28 (x5 h)::rkS h rO::W,[]⟩) ?_ ?_
  ·refine rn ?_;refine q9 (fun hg5_4=> ?_) (fun hg5_4=> ?_)
   ·refine rn ?_;first|(rw [hg5_4,Bool.true_or];exact eA)|(rw [hg5_4,Bool.false_or,hg5_8,Bool.true_and];exact eA)|(rw [hg5_4,Bool.false_or,hg5_8,Bool.false_and];exact eA)
   ·refine rn ?_;refine q9 (fun hg5_8=> ?_) (fun hg5_8=> ?_)
    ·refine rn ?_;first|(rw [hg5_4,Bool.true_or];exact eA)|(rw [hg5_4,Bool.false_or,hg5_8,Bool.true_and];exact eA)|(rw [hg5_4,Bool.false_or,hg5_8,Bool.false_and];exact eA)
    ·refine rn ?_;first|(rw [hg5_4,Bool.true_or];exact eA)|(rw [hg5_4,Bool.false_or,hg5_8,Bool.true_and];exact eA)|(rw [hg5_4,Bool.false_or,hg5_8,Bool.false_and];exact eA)
  ·refine y3 rfl (fun hc37=> ?_) (fun hc37=> ?_)
   ·have hn3:zk1 h t 3 k h.evs[k]= []:=zsn (by rintro ⟨e1,e2⟩;have q:=hc37;rw [e1,e2] at q;simp at q)
    have hn2:zk1 h t 2 k h.evs[k]= []:=zsn (by rintro ⟨e1,e2⟩;have q:=hc37;rw [e1,e2] at q;simp at q)
    refine rn ?_;exact ⟨hk,(sR,sI),trivial,by rw [zij hk,zij hk,hn3,hn2,List.append_nil,List.append_nil];exact eA⟩
   ·have q:=hc37
    rw [Bool.or_eq_false_iff,Bool.and_eq_false_iff] at q
    have ht:h.evs[k].t=t:=by simpa using q.1
    have hkk:h.evs[k].kind=3∨h.evs[k].kind=2:=by simpa using q.2
    refine zab ?_;refine k7 ?_;refine w6 (y6 ?_)
    refine q1 ?_;refine q1 ?_;refine q1 ?_;refine q1 ?_;refine q1 ?_;refine qq rfl rfl (j8 (out:= [iv h.evs[k].o,iv h.evs[k].v.t,iv h.evs[k].v.k]) rfl (by rfl)) ?_
    refine qq rfl rfl (znv (g:=iv) (enc:=zd8) (k:=(h.evs[k].o,h.evs[k].v.t,h.evs[k].v.k)) (0:Int) rfl rfl rfl) ?_
    refine q1 ?_;refine q1 ?_;refine q1 ?_;refine q1 ?_;refine q1 ?_;refine u5 (k7 ?_)
    refine w6 (y6 ?_)
    refine q1 ?_;refine q1 ?_;refine q1 ?_;refine q1 ?_;refine qq rfl rfl (j8 (out:= [iv h.evs[k].o,iv ((zbc (h.evs[k].o,h.evs[k].v.t,h.evs[k].v.k) (rkM h h.os.length)).getD 0),iv k]) rfl (by rfl)) ?_
    refine z7 rfl (x4 rfl fun b12=> ?_)
    refine rn ?_;refine y3 rfl (fun hc59=> ?_) (fun hc59=> ?_)
    ·have hr:zsx h h.evs[k].o h.evs[k].v=none:=by
      have q:(zbc (h.evs[k].o,h.evs[k].v.t,h.evs[k].v.k) (rkM h h.os.length)).isSome=false:=by simpa using hc59
      exact Option.isNone_iff_eq_none.1 (by rw [←Option.not_isSome];show (!(zbc (h.evs[k].o,h.evs[k].v.t,h.evs[k].v.k) (rkM h h.os.length)).isSome)=true;rw [q];rfl)
     have hn3:zk1 h t 3 k h.evs[k]= []:=ybk hr
     have hn2:zk1 h t 2 k h.evs[k]= []:=ybk hr
     refine rn ?_;exact ⟨hk,(sR,sI),trivial,by rw [zij hk,zij hk,hn3,hn2,List.append_nil,List.append_nil];exact eA⟩
    ·obtain ⟨r0,hr⟩:∃r,(zbc (h.evs[k].o,h.evs[k].v.t,h.evs[k].v.k) (rkM h h.os.length))=some r:=Option.isSome_iff_exists.1 (by simpa using hc59)
     have hr':zsx h h.evs[k].o h.evs[k].v=some r0:=hr
     rw [hr,Option.getD_some,Option.isSome_some]
     refine rn ?_;refine y3 rfl (fun hc62=> ?_) (fun hc62=> ?_)
     ·have h3:h.evs[k].kind=3:=by simpa using hc62
      have hn3:zk1 h t 3 k h.evs[k]= [⟨h.evs[k].o,r0,k⟩]:=ybj ht h3 hr'
      have hn2:zk1 h t 2 k h.evs[k]= []:=zsn (fun q=>by rw [h3] at q;exact absurd q.2 (by decide))
      refine rn ?_;refine qv rfl rfl (u1 rfl rfl) ?_
      refine z7 rfl (zaa rfl rfl (by simp only [List.length_map,List.length_cons,List.length_nil];have:=ze2 h t 3 k;omega) rfl (fun s70=> ?_) (fun r hr=>by rw [List.mem_singleton.1 hr];rfl))
      refine za8 s70 fun sv hsv=> ?_
      subst hsv
      refine rn ?_;exact ⟨hk,(sv,sI),trivial,by rw [zij hk,zij hk,hn3,hn2,List.append_nil,List.map_append];exact eA⟩
     ·have h3:h.evs[k].kind=2:=hkk.resolve_left (by simpa using hc62)
      have hn2:zk1 h t 2 k h.evs[k]= [⟨h.evs[k].o,r0,k⟩]:=ybj ht h3 hr'
      have hn3:zk1 h t 3 k h.evs[k]= []:=zsn (fun q=>by rw [h3] at q;exact absurd q.2 (by decide))
      refine rn ?_;refine qv rfl rfl (u1 rfl rfl) ?_
      refine z7 rfl (zaa rfl rfl (by simp only [List.length_map,List.length_cons,List.length_nil];have:=ze2 h t 2 k;omega) rfl (fun s57=> ?_) (fun r hr=>by rw [List.mem_singleton.1 hr];rfl))
      refine za8 s57 fun sv hsv=> ?_
      subst hsv
      refine rn ?_;exact ⟨hk,(sR,sv),trivial,by rw [zij hk,zij hk,hn3,hn2,List.append_nil,List.map_append];exact eA⟩
 ·have qk:=zd9 hc20 lk
  subst qk
  refine rn ?_;refine z7 rfl (w7 rfl rfl (zf4 (z8.of_fun (yfo sR h.os.length (zna h t 3) (fun a ha=>yio ha) (by omega) (by have:=ze2 h t 3 h.evs.length;show (znb h t 3 h.evs.length).length≤_;omega)))) rfl ?_)
  rintro _ _ ⟨rfl,rfl⟩
  refine rn ?_;refine z7 rfl (w7 rfl rfl (zf4 (z8.of_fun (yfo sI h.os.length (zna h t 2) (fun a ha=>yio ha) (by omega) (by have:=ze2 h t 2 h.evs.length;show (znb h t 2 h.evs.length).length≤_;omega)))) rfl ?_)
  rintro _ _ ⟨rfl,rfl⟩
  refine u5 (k7 ?_)
  refine w6 (y6 ?_)
  refine zjg (v8 (zae (.cons _ (pt1 _ _ _))) (v8 (zgh [iv t] [.v sI.v]) (v8 (zae (pt1 _ _ _)) (zgh [iv t,zfw (zk6 h.os.length (zna h t 3))] [])))) ?_
  refine rn ?_;exact zeh (.cons _ _ _ _ (.agg _ _ _ _ _ _ _ rfl inferInstance inferInstance inferInstance rfl) .nil) (.drop [_,_,_] _ _) ⟨rfl,rfl⟩
set_option maxHeartbeats 4000000 in
theorem zyf (h:Hist) (la:Lim 4611686018427387904 h) (s:Int):x3 Tryz.prog 65 [.agg (x5 h),iv s] (.glob 3 148 y8:: .glob 5 276 y9:: .glob 6 279 y4:: .glob 2 197 u0:: []) (fun r h'=>∃v:SV,h'= .row v.v 3 121 ((zzj h s).map zao):: .glob 3 148 y8:: .glob 5 276 y9:: .glob 6 279 y4:: .glob 2 197 u0:: []∧r= .tup [.v v.v,iv (zb3 h s)]):=by
 refine z6 Tryz.func65 rfl rfl rfl ?_
 refine rn ?_;refine z7 rfl (x8 rfl rfl rfl fun b2=> ?_)
 refine rn ?_;refine qv rfl rfl (y5 rfl rfl (z8.qt (z8.of_fun (ya0 h la s)) ((pt1 _ _ _).trans (.cons _ ((pt1 _ _ _).trans (.cons _ ((pt1 _ _ _).trans (.cons _ (pt1 _ _ _))))))))) ?_
 refine rn ?_;refine y3 rfl (fun hc19=> ?_) (fun hc19=> ?_)
 ·have he:zb3 h s≠0:=nzT hc19
  refine rn ?_;exact zbo rfl rfl (.trans (.drop [_] _ _) (zax 3 121 _)) ⟨⟨none,0,0⟩,by rw [ydq he];rfl,rfl⟩
 ·have he:zb3 h s=0:=nzF hc19
  have hc:k8 h=0:=zcv.2 (zm8 he).1
  have lE:=(zkh hc).evs
  have lL:=zmo h s
  rw [show onE (zgv h s h.ss.length) (za7 h.evs s)=(za7 h.evs s) by rw [show zgv h s h.ss.length=0 from he,onE,if_pos rfl]]
  refine rn ?_;refine z7 rfl (w7 rfl rfl (z8.fr1 (z8.of_fun (zye h la hc))) rfl ?_)
  rintro _ _ ⟨_,rfl,rO,rfl,rfl⟩
  refine rn ?_;refine zqx (za7 h.evs s).length (fun k v=>⟨[(25,iv k),(9,.v v.v),(2,pZ b2),(8,mpv rO),(23,zel (za7 h.evs s)),(24,iv ((za7 h.evs s).map zde).length)],.row v.v 3 121 ((((za7 h.evs s).take k).map (zom h)).map zao):: .box b2 28 (x5 h)::rkS h rO:: .glob 3 148 y8:: .glob 5 276 y9:: .glob 6 279 y4:: .glob 2 197 u0:: [],[]⟩) ⟨none,0,0⟩ (v8 (zci 3 121) es) ?_
  intro k v lk
  refine rn ?_;refine y3 rfl (fun hc26=> ?_) (fun hc26=> ?_)
  ·have hk:=zd7 hc26
   have rk:=zcy (f:=zde) hk
   refine rn ?_;refine qv rfl rfl (y5 rfl rfl (z8.qt (z8.of_fun (yje h la hc (za7 h.evs s)[k] rO [])) (pt2 _ _ _ _))) ?_
   refine qv rfl rfl (u1 rfl rfl) ?_
   refine z7 rfl (zaa rfl rfl (by simp only [List.length_map,List.length_cons,List.length_nil];have:=List.length_take_le k (za7 h.evs s);omega) rfl (fun s35=> ?_) (fun r hr=>by rw [List.mem_singleton.1 hr];rfl))
   refine za8 s35 fun sv hsv=> ?_
   subst hsv
   refine rn ?_;exact ⟨hk,sv,by rw [List.take_succ_eq_append_getElem hk,List.map_append,List.map_append];exact eA⟩
  ·have qk:=zd9 hc26 lk
   subst qk
   rw [List.take_length]
   refine rn ?_;exact zbo rfl rfl (.trans (.perm ((pt1 _ _ _).trans (.cons _ (pt1 _ _ _))) _) (.drop [_,_] _ _)) ⟨v,by rw [zqc he];rfl,by rw [he];rfl⟩
theorem zue (h:Hist) (la:Lim 4611686018427387904 h) (s:Int):x3 Tryz.prog 65 [.agg (x5 h),iv s] (.glob 3 148 y8:: .glob 5 276 y9:: .glob 6 279 y4:: .glob 2 197 u0:: []) (fun r h'=>h'= .glob 3 148 y8:: .glob 5 276 y9:: .glob 6 279 y4:: .glob 2 197 u0:: []∧r= .tup [zcd (zzj h s),iv (zb3 h s)]):=(zyf h la s).ventR (by rintro _ _ ⟨v,rfl,rfl⟩;exact ⟨_,_,za3 [] [_],rfl,rfl⟩)
abbrev zzx:AV:= .fn (.func 244) [] []
abbrev zzw:AV:= .fn (.func 248) [] []
def x6:List AV:= [iv 1,zzx,zzw,iv 2,zzw,zzw,iv 4,zzx,zzx,iv 8,zzw,zzx]
def zfa (k:Nat):Int:=if k=0 then 1 else if k=1 then 2 else if k=2 then 4 else 8
def gFn (k:Nat):Nat:=if k=0∨k=2 then 244 else 248
def gSn (k:Nat):Nat:=if k=0∨k=1 then 248 else 244
abbrev yi2 (k:Nat):AV:= .fn (.func (gFn k)) [] []
abbrev yi1 (k:Nat):AV:= .fn (.func (gSn k)) [] []
abbrev zr6 (k:Nat):List AV:= [iv (zfa k),yi2 k,yi1 k]
theorem yec {k:Nat} (hk:k < 4):(x6.drop (k * 3)).take 3=zr6 k:=by
 rcases (by omega:k=0∨k=1∨k=2∨k=3) with rfl|rfl|rfl|rfl <;> rfl
def zct (k:Nat) (d:Dos):List Acc:=if k=0∨k=2 then d.B else d.A
def zfy (k:Nat) (d:Dos):List Acc:=if k=0∨k=1 then d.A else d.B
def giK (g:Int):Nat→Int
 |0=> -1
 |k+1=>if zfa k=g then (k:Int) else giK g k
def zk0 (g:Int):Int:=if g=1 then 0 else if g=2 then 1 else if g=4 then 2 else if g=8 then 3 else -1
theorem ylv (g:Int):giK g 4=zk0 g:=by
 simp only [giK,zfa,zk0]
 by_cases h1:g=1
 ·subst h1;decide
 by_cases h2:g=2
 ·subst h2;decide
 by_cases h3:g=4
 ·subst h3;decide
 by_cases h4:g=8
 ·subst h4;decide
 simp [h1,h2,h3,h4,Ne.symm h1,Ne.symm h2,Ne.symm h3,Ne.symm h4]
theorem yhn {g:Int} (h:¬zk0 g < 0):∃k,k < 4∧zk0 g=(k:Nat)∧zfa k=g:=by
 rw [zk0] at h ⊢
 split
 ·exact ⟨0,by decide,rfl,by rename_i e;rw [e];rfl⟩
 ·split
  ·exact ⟨1,by decide,rfl,by rename_i e;rw [e];rfl⟩
  ·split
   ·exact ⟨2,by decide,rfl,by rename_i e;rw [e];rfl⟩
   ·split
    ·exact ⟨3,by decide,rfl,by rename_i e;rw [e];rfl⟩
    ·exfalso;simp_all
def zep (h:Hist) (s g:Int):Int:=if zb3 h s≠0 then zb3 h s else if zk0 g < 0 then 2 else 0
def ybg (h:Hist) (s g:Int):List Dos:=if zep h s g=0 then x9 h s else []
def ybh (h:Hist) (s g:Int):Int:=if zep h s g=0 then zk0 g else 0
theorem zko {h:Hist} {s g:Int} (he:zb3 h s≠0):zep h s g=zb3 h s∧ybg h s g= []∧ybh h s g=0:=by
 have:zep h s g=zb3 h s:=if_pos he
 exact ⟨this,by rw [ybg,this,if_neg he],by rw [ybh,this,if_neg he]⟩
theorem zm9 {h:Hist} {s g:Int} (he:zb3 h s=0) (hg:zk0 g < 0):zep h s g=2∧ybg h s g= []∧ybh h s g=0:=by
 have:zep h s g=2:=by rw [zep,if_neg (by simpa using he),if_pos hg]
 exact ⟨this,by rw [ybg,this,if_neg (by decide)],by rw [ybh,this,if_neg (by decide)]⟩
theorem zgw {h:Hist} {s g:Int} (he:zb3 h s=0) (hg:¬zk0 g < 0):zep h s g=0∧ybg h s g=x9 h s∧ybh h s g=zk0 g:=by
 have:zep h s g=0:=by rw [zep,if_neg (by simpa using he),if_neg hg]
 exact ⟨this,by rw [ybg,this,if_pos rfl],by rw [ybh,this,if_pos rfl]⟩
def zft (k:Nat) (e l:Dos):List Brch:=(zct k e).flatMap fun a=>(zfy k l).filterMap (brk (zfa k) e.t l.t a)
theorem ykr {g t1 t2:Int} {a b:Acc} (h1:(a.o==b.o)=true) (h2:decide (b.r < a.r)=true):brk g t1 t2 a b=some ⟨g,t1,t2,a.o,a.a,b.a⟩:=by rw [brk,h1,h2];rfl
theorem zwy {g t1 t2:Int} {a b:Acc} (h1:(a.o==b.o)=false):brk g t1 t2 a b=none:=by rw [brk,h1];rfl
theorem zwx {g t1 t2:Int} {a b:Acc} (h2:decide (b.r < a.r)=false):brk g t1 t2 a b=none:=by rw [brk,h2,Bool.and_false];rfl
theorem yeg {α β:Type} {f:α→Option β} {l:List α} {k:Nat} {b:β} (hk:k < l.length) (h:f l[k]=some b):(l.take (k+1)).filterMap f=(l.take k).filterMap f++ [b]:=by
 rw [List.take_succ_eq_append_getElem hk,List.filterMap_append];simp [h]
theorem zwb {α β:Type} {f:α→Option β} {l:List α} {k:Nat} (hk:k < l.length) (h:f l[k]=none):(l.take (k+1)).filterMap f=(l.take k).filterMap f:=by
 rw [List.take_succ_eq_append_getElem hk,List.filterMap_append];simp [h]
def zqw (k:Nat) (e l:Dos) (i:Nat):List Brch:=((zct k e).take i).flatMap fun a=>(zfy k l).filterMap (brk (zfa k) e.t l.t a)
theorem yie {k i:Nat} {e l:Dos} (hi:i < (zct k e).length):zqw k e l (i+1)=zqw k e l i++(zfy k l).filterMap (brk (zfa k) e.t l.t (zct k e)[i]):=by
 rw [zqw,List.take_succ_eq_append_getElem hi,List.flatMap_append];simp [zqw]
theorem yev {k i j:Nat} {e l:Dos} {d:Brch} (hi:i < (zct k e).length) (hj:j < (zfy k l).length) (hd:brk (zfa k) e.t l.t (zct k e)[i] (zfy k l)[j]=some d):
 ∃rest,zft k e l=(zqw k e l i++((zfy k l).take j).filterMap (brk (zfa k) e.t l.t (zct k e)[i]))++d::rest:=by
 have e1:(zfy k l).filterMap (brk (zfa k) e.t l.t (zct k e)[i])=((zfy k l).take j).filterMap (brk (zfa k) e.t l.t (zct k e)[i])++d::((zfy k l).drop (j+1)).filterMap (brk (zfa k) e.t l.t (zct k e)[i]):=by
  conv=>lhs;rw [←List.take_append_drop j (zfy k l),List.drop_eq_getElem_cons hj]
  rw [List.filterMap_append,List.filterMap_cons,hd]
 refine ⟨((zfy k l).drop (j+1)).filterMap (brk (zfa k) e.t l.t (zct k e)[i])++((zct k e).drop (i+1)).flatMap (fun a=>(zfy k l).filterMap (brk (zfa k) e.t l.t a)),?_⟩
 rw [zft]
 conv=>lhs;rw [←List.take_append_drop i (zct k e),List.drop_eq_getElem_cons hi]
 rw [List.flatMap_append,List.flatMap_cons,e1,zqw]
 simp [List.append_assoc]
theorem zuf (d:Dos):x3 Tryz.prog 244 [.agg (zao d)] [] (fun r h'=>h'= []∧r=zfw d.B):=by
 refine z6 Tryz.func244 rfl rfl rfl ?_
 refine rn ?_;refine z7 rfl (x8 rfl rfl rfl fun b1=> ?_)
 refine rn ?_;refine rq 1 ?_
 exact ⟨rfl,rfl⟩
theorem zuc (d:Dos):x3 Tryz.prog 248 [.agg (zao d)] [] (fun r h'=>h'= []∧r=zfw d.A):=by
 refine z6 Tryz.func248 rfl rfl rfl ?_
 refine rn ?_;refine z7 rfl (x8 rfl rfl rfl fun b1=> ?_)
 refine rn ?_;refine rq 1 ?_
 exact ⟨rfl,rfl⟩
theorem zr7 (k:Nat) (d:Dos):z8 Tryz.prog (yi2 k) [.agg (zao d)] [] (fun r h'=>h'= []∧r=zfw (zct k d)):=by
 rw [yi2,gFn,zct];split
 ·exact z8.of_fun (zuf d)
 ·exact z8.of_fun (zuc d)
theorem zri (k:Nat) (d:Dos):z8 Tryz.prog (yi1 k) [.agg (zao d)] [] (fun r h'=>h'= []∧r=zfw (zfy k d)):=by
 rw [yi1,gSn,zfy];split
 ·exact z8.of_fun (zuc d)
 ·exact z8.of_fun (zuf d)
set_option maxHeartbeats 4000000 in
theorem zl9 (h:Hist) (la:Lim 4611686018427387904 h) (s g:Int):x3 Tryz.prog 58 [.agg (x5 h),iv s,iv g] (.glob 0 117 x6:: .glob 3 148 y8:: .glob 5 276 y9:: .glob 6 279 y4:: .glob 2 197 u0:: []) (fun r h'=>h'= .glob 0 117 x6:: .glob 3 148 y8:: .glob 5 276 y9:: .glob 6 279 y4:: .glob 2 197 u0:: []∧r= .tup [zcd (ybg h s g),iv (ybh h s g),iv (zep h s g)]):=by
 refine z6 Tryz.func58 rfl rfl rfl ?_
 refine rn ?_;refine z7 rfl (x8 rfl rfl rfl fun b3=> ?_)
 refine rn ?_;refine za1 4 (fun _=>True) (fun k=>⟨[(15,iv (k:Nat)),(9,iv (giK g k)),(1,iv s),(2,iv g),(3,pZ b3),(14,.agg x6)],.box b3 28 (x5 h):: .glob 0 117 x6:: .glob 3 148 y8:: .glob 5 276 y9:: .glob 6 279 y4:: .glob 2 197 u0:: [],[]⟩) trivial es ?_
 intro k lk _
 refine rn ?_;refine y3 rfl (fun hc16=> ?_) (fun hc16=> ?_)
 ·have hk:k < 4:=by have q:=of_decide_eq_true hc16;omega
  refine zab ?_;refine k7 ?_;refine w6 ?_;refine zah ?_;refine w6 (y6 ?_)
  refine q1 ?_;refine qq rfl rfl (ze4 (i:=k) (out:=zr6 k) rfl rfl hk (by show k * 3+3≤12;omega) (yec hk)) ?_
  refine z7 rfl (x4 rfl fun b11=> ?_)
  refine rn ?_;refine y3 rfl (fun hc22=> ?_) (fun hc22=> ?_)
  ·have hg:zfa k=g:=by simpa using hc22
   refine rn ?_;exact ⟨hk,trivial,by rw [giK,if_pos hg];exact eA⟩
  ·have hg:¬zfa k=g:=by simpa using hc22
   refine rn ?_;exact ⟨hk,trivial,by rw [giK,if_neg hg];exact eA⟩
 ·have qk:k=4:=by have q:=of_decide_eq_false hc16;omega
  subst qk
  rw [ylv]
  refine rn ?_;refine qv rfl rfl (y5 rfl rfl (z8.qt (z8.of_fun (zue h la s)) ((pt2 _ _ _ _).trans (.cons _ ((pt2 _ _ _ _).trans (.cons _ ((pt2 _ _ _ _).trans (.cons _ (pt2 _ _ _ _))))))))) ?_
  refine rn ?_;refine y3 rfl (fun hc31=> ?_) (fun hc31=> ?_)
  ·have he:zb3 h s≠0:=nzT hc31
   refine rn ?_;exact zeh (.cons _ _ _ _ (.tmp _ _ rfl) (.cons _ _ _ _ (.tmp _ _ rfl) (.cons _ _ _ _ (.tmp _ _ rfl) .nil))) (.trans (.drop [_] _ _) (.trans (zax 3 121 _) (za3 [] [_,_]))) ⟨rfl,by rw [(zko (g:=g) he).1,(zko (g:=g) he).2.1,(zko (g:=g) he).2.2];rfl⟩
  ·have he:zb3 h s=0:=nzF hc31
   refine rn ?_;refine y3 rfl (fun hc35=> ?_) (fun hc35=> ?_)
   ·have hg:zk0 g < 0:=of_decide_eq_true hc35
    refine rn ?_;exact zeh (.cons _ _ _ _ (.tmp _ _ rfl) (.cons _ _ _ _ (.tmp _ _ rfl) (.cons _ _ _ _ (.tmp _ _ rfl) .nil))) (.trans (.drop [_] _ _) (.trans (zax 3 121 _) (za3 [] [_,_]))) ⟨rfl,by rw [(zm9 he hg).1,(zm9 he hg).2.1,(zm9 he hg).2.2];rfl⟩
   ·have hg:¬zk0 g < 0:=of_decide_eq_false hc35
    refine rn ?_;exact zeh (.cons _ _ _ _ (.tmp _ _ rfl) (.cons _ _ _ _ (.tmp _ _ rfl) (.cons _ _ _ _ (.tmp _ _ rfl) .nil))) (.drop [_] _ _) ⟨rfl,by rw [(zgw he hg).1,(zgw he hg).2.1,(zgw he hg).2.2,zqc he];rfl⟩
theorem zuj (k:Nat) (e l:Dos) (W:List Res):x3 Tryz.prog 69 [iv (k:Int),.agg (zao e),.agg (zao l)] W (fun r h'=>∃bi be bl,h'= .box bl 121 (zao l):: .box be 121 (zao e):: .box bi 3 [iv (k:Int)]::W∧r= .fn (.func 119) [] [pZ bi,pZ bl,pZ be]):=by
 refine z6 Tryz.func69 rfl rfl rfl ?_
 refine rn ?_;refine z7 rfl (x8 rfl rfl rfl fun b3=> ?_)
 refine z7 rfl (x8 rfl rfl rfl fun b4=> ?_)
 refine z7 rfl (x8 rfl rfl rfl fun b5=> ?_)
 refine rn ?_;exact zad rfl (.refl _ _) ⟨_,_,_,rfl,rfl⟩
set_option maxHeartbeats 4000000 in
theorem zui (k:Nat) (hk:k < 4) (e l:Dos) (h1:(zct k e).length≤1000000) (h2:(zfy k l).length≤1000000) (y:AV) (bi be bl:Nat) {σ:Type} (p:List Brch→σ→Prop) (q:σ→Prop) (I:List Brch→σ→List Res) (X:σ→List Res) (x0:σ) (hp0:p [] x0) (hy:∀pre d rest x,(zft k e l)=pre++d::rest→p pre x→z8 Tryz.prog y [.agg (zbw d)] (.box bl 121 (zao l):: .box be 121 (zao e):: .box bi 3 [iv ((k:Nat):Int)]:: .glob 0 117 x6::I pre x) (fun r h'=>∃x',(r=bv true∧p (pre++ [d]) x'∧h'= .box bl 121 (zao l):: .box be 121 (zao e):: .box bi 3 [iv ((k:Nat):Int)]:: .glob 0 117 x6::I (pre++ [d]) x')∨(r=bv false∧q x'∧h'= .box bl 121 (zao l):: .box be 121 (zao e):: .box bi 3 [iv ((k:Nat):Int)]:: .glob 0 117 x6::X x'))):x3 Tryz.prog 119 [y,pZ bi,pZ bl,pZ be] (.box bl 121 (zao l):: .box be 121 (zao e):: .box bi 3 [iv ((k:Nat):Int)]:: .glob 0 117 x6::I [] x0) (fun r h'=>∃x,(p (zft k e l) x∧h'= .box bl 121 (zao l):: .box be 121 (zao e):: .box bi 3 [iv ((k:Nat):Int)]:: .glob 0 117 x6::I (zft k e l) x)∨(q x∧h'= .box bl 121 (zao l):: .box be 121 (zao e):: .box bi 3 [iv ((k:Nat):Int)]:: .glob 0 117 x6::X x)):=by
 refine z6 Tryz.func119 rfl rfl rfl ?_
 refine w6 (y6 ?_)
 refine q1 ?_;refine qq rfl rfl (u7 (i:=k) rfl rfl (by omega)) ?_
 refine qq rfl rfl (za4 (zgl rfl (by show 0+k * 3+3≤12;omega)) (show AV.agg _=AV.agg (zr6 k) from congrArg AV.agg (by rw [Nat.zero_add];exact yec hk))) ?_
 refine z7 rfl (x4 rfl fun b5=> ?_)
 refine rn ?_;refine qv rfl rfl (y5 rfl rfl (z8.pure (R:=fun r=>r=zfw (zfy k l)) (zri k l))) ?_
 refine rn ?_;refine qv rfl rfl (y5 rfl rfl (z8.pure (R:=fun r=>r=zfw (zct k e)) (zr7 k e))) ?_
 refine rn ?_;refine zgs (zct k e).length (fun i (x:σ)=>p (zqw k e l i) x) (fun i x=>⟨[(23,iv i),(0,y),(2,pZ bl),(3,pZ be),(5,pZ b5),(6,zfw (zfy k l)),(21,zfw (zct k e)),(22,iv ((zct k e).map accR).length)],.box b5 116 (zr6 k):: .box bl 121 (zao l):: .box be 121 (zao e):: .box bi 3 [iv ((k:Nat):Int)]:: .glob 0 117 x6::I (zqw k e l i) x,[]⟩) x0 hp0 es ?_
 intro i x li zi
 refine rn ?_;refine y3 rfl (fun hc24=> ?_) (fun hc24=> ?_)
 ·have hi:=zd7 hc24
  have ri:=zcy (f:=accR) hi
  refine rn ?_;refine z7 rfl (x4 rfl fun b8=> ?_)
  refine rn ?_;refine zgs (zfy k l).length (fun j (x:σ)=>p ((zqw k e l i)++((zfy k l).take j).filterMap (brk (zfa k) e.t l.t (zct k e)[i])) x) (fun j x=>⟨[(29,iv j),(0,y),(2,pZ bl),(3,pZ be),(5,pZ b5),(6,zfw (zfy k l)),(8,pZ b8),(21,zfw (zct k e)),(22,iv ((zct k e).map accR).length),(23,iv i),(27,zfw (zfy k l)),(28,iv ((zfy k l).map accR).length)],.box b8 178 (accR (zct k e)[i]):: .box b5 116 (zr6 k):: .box bl 121 (zao l):: .box be 121 (zao e):: .box bi 3 [iv ((k:Nat):Int)]:: .glob 0 117 x6::I ((zqw k e l i)++((zfy k l).take j).filterMap (brk (zfa k) e.t l.t (zct k e)[i])) x,[]⟩) x (by simpa using zi) (by simpa using eA) ?_
  intro j x lj zj
  refine rn ?_;refine y3 rfl (fun hc30=> ?_) (fun hc30=> ?_)
  ·have hj:=zd7 hc30
   have rj:=zcy (f:=accR) hj
   refine rn ?_;refine z7 rfl (x4 rfl fun b10=> ?_)
   refine rn ?_;refine q9 (fun hg8_5=> ?_) (fun hg8_5=> ?_)
   ·refine rn ?_;refine q9 (fun hg8_12=> ?_) (fun hg8_12=> ?_)
    ·refine q1 ?_;refine q1 ?_;refine q1 ?_;refine q1 ?_;refine q1 ?_;refine q1 ?_;refine q1 ?_;refine q1 ?_;refine q1 ?_;refine q1 ?_;refine q1 ?_;refine q1 ?_;refine q1 ?_;refine qq rfl rfl (j8 (out:= [iv (zfa k),iv e.t,iv l.t,iv (zct k e)[i].o,iv (zct k e)[i].a,iv (zfy k l)[j].a]) rfl (by rfl)) ?_
     have hbk:=ykr (g:=zfa k) (t1:=e.t) (t2:=l.t) hg8_5 hg8_12
     obtain ⟨rest,hL⟩:=yev hi hj hbk
     refine z7 rfl (w7 rfl rfl (z8.fr3 (hy ((zqw k e l i)++((zfy k l).take j).filterMap (brk (zfa k) e.t l.t (zct k e)[i])) _ rest x hL zj)) rfl ?_)
     rintro _ _ ⟨_,rfl,x',⟨rfl,hp',rfl⟩|⟨rfl,hq',rfl⟩⟩
     ·refine rn ?_;refine y3 rfl (fun hc62=> ?_) (fun hc62=> ?_)
      ·first|cases hc62|exact absurd hc62 (by decide)|(exfalso;simp_all;done)
      ·refine rn ?_;exact ⟨hj,x',by rw [yeg hj hbk,←List.append_assoc];exact hp',by rw [yeg hj hbk,←List.append_assoc];exact eA⟩
     ·refine rn ?_;refine y3 rfl (fun hc62=> ?_) (fun hc62=> ?_)
      ·refine rn ?_;exact zeh .nil (.drop [_,_,_] _ _) ⟨x',.inr ⟨hq',rfl⟩⟩
      ·first|cases hc62|exact absurd hc62 (by decide)|(exfalso;simp_all;done)
    ·refine rn ?_;refine zqy rfl ?_;refine rn ?_;exact ⟨hj,x,by rw [zwb hj (zwx hg8_12)];exact zj,by rw [zwb hj (zwx hg8_12)];exact eA⟩
   ·refine rn ?_;refine zqy rfl ?_;refine rn ?_;exact ⟨hj,x,by rw [zwb hj (zwy hg8_5)];exact zj,by rw [zwb hj (zwy hg8_5)];exact eA⟩
  ·have qj:=zd9 hc30 lj
   refine rn ?_;have e1:((zqw k e l i)++((zfy k l).take j).filterMap (brk (zfa k) e.t l.t (zct k e)[i]))=(zqw k e l (i+1)):=by rw [yie hi,qj,List.take_length]
   exact ⟨hi,x,by rw [←e1];exact zj,by rw [←e1];exact eA⟩
 ·have qi:=zd9 hc24 li
  refine rn ?_;have e1:(zqw k e l i)=(zft k e l):=by rw [qi,zqw,List.take_length];rfl
  exact zdz .nil (.drop [_] _ _) ⟨x,.inl ⟨by rw [←e1];exact zi,by rw [←e1]⟩⟩
end Go.Proofs
set_option maxRecDepth 100000
namespace Go.Proofs.YtcaijocpofcbdaaGreatDoor
open Go Go.Ab Go.H Go.ChangeShapes Go.WideShapes Go.ChangeAt Go.RowKit
def zmp:List (String×DataW Unit):= [("unicode/utf8.acceptRanges",Rows.laid_unicode_utf8_acceptRanges),("yardarm/history.limits",Rows.laid_yardarm_history_limits),("yardarm/rules.asks",Rows.laid_yardarm_rules_asks),("yardarm/session.guards",Rows.laid_yardarm_session_guards),("unicode/utf8.first",Rows.laid_unicode_utf8_first)]
theorem zr2:(zmp.filter fun x=>x.2.handleName?.isNone)=zqg:=by kernel_rfl
theorem zzn {W:World} (h:laidMetH Tryz.prog zmp W):laidMet Tryz.prog zqg W:=by
 have:=(laidMetH_iff.1 h).1
 rw [zr2] at this
 exact this
theorem yhl {w:World} (h:laidMetH Tryz.prog zmp w):(Res.glob 2 197 u0).holds w noX:=by
 obtain ⟨g,t,cs,fuel,p,hg,ht,hv,hd⟩:=h.funcs (n:= "yardarm/rules.asks") (d:=yez) (.tail _ (.tail _ (.head _)))
 obtain rfl:=Option.some.inj ((show Tryz.prog.globalNamed "yardarm/rules.asks" =some 2 by kernel_rfl).symm.trans hg)
 obtain rfl:=Option.some.inj ((show (Tryz.prog.globals[2]?).map (·.type)=some 197 by kernel_rfl).symm.trans ht)
 rw [zw8] at hd
 have c1:Tryz.prog.cellsOf 196=1:=by kernel_rfl
 have c11:Tryz.prog.cellsOf 197=11:=by kernel_rfl
 have hlen:cs.toList.length=11:=by
  obtain ⟨_,_,_,_,hl,_⟩:=DataW.trod_array Tryz.underlying197 hd
  rw [hl,c11]
 unfold World.var? at hv
 rw [hg] at hv
 simp only [Option.bind_some] at hv
 split at hv
 ·rename_i c T0 fr hh
  cases hv
  refine zr3 hh (by rw [show u0.length=11 from rfl];simpa using hlen.symm) fun j h1 h2=> ?_
  cases j with
  |zero=>exact .any _
  |succ k=>
   have hk:k < 10:=by have:u0.length=11:=rfl;omega
   obtain ⟨b,r,hn,hone,ha⟩:=yaa k hk
   obtain ⟨f',d,q,e1,e2⟩:=Lib.array_elem Tryz.underlying197 hd (k+1) (by omega)
   have e1':d= .held (b::r):=by
    rw [List.getElem?_cons_succ,List.getElem?_map,List.getElem?_drop,Nat.add_comm 1 k,hn] at e1
    exact (Option.some.inj e1).symm
   subst e1'
   rw [c1,Nat.mul_one,List.drop_eq_getElem_cons (by simpa using h2),List.take_succ_cons,List.take_zero] at e2
   have:=func_of_trod (f0:=fnA.getD k 0) Tryz.underlying196 hone e2
   rw [Array.getElem_toList] at this
   rw [this,show u0[k+1]= .fn (.func (fnA.getD k 0)) [] [] from Option.some.inj ((List.getElem?_eq_getElem h1).symm.trans ha)]
   exact zhc _ _
 ·cases hv
def nmI:List UInt8:= [121,97,114,100,97,114,109,47,115,101,115,115,105,111,110,46,100,111,105,110,103,115,41,46,105,110,115,116,97,108,108]
def nmR:List UInt8:= [121,97,114,100,97,114,109,47,115,101,115,115,105,111,110,46,100,111,105,110,103,115,41,46,114,101,97,100]
def yk3:DataW Unit:=match (Rows.laid_yardarm_session_guards:DataW Unit) with| .iface _ d=>d|d=>d
theorem zzt:yk3.funcsOut= .agg [.agg [.lit (.int .i64 1),.held (40::nmI),.held (40::nmR)],.agg [.lit (.int .i64 2),.held (40::nmR),.held (40::nmR)],.agg [.lit (.int .i64 4),.held (40::nmI),.held (40::nmI)],.agg [.lit (.int .i64 8),.held (40::nmR),.held (40::nmI)]]:=by kernel_rfl
theorem yiz:((List.range Tryz.prog.funcs.size).filter fun f=>(Tryz.prog.funcs[f]?).any (·.name.toUTF8.data.toList==40::nmI))= [244]:=by kernel_rfl
theorem yiy:((List.range Tryz.prog.funcs.size).filter fun f=>(Tryz.prog.funcs[f]?).any (·.name.toUTF8.data.toList==40::nmR))= [248]:=by kernel_rfl
theorem zmu {w:World} {base:Nat} {sp:Nat→Bool} {fuel:Nat} {cs:List Value} {z:Int} {r1 r2:List UInt8} {f1 f2:FuncId} {q:List MemPlace} (h1:((List.range Tryz.prog.funcs.size).filter fun f=>(Tryz.prog.funcs[f]?).any (·.name.toUTF8.data.toList==40::r1))= [f1]) (h2:((List.range Tryz.prog.funcs.size).filter fun f=>(Tryz.prog.funcs[f]?).any (·.name.toUTF8.data.toList==40::r2))= [f2])
 (h:DataW.trod (funcToken Tryz.prog) Tryz.prog w base sp true fuel 116 cs=some (.agg [.lit (.int .i64 z),.held (40::r1),.held (40::r2)],q)):cs= [.int .i64 z,.func (.func f1) #[] #[],.func (.func f2) #[] #[]]:=by
 obtain ⟨xs,n,_,hx,hl,hlen,hf⟩:=DataW.trod_struct Tryz.underlying116 h
 rw [show Tryz.prog.cellsOf 116=3 by kernel_rfl] at hl
 match xs,hlen with
 | [y0,y1,y2],_=>
   have hx:=congrArg Prod.fst hx
   simp only [List.map_cons,List.map_nil,DataW.agg.injEq,List.cons.injEq,and_true] at hx
   obtain ⟨x0,x1,x2⟩:=hx
   match cs,hl,hf with
   | [v0,v1,v2],_,hf=>
     have f0:DataW.trod (funcToken Tryz.prog) Tryz.prog w base sp true n 3 (([v0,v1,v2].drop 0).take (Tryz.prog.cellsOf 3))= [y0,y1,y2][0]? :=hf 0 _ rfl
     have f1':DataW.trod (funcToken Tryz.prog) Tryz.prog w base sp true n 115 (([v0,v1,v2].drop 1).take (Tryz.prog.cellsOf 115))= [y0,y1,y2][1]? :=hf 1 _ rfl
     have f2':DataW.trod (funcToken Tryz.prog) Tryz.prog w base sp true n 115 (([v0,v1,v2].drop 2).take (Tryz.prog.cellsOf 115))= [y0,y1,y2][2]? :=hf 2 _ rfl
     rw [show Tryz.prog.cellsOf 3=1 by kernel_rfl] at f0
     rw [show Tryz.prog.cellsOf 115=1 by kernel_rfl] at f1' f2'
     simp only [List.drop_zero,List.drop_succ_cons,List.take_succ_cons,List.take_zero,List.getElem?_cons_zero,List.getElem?_cons_succ] at f0 f1' f2'
     obtain ⟨z',e0,ey,_⟩:=DataW.trod_int Tryz.underlying3 f0
     rw [ey] at x0
     simp only [DataW.lit.injEq,Lit.int.injEq,true_and] at x0
     subst x0
     simp only [List.cons.injEq,and_true] at e0
     rw [e0,func_of_trod (v:=v1) (f0:=f1) Tryz.underlying115 h1 (q:=y1.2) (by rw [x1];exact f1'),func_of_trod (v:=v2) (f0:=f2) Tryz.underlying115 h2 (q:=y2.2) (by rw [x2];exact f2')]
def guaV:List Value:= [.int .i64 1,.func (.func 244) #[] #[],.func (.func 248) #[] #[],.int .i64 2,.func (.func 248) #[] #[],.func (.func 248) #[] #[],.int .i64 4,.func (.func 244) #[] #[],.func (.func 244) #[] #[],.int .i64 8,.func (.func 248) #[] #[],.func (.func 244) #[] #[]]
theorem yka {w:World} (h:laidMetH Tryz.prog zmp w):(Res.glob 0 117 x6).holds w noX:=by
 obtain ⟨g,t,cs,fuel,p,hg,ht,hv,hd⟩:=h.funcs (n:= "yardarm/session.guards") (d:=yk3) (.tail _ (.tail _ (.tail _ (.head _))))
 obtain rfl:=Option.some.inj ((show Tryz.prog.globalNamed "yardarm/session.guards" =some 0 by kernel_rfl).symm.trans hg)
 obtain rfl:=Option.some.inj ((show (Tryz.prog.globals[0]?).map (·.type)=some 117 by kernel_rfl).symm.trans ht)
 rw [zzt] at hd
 have c3:Tryz.prog.cellsOf 116=3:=by kernel_rfl
 have c12:Tryz.prog.cellsOf 117=12:=by kernel_rfl
 have hlen:cs.toList.length=4 * 3:=by
  obtain ⟨_,_,_,_,hl,_⟩:=DataW.trod_array Tryz.underlying117 hd
  rw [hl,c12]
 have hcs:cs.toList=guaV:=by
  refine (zwt 3 4 cs.toList (fun i=>(guaV.drop (i * 3)).take 3) hlen fun i hi=> ?_).trans rfl
  obtain ⟨f',d,q,e1,e2⟩:=Lib.array_elem Tryz.underlying117 hd i hi
  rw [c3] at e2
  match i,hi with
  |0,_=>obtain rfl:=Option.some.inj e1;exact zmu yiz yiy e2
  |1,_=>obtain rfl:=Option.some.inj e1;exact zmu yiy yiy e2
  |2,_=>obtain rfl:=Option.some.inj e1;exact zmu yiz yiz e2
  |3,_=>obtain rfl:=Option.some.inj e1;exact zmu yiy yiz e2
 unfold World.var? at hv
 rw [hg] at hv
 simp only [Option.bind_some] at hv
 split at hv
 ·rename_i c T0 fr hh
  cases hv
  have hc:cs=guaV.toArray:=by rw [←hcs]
  subst hc
  refine zr3 hh rfl fun j h1 h2=> ?_
  match j,h1 with
  |0,_=>exact .v _
  |1,_=>exact zhc _ _
  |2,_=>exact zhc _ _
  |3,_=>exact .v _
  |4,_=>exact zhc _ _
  |5,_=>exact zhc _ _
  |6,_=>exact .v _
  |7,_=>exact zhc _ _
  |8,_=>exact zhc _ _
  |9,_=>exact .v _
  |10,_=>exact zhc _ _
  |11,_=>exact zhc _ _
  |n+12,h1=>exact absurd h1 (by show ¬n+12 < 12;omega)
 ·cases hv
theorem yiu:OO [.glob 0 117 x6,.glob 3 148 y8,.glob 5 276 y9,.glob 6 279 y4,.glob 2 197 u0] noX=noX:=by funext b;simp [OO,u4,noX,Res.own]
theorem zte {W:World} (h:laidMetH Tryz.prog zmp W):HRel noX W [.glob 0 117 x6,.glob 3 148 y8,.glob 5 276 y9,.glob 6 279 y4,.glob 2 197 u0]:=by
 have h':=zzn h
 have h0:=ykd (Lib.laidMet.reads h' (.tail _ (.head _)))
 have h1:=ykc (Lib.laidMet.reads h' (.tail _ (.tail _ (.head _))))
 have h2:=ykb (Lib.laidMet.reads h' (.head _))
 refine ⟨by simp [u4,Res.own],fun b hb=>by simp [u4,Res.own] at hb,fun b hb=>hb.elim,fun r hr=> ?_⟩
 rw [yiu]
 simp only [List.mem_cons,List.not_mem_nil,or_false] at hr
 rcases hr with rfl|rfl|rfl|rfl|rfl
 ·exact yka h
 ·exact h0
 ·exact h1
 ·exact h2
 ·exact yhl h
noncomputable def wit50 (os:Os):World:={World.holding Tryz.prog os ⟨#[], #[],[]⟩ with heap:=((World.holding Tryz.prog os ⟨#[], #[],[]⟩).heap.modify 2 (Lay.setRow ykv)).modify 0 (Lay.setRow guaV)}
noncomputable def wit5 (os:Os):World:=(wit50 os).layVars Tryz.prog zqg
theorem ybr (os:Os):(wit5 os).os=os:=World.layVars_os _ _ _
theorem zxz (os:Os) (args:Array Value):laidMetH Tryz.prog zmp ((wit5 os).forCall (fun _ _=>0) ⟨#[],args,[]⟩).memory:=by
 refine laidMetH_of_parts3 (fuel:=8) ?_ (by kernel_rfl) (by kernel_rfl)
 rw [zr2]
 have h:laidMet Tryz.prog zqg (wit5 os):=laidMet_layVars (w0:=wit50 os) (zqg.map (·.1)) [] (by kernel_rfl) (by kernel_rfl) (by kernel_rfl) (by
  rw [show (zqg.filter fun x=> !(zqg.map (·.1)).contains x.1)= [] by kernel_rfl];exact LaidIn.none)
 exact h.of_heap (by simp [World.memory,World.forCall,Input.heap])
end Go.Proofs.YtcaijocpofcbdaaGreatDoor
set_option maxRecDepth 10000
namespace Go.Proofs
open Go Go.Ab
attribute [local irreducible] QR QV OE zb0 aw zcx zb4 zbi zal thn zfo zdd jch zew
open Go.H
theorem ykf {k:Nat} (hk:k < 4):x6[0+k * 3+2]? =some (yi1 k):=by
 rcases (by omega:k=0∨k=1∨k=2∨k=3) with rfl|rfl|rfl|rfl <;> rfl
theorem ykg {k:Nat} (hk:k < 4):x6[0+k * 3+1]? =some (yi2 k):=by
 rcases (by omega:k=0∨k=1∨k=2∨k=3) with rfl|rfl|rfl|rfl <;> rfl
def yiw (M:List (Int×Int)) (b:Acc):Bool:=decide (b.r < (zbc b.o M).getD 0)
def yfl (k:Nat) (d:Dos) (M:List (Int×Int)):Bool:=(zfy k d).any (yiw M)
def ziz (M:List (Int×Int)) (l:List Acc):List (Int×Int):=l.foldl (fun m a=>zej a.o (max ((zbc a.o m).getD 0) a.r) m) M
theorem ygx {M:List (Int×Int)} {l:List Acc} {i:Nat} (hi:i < l.length):ziz M (l.take (i+1))=zej l[i].o (max ((zbc l[i].o (ziz M (l.take i))).getD 0) l[i].r) (ziz M (l.take i)):=by
 rw [ziz,List.take_succ_eq_append_getElem hi,List.foldl_append];rfl
theorem zve (o:Int):∀(l:List Acc) (M:List (Int×Int)),(zbc o M).getD 0≤(zbc o (ziz M l)).getD 0∧∀a∈l,a.o=o→a.r≤(zbc o (ziz M l)).getD 0
 | [],M=>⟨Int.le_refl _,by simp⟩
 |a::l,M=>by
  obtain ⟨h1,h2⟩:=zve o l (zej a.o (max ((zbc a.o M).getD 0) a.r) M)
  have e:ziz M (a::l)=ziz (zej a.o (max ((zbc a.o M).getD 0) a.r) M) l:=rfl
  rw [zby] at h1
  by_cases q:a.o=o
  ·subst q
   rw [if_pos rfl,Option.getD_some] at h1
   refine ⟨by rw [e];omega,fun b hb ho=> ?_⟩
   rcases List.mem_cons.1 hb with rfl|hb
   ·rw [e];omega
   ·rw [e];exact h2 b hb ho
  ·rw [if_neg q] at h1
   refine ⟨by rw [e];exact h1,fun b hb ho=> ?_⟩
   rcases List.mem_cons.1 hb with rfl|hb
   ·exact absurd ho q
   ·rw [e];exact h2 b hb ho
def zlz (k:Nat) (L:List Dos) (j:Nat) (M:List (Int×Int)):Prop:=∀e∈L.take j,∀a∈zct k e,a.r≤(zbc a.o M).getD 0
theorem ygy (k:Nat) (L:List Dos):zlz k L 0 []:=fun e he=>by simp at he
theorem yaw {k j:Nat} {L:List Dos} {M:List (Int×Int)} (hM:zlz k L j M) (hj:j < L.length):zlz k L (j+1) (ziz M (zct k L[j])):=by
 intro e he a ha
 rw [List.take_succ_eq_append_getElem hj,List.mem_append,List.mem_singleton] at he
 rcases he with he|rfl
 ·have h1:=hM e he a ha
  have h2:=(zve a.o (zct k L[j]) M).1
  omega
 ·exact (zve a.o _ M).2 a ha rfl
def hdW (k:Nat) (d e:Dos):Option Brch:=(zft k e d).head?
def brW (k:Nat) (L:List Dos):Nat→List Brch
 |0=> []
 |j+1=>brW k L j++(match L[j]? with|some d=>(L.take j).filterMap (hdW k d)|none=> [])
theorem yet {k j:Nat} {L:List Dos} (hj:j < L.length):brW k L (j+1)=brW k L j++(L.take j).filterMap (hdW k L[j]):=by rw [brW,List.getElem?_eq_getElem hj]
theorem yfk {k j:Nat} {L:List Dos} {M:List (Int×Int)} (hM:zlz k L j M) (hj:j < L.length) (hs:yfl k L[j] M=false):brW k L (j+1)=brW k L j:=by
 rw [yet hj]
 have:(L.take j).filterMap (hdW k L[j])= []:=by
  rw [List.filterMap_eq_nil_iff]
  intro e he
  have:zft k e L[j]= []:=by
   rw [zft,List.flatMap_eq_nil_iff]
   intro a ha
   rw [List.filterMap_eq_nil_iff]
   intro b hb
   by_cases q:(a.o==b.o)=true
   ·refine zwx (decide_eq_false fun hlt=> ?_)
    have h1:=hM e he a ha
    have h2:=List.any_eq_false.1 hs b hb
    rw [yiw,←eq_of_beq q] at h2
    simp only [decide_eq_true_eq] at h2
    omega
   ·exact zwy (by simpa using q)
  rw [hdW,this];rfl
 rw [this,List.append_nil]
theorem ybe {k m:Nat} {L:List Dos}:∀{n},m≤n→∃R,brW k L n=brW k L m++R
 |0,hm=>⟨[],by rw [Nat.le_zero.1 hm,List.append_nil]⟩
 |n+1,hm=>by
  by_cases e:m=n+1
  ·exact ⟨[],by rw [e,List.append_nil]⟩
  ·obtain ⟨R,hR⟩:=ybe (k:=k) (m:=m) (L:=L) (n:=n) (by omega)
   exact ⟨_,by rw [brW,hR,List.append_assoc]⟩
def brP (k:Nat) (L:List Dos) (j:Nat) (d:Dos) (i:Nat):List Brch:=brW k L j++((L.take j).take i).filterMap (hdW k d)
theorem ykt (k:Nat) (L:List Dos) (j:Nat) (d:Dos):brP k L j d 0=brW k L j:=by simp [brP]
theorem yh8 {k j i:Nat} {L:List Dos} {d:Dos} {b:Brch} {rest:List Brch} (hi:i < (L.take j).length) (h:zft k (L.take j)[i] d=b::rest):brP k L j d (i+1)=brP k L j d i++ [b]:=by
 rw [brP,yeg hi (show hdW k d (L.take j)[i]=some b by rw [hdW,h];rfl),brP,List.append_assoc]
theorem yh9 {k j i:Nat} {L:List Dos} {d:Dos} (hi:i < (L.take j).length) (h:zft k (L.take j)[i] d= []):brP k L j d (i+1)=brP k L j d i:=by
 rw [brP,zwb hi (show hdW k d (L.take j)[i]=none by rw [hdW,h];rfl),brP]
theorem yks {k j i:Nat} {L:List Dos} (hj:j < L.length) (hi:i=(L.take j).length):brP k L j L[j] i=brW k L (j+1):=by
 rw [yet hj,brP,hi,List.take_length]
theorem yh7 {k j i:Nat} {L:List Dos} {b:Brch} {rest:List Brch} (hj:j < L.length) (hi:i < (L.take j).length) (h:zft k (L.take j)[i] L[j]=b::rest):∃R,brW k L L.length=brP k L j L[j] i++b::R:=by
 obtain ⟨R,hR⟩:=ybe (k:=k) (L:=L) (m:=j+1) (n:=L.length) hj
 have e:(L.take j).filterMap (hdW k L[j])=((L.take j).take i).filterMap (hdW k L[j])++b::((L.take j).drop (i+1)).filterMap (hdW k L[j]):=by
  conv=>lhs;rw [←List.take_append_drop i (L.take j),List.drop_eq_getElem_cons hi]
  rw [List.filterMap_append,List.filterMap_cons,hdW,h];rfl
 exact ⟨_,by rw [hR,yet hj,e,brP];simp only [List.append_assoc,List.cons_append];rfl⟩
def hdB (l:List Brch):Brch:=l.headD ⟨0,0,0,0,0,0⟩
theorem z8.fr11 {P:Program} {fv:AV} {args:List AV} {G:List Res} {R:AV→List Res→Prop} {a0 a1 a2 a3 a4 a5 a6 a7 a8 a9 a10:Res} (hc:z8 P fv args G R):z8 P fv args (a0::a1::a2::a3::a4::a5::a6::a7::a8::a9::a10::G) (fun r h'=>∃h'',h'=a0::a1::a2::a3::a4::a5::a6::a7::a8::a9::a10::h''∧R r h''):=hc.frL [a0,a1,a2,a3,a4,a5,a6,a7,a8,a9,a10]
theorem zg7 (q:Nat) (A B:List Res) (dfs:List Nat):(Res.defs q::(A++(B++dfs.map Res.defs))).Perm (A++(B++(q::dfs).map Res.defs)):=by
 rw [←List.append_assoc,←List.append_assoc];exact List.perm_middle.symm
theorem zrv (A B:List Res) (dfs:List Nat):(A++(B++dfs.map Res.defs)).Perm (dfs.map Res.defs++(A++B)):=by
 rw [←List.append_assoc];exact List.perm_append_comm
theorem zoc {full:Bool} (l:List Acc) (fv:AV) (p:Acc→Bool) (G:List Res) (hp:∀a∈l,z8 Tryz.prog fv [.agg (accR a)] G (fun r h'=>h'=G∧r=bv (p a))) (hlen:l.length≤4611686018427387904):x3 Tryz.prog 153 [.list full 3 (l.map accR),fv] G (fun r h'=>h'=G∧r=iv (zaq p 0 l)):=by
 refine z6 Tryz.func153 rfl rfl rfl ?_
 refine rn ?_;refine j9 (fun k:Nat=>k≤l.length∧zaq p 0 l=zaq p k (l.drop k)) (fun k=>⟨[(8,iv k),(7,iv (l.map accR).length),(0,.list full 3 (l.map accR)),(1,fv)],G,[]⟩) (fun k=>l.length - k) 0 ⟨Nat.zero_le _,by simp⟩
  (w9 (.cons _ _ _ rfl (.cons _ _ _ rfl (.cons _ _ _ rfl (.cons _ _ _ rfl (.nil)))))) ?_
 rintro k ⟨hk,hnot⟩
 refine rn ?_;refine y3 rfl (fun hc9=> ?_) (fun hc9=> ?_)
 ·have hk2:k < l.length:=by simpa using hc9
  have hrow:(l.map accR)[k]? =some (accR l[k]):=by simp [hk2]
  have hd:=List.drop_eq_getElem_cons hk2
  refine rn ?_;refine qv rfl rfl (y5 rfl rfl (hp l[k] (by simp))) ?_
  refine rn ?_;refine y3 rfl (fun hc16=> ?_) (fun hc16=> ?_)
  ·refine rn ?_;exact zad rfl (.refl _ _) ⟨rfl,by rw [hnot,hd,zaq,if_pos hc16];rfl⟩
  ·refine rn ?_;exact ⟨k+1,⟨by omega,by rw [hnot,hd,zaq,if_neg (by simp [hc16])]⟩,(w9 (.cons _ _ _ rfl (.cons _ _ _ rfl (.cons _ _ _ rfl (.cons _ _ _ rfl (.nil)))))),by omega⟩
 ·have hk3:k=l.length:=by
   have:l.length≤k:=by simpa using hc9
   omega
  refine rn ?_;exact zad rfl (.refl _ _) ⟨rfl,by rw [hnot,hk3,List.drop_length,zaq];rfl⟩
theorem zkb {full:Bool} (l:List Acc) (fv:AV) (p:Acc→Bool) (G:List Res) (hp:∀a∈l,z8 Tryz.prog fv [.agg (accR a)] G (fun r h'=>h'=G∧r=bv (p a))) (hlen:l.length≤4611686018427387904):x3 Tryz.prog 111 [.list full 3 (l.map accR),fv] G (fun r h'=>h'=G∧r=bv (l.any p)):=by
 refine z6 Tryz.func111 rfl rfl rfl ?_
 refine rn ?_;refine qv rfl rfl (y5 rfl rfl (z8.of_fun (zoc l _ p G hp hlen))) ?_
 refine rn ?_;exact zad rfl (.refl _ _) ⟨rfl,by simp only [←zdv p l 0];rfl⟩
theorem yfy (b:Acc) (b4 bm:Nat) (M:List (Int×Int)):x3 Tryz.prog 112 [.agg (accR b),pZ b4] (.box b4 141 [mpv bm]:: .map bm (j7 zbn (zbg iv M)):: []) (fun r h'=>h'= .box b4 141 [mpv bm]:: .map bm (j7 zbn (zbg iv M)):: []∧r=bv (yiw M b)):=by
 refine z6 Tryz.func112 rfl rfl rfl ?_
 refine rn ?_;refine z7 rfl (x8 rfl rfl rfl fun b2=> ?_)
 refine q1 ?_;refine u5 (k7 ?_)
 refine w6 (y6 ?_)
 refine q1 ?_;refine q1 ?_;refine q1 ?_;refine q1 ?_;refine q1 ?_;refine qq rfl rfl (zbt (g:=iv) (enc:=zbn) (k:=b.o) (0:Int) rfl rfl) ?_
 refine rn ?_;refine rq 1 ?_
 exact ⟨rfl,rfl⟩
set_option maxHeartbeats 4000000 in
theorem yfx (k:Nat) (hk:k < 4) (d:Dos) (h2:(zfy k d).length≤1000000) (bi b4 bm:Nat) (M:List (Int×Int)):x3 Tryz.prog 110 [.agg (zao d),pZ bi,pZ b4] (.box bi 3 [iv (k:Int)]:: .box b4 141 [mpv bm]:: .map bm (j7 zbn (zbg iv M)):: .glob 0 117 x6:: []) (fun r h'=>h'= .box bi 3 [iv (k:Int)]:: .box b4 141 [mpv bm]:: .map bm (j7 zbn (zbg iv M)):: .glob 0 117 x6:: []∧r=bv (yfl k d M)):=by
 refine z6 Tryz.func110 rfl rfl rfl ?_
 refine rn ?_;refine z7 rfl (x8 rfl rfl rfl fun b3=> ?_)
 refine rn ?_;refine j4 7 rfl ?_
 refine dq rfl rfl qrA ?_;refine dq rfl rfl (u7 (i:=k) rfl rfl (by omega)) ?_
 refine dq rfl rfl qrA ?_;refine dq rfl rfl (j3 rfl (ykf hk)) ?_
 refine rn ?_;refine dv rfl rfl (by exact y5 rfl rfl (z8.pure (R:=fun r=>r=zfw (zfy k d)) (zri k d))) ?_
 refine rn ?_;refine qv rfl rfl (y5 rfl rfl (z8.of_fun (zkb (zfy k d) _ (yiw M) _ (fun b _=>z8.qt (z8.of_acall (fs:= []) (cs:= [pZ b4]) (yfy b b4 bm M)) ((pt2 _ _ _ _).trans (.cons _ (pt2 _ _ _ _)))) (Nat.le_trans h2 (by decide))))) ?_
 refine rn ?_;refine rq 1 ?_
 exact ⟨rfl,rfl⟩
theorem zuh (k:Nat) (L:List Dos) (W:List Res):x3 Tryz.prog 59 [iv (k:Int),zcd L] W (fun r h'=>∃bi bl,h'= .box bl 101 [zcd L]:: .box bi 3 [iv (k:Int)]::W∧r= .fn (.func 109) [] [pZ bi,pZ bl]):=by
 refine z6 Tryz.func59 rfl rfl rfl ?_
 refine rn ?_;refine z7 rfl (x8 rfl rfl rfl fun b2=> ?_)
 refine z7 rfl (x8 rfl rfl rfl fun b3=> ?_)
 refine rn ?_;exact zad rfl (.refl _ _) ⟨_,_,rfl,rfl⟩
set_option maxHeartbeats 8000000 in
theorem zug (k:Nat) (hk:k < 4) (L:List Dos) (hL:L.length≤1000000) (hf:∀d∈L,(zct k d).length≤1000000) (hs:∀d∈L,(zfy k d).length≤1000000) (y:AV) (hone:y.cellsOf=some [y]) (bi bl:Nat) {σ:Type} (p:List Brch→σ→Prop) (q:σ→Prop) (I:List Brch→σ→List Res) (X:σ→List Res) (x0:σ) (hp0:p [] x0) (hy:∀pre d rest x,(brW k L L.length)=pre++d::rest→p pre x→z8 Tryz.prog y [.agg (zbw d)] (.box bl 101 [zcd L]:: .box bi 3 [iv ((k:Nat):Int)]:: .glob 0 117 x6::I pre x) (fun r h'=>∃x',(r=bv true∧p (pre++ [d]) x'∧h'= .box bl 101 [zcd L]:: .box bi 3 [iv ((k:Nat):Int)]:: .glob 0 117 x6::I (pre++ [d]) x')∨(r=bv false∧q x'∧h'= .box bl 101 [zcd L]:: .box bi 3 [iv ((k:Nat):Int)]:: .glob 0 117 x6::X x'))):x3 Tryz.prog 109 [y,pZ bi,pZ bl] (.box bl 101 [zcd L]:: .box bi 3 [iv ((k:Nat):Int)]:: .glob 0 117 x6::I [] x0) (fun r h'=>∃x,(p (brW k L L.length) x∧h'= .box bl 101 [zcd L]:: .box bi 3 [iv ((k:Nat):Int)]:: .glob 0 117 x6::I (brW k L L.length) x)∨(q x∧h'= .box bl 101 [zcd L]:: .box bi 3 [iv ((k:Nat):Int)]:: .glob 0 117 x6::X x)):=by
 refine z6 Tryz.func109 rfl rfl rfl ?_
 have hyF:∀pre d rest x (W:List Res),(brW k L L.length)=pre++d::rest→p pre x→z8 Tryz.prog y [.agg (zbw d)] (.box bl 101 [zcd L]:: .box bi 3 [iv ((k:Nat):Int)]:: .glob 0 117 x6::(I pre x++W)) (fun r h'=>∃x',(r=bv true∧p (pre++ [d]) x'∧h'= .box bl 101 [zcd L]:: .box bi 3 [iv ((k:Nat):Int)]:: .glob 0 117 x6::(I (pre++ [d]) x'++W))∨(r=bv false∧q x'∧h'= .box bl 101 [zcd L]:: .box bi 3 [iv ((k:Nat):Int)]:: .glob 0 117 x6::(X x'++W))):=fun pre d rest x W e hp=>((hy pre d rest x e hp).frame W).mono (by
  rintro _ _ ⟨_,rfl,x',⟨rfl,hp',rfl⟩|⟨rfl,hq',rfl⟩⟩
  ·exact ⟨x',.inl ⟨rfl,hp',rfl⟩⟩
  ·exact ⟨x',.inr ⟨rfl,hq',rfl⟩⟩)
 refine rn ?_;refine z7 rfl (x8 rfl hone rfl fun b3=> ?_)
 refine rn ?_;refine zjd ?_;refine rn ?_;refine z7 rfl (zas (enc:=zbn) rfl fun bm=> ?_)
 refine z7 rfl (x4 rfl fun b4=> ?_)
 refine rn ?_;refine zgs L.length (fun j (z:σ×List (Int×Int)×List Nat)=>p (brW k L j) z.1∧zlz k L j z.2.1) (fun j z=>⟨[(18,iv j),(1,pZ bi),(2,pZ bl),(3,pZ b3),(4,pZ b4),(5,.fn (.func 110) [] [pZ bi,pZ b4]),(16,zcd L),(17,iv (L.map zao).length)],.box b4 141 [mpv bm]:: .map bm (j7 zbn (zbg iv z.2.1)):: .box b3 175 [y]:: .box bl 101 [zcd L]:: .box bi 3 [iv ((k:Nat):Int)]:: .glob 0 117 x6::(I (brW k L j) z.1++(z.2.2.map Res.defs)),z.2.2⟩) (x0,[],[]) ⟨hp0,ygy k L⟩ (by simp only [List.map_nil,List.append_nil];exact es) ?_
 rintro j ⟨x,M,dfs⟩ lj ⟨hx,hM⟩
 have hx:p (brW k L j) x:=hx
 have hM:zlz k L j M:=hM
 show aw _ _ _ _ _ ⟨[(18,iv j),(1,pZ bi),(2,pZ bl),(3,pZ b3),(4,pZ b4),(5,.fn (.func 110) [] [pZ bi,pZ b4]),(16,zcd L),(17,iv (L.map zao).length)],.box b4 141 [mpv bm]:: .map bm (j7 zbn (zbg iv M)):: .box b3 175 [y]:: .box bl 101 [zcd L]:: .box bi 3 [iv ((k:Nat):Int)]:: .glob 0 117 x6::(I (brW k L j) x++(dfs.map Res.defs)),dfs⟩
 refine rn ?_;refine y3 rfl (fun hc19=> ?_) (fun hc19=> ?_)
 ·have hj:=zd7 hc19
  have rj:=zcy (f:=zao) hj
  refine rn ?_;refine z7 rfl (x4 rfl fun b7=> ?_)
  refine rn ?_;refine qv rfl rfl (y5 rfl rfl (z8.qt (z8.of_acall (fs:= []) (cs:= [pZ bi,pZ b4]) (yfx k hk L[j] (hs _ (List.getElem_mem hj)) bi b4 bm M)) ((pt5 _ _ _ _ _ _ _).trans (.cons _ ((pt1 _ _ _).trans (.cons _ ((pt1 _ _ _).trans (.cons _ (pt3 _ _ _ _ _))))))))) ?_
  refine rn ?_;refine j4 8 rfl ?_
  refine dq rfl rfl qrA ?_;refine dq rfl rfl (u7 (i:=k) rfl rfl (by omega)) ?_
  refine dq rfl rfl qrA ?_;refine dq rfl rfl (j3 rfl (ykg hk)) ?_
  refine rn ?_;refine dv rfl rfl (by exact y5 rfl rfl (z8.pure (R:=fun r=>r=zfw (zct k L[j])) (zr7 k L[j]))) ?_
  refine rn ?_;refine za1 (zct k L[j]).length (fun _=>True) (fun u=>⟨[(33,iv u),(1,pZ bi),(2,pZ bl),(3,pZ b3),(4,pZ b4),(5,.fn (.func 110) [] [pZ bi,pZ b4]),(6,iv j),(7,pZ b7),(8,bv (yfl k L[j] M)),(16,zcd L),(17,iv (L.map zao).length),(18,iv j),(31,zfw (zct k L[j])),(32,iv ((zct k L[j]).map accR).length)],.box b7 121 (zao L[j]):: .box b4 141 [mpv bm]:: .map bm (j7 zbn (zbg iv (ziz M ((zct k L[j]).take u)))):: .box b3 175 [y]:: .box bl 101 [zcd L]:: .box bi 3 [iv ((k:Nat):Int)]:: .glob 0 117 x6::(I (brW k L j) x++(dfs.map Res.defs)),dfs⟩) trivial es ?_
  intro u lu _
  refine rn ?_;refine y3 rfl (fun hc34=> ?_) (fun hc34=> ?_)
  ·have hu:=zd7 hc34
   have ru:=zcy (f:=accR) hu
   have hfl:=hf _ (List.getElem_mem hj)
   refine rn ?_;refine z7 rfl (x4 rfl fun b10=> ?_)
   first|refine z7 rfl (zac rfl rfl rfl ?_)|refine z7 rfl (zbl rfl rfl rfl rfl (Nat.le_of_ble_eq_true rfl) ?_)
   refine u5 (k7 ?_)
   refine y6 ?_;refine q1 ?_;refine q1 ?_;refine q1 ?_;refine q1 ?_;refine q1 ?_;refine q1 ?_;refine qq rfl rfl (zbt (g:=iv) (enc:=zbn) (k:=(zct k L[j])[u].o) (0:Int) rfl rfl) ?_
   refine rn ?_;refine z7 rfl (za5 (g:=iv) (enc:=zbn) (k:=(zct k L[j])[u].o) (v:=max ((zbc (zct k L[j])[u].o (ziz M ((zct k L[j]).take u))).getD 0) (zct k L[j])[u].r) rfl rfl rfl ?_)
   refine rn ?_;exact ⟨hu,trivial,by rw [ygx hu];exact eA⟩
  ·have qu:=zd9 hc34 lu
   subst qu
   rw [List.take_length]
   refine rn ?_;refine y3 rfl (fun hc49=> ?_) (fun hc49=> ?_)
   ·have hsw:yfl k L[j] M=false:=by simpa using hc49
    refine rn ?_;have hw:=yfk hM hj hsw
    exact ⟨hj,(x,(ziz M (zct k L[j])),dfs),⟨by simp only;rw [hw];exact hx,yaw hM hj⟩,by simp only;rw [hw];exact eA⟩
   ·have hsw:yfl k L[j] M=true:=by simpa using hc49
    refine zab ?_;refine k7 ?_;refine w6 (y6 ?_)
    refine q1 ?_;refine q1 ?_;refine qq rfl rfl (zdq (k:=j) rfl rfl (by rw [List.length_map];omega)) ?_
    rw [←List.map_take]
    refine rn ?_;have hx0:=hx
    rw [←ykt k L j L[j]] at hx ⊢
    refine zgs (L.take j).length (fun i (z:σ×List Nat)=>p (brP k L j L[j] i) z.1) (fun i z=>⟨[(54,iv i),(1,pZ bi),(2,pZ bl),(3,pZ b3),(4,pZ b4),(5,.fn (.func 110) [] [pZ bi,pZ b4]),(7,pZ b7),(16,zcd L),(17,iv (L.map zao).length),(18,iv j),(52,zcd (L.take j)),(53,iv ((L.take j).map zao).length)],.box b7 121 (zao L[j]):: .box b4 141 [mpv bm]:: .map bm (j7 zbn (zbg iv (ziz M (zct k L[j])))):: .box b3 175 [y]:: .box bl 101 [zcd L]:: .box bi 3 [iv ((k:Nat):Int)]:: .glob 0 117 x6::(I (brP k L j L[j] i) z.1++(z.2.map Res.defs)),z.2⟩) (x,dfs) hx es ?_
    clear hx hx0
    rintro i ⟨x,dfs⟩ li hx
    have hx:p (brP k L j L[j] i) x:=hx
    show aw _ _ _ _ _ ⟨[(54,iv i),(1,pZ bi),(2,pZ bl),(3,pZ b3),(4,pZ b4),(5,.fn (.func 110) [] [pZ bi,pZ b4]),(7,pZ b7),(16,zcd L),(17,iv (L.map zao).length),(18,iv j),(52,zcd (L.take j)),(53,iv ((L.take j).map zao).length)],.box b7 121 (zao L[j]):: .box b4 141 [mpv bm]:: .map bm (j7 zbn (zbg iv (ziz M (zct k L[j])))):: .box b3 175 [y]:: .box bl 101 [zcd L]:: .box bi 3 [iv ((k:Nat):Int)]:: .glob 0 117 x6::(I (brP k L j L[j] i) x++(dfs.map Res.defs)),dfs⟩
    refine rn ?_;refine y3 rfl (fun hc55=> ?_) (fun hc55=> ?_)
    ·have hi:=zd7 hc55
     have ri:=zcy (f:=zao) hi
     have hil:=List.length_take_le j L
     refine rn ?_;refine z7 rfl (x4 rfl fun b12=> ?_)
     refine rn ?_;refine z7 rfl (w7 rfl rfl (z8.of_fun (zuj k (L.take j)[i] L[j] _)) rfl ?_)
     rintro _ _ ⟨ci,ce,cl,rfl,rfl⟩
     refine rn ?_;refine zkm (fun pend h''=>(pend=none∧(zft k (L.take j)[i] L[j])= []∧h''= .box cl 121 (zao L[j]):: .box ce 121 (zao (L.take j)[i]):: .box ci 3 [iv (k:Int)]:: .glob 0 117 x6:: .box b12 121 (zao (L.take j)[i]):: .box b7 121 (zao L[j]):: .box b4 141 [mpv bm]:: .map bm (j7 zbn (zbg iv (ziz M (zct k L[j])))):: .box b3 175 [y]:: .box bl 101 [zcd L]:: .box bi 3 [iv (k:Int)]::(I (brP k L j L[j] i) x++(dfs.map Res.defs)))∨(pend=some (.exit 6)∧∃b rest x',(zft k (L.take j)[i] L[j])=b::rest∧p ((brP k L j L[j] i)++ [b]) x'∧h''= .box cl 121 (zao L[j]):: .box ce 121 (zao (L.take j)[i]):: .box ci 3 [iv (k:Int)]:: .glob 0 117 x6:: .box b12 121 (zao (L.take j)[i]):: .box b7 121 (zao L[j]):: .box b4 141 [mpv bm]:: .map bm (j7 zbn (zbg iv (ziz M (zct k L[j])))):: .box b3 175 [y]:: .box bl 101 [zcd L]:: .box bi 3 [iv (k:Int)]::(I ((brP k L j L[j] i)++ [b]) x'++(dfs.map Res.defs)))∨(pend=some .ret∧∃x',q x'∧h''= .box cl 121 (zao L[j]):: .box ce 121 (zao (L.take j)[i]):: .box ci 3 [iv (k:Int)]:: .glob 0 117 x6:: .box b12 121 (zao (L.take j)[i]):: .box b7 121 (zao L[j]):: .box b4 141 [mpv bm]:: .map bm (j7 zbn (zbg iv (ziz M (zct k L[j])))):: .box b3 175 [y]:: .box bl 101 [zcd L]:: .box bi 3 [iv (k:Int)]::(X x'++(dfs.map Res.defs)))) rfl (fun fn l q0 lp hlp=> ?_) (fun q0 h'' hK=> ?_) (fun q0 h'' cc hK=> ?_)
     ·suffices hy2:∀pre d' rest z,(zft k (L.take j)[i] L[j])=pre++d'::rest→(fun (pre:List Brch) (_:Bool×σ)=>pre= []) pre z→z8 Tryz.prog (yv l) [.agg (zbw d')] (.box cl 121 (zao L[j]):: .box ce 121 (zao (L.take j)[i]):: .box ci 3 [iv (k:Int)]:: .glob 0 117 x6::(fun (_:List Brch) (_:Bool×σ)=>lp .ready none:: .defs q0:: .box b12 121 (zao (L.take j)[i]):: .box b7 121 (zao L[j]):: .box b4 141 [mpv bm]:: .map bm (j7 zbn (zbg iv (ziz M (zct k L[j])))):: .box b3 175 [y]:: .box bl 101 [zcd L]:: .box bi 3 [iv (k:Int)]::(I (brP k L j L[j] i) x++(dfs.map Res.defs))) pre z) (fun r h'=>∃z',(r=bv true∧(fun (pre:List Brch) (_:Bool×σ)=>pre= []) (pre++ [d']) z'∧h'= .box cl 121 (zao L[j]):: .box ce 121 (zao (L.take j)[i]):: .box ci 3 [iv (k:Int)]:: .glob 0 117 x6::(fun (_:List Brch) (_:Bool×σ)=>lp .ready none:: .defs q0:: .box b12 121 (zao (L.take j)[i]):: .box b7 121 (zao L[j]):: .box b4 141 [mpv bm]:: .map bm (j7 zbn (zbg iv (ziz M (zct k L[j])))):: .box b3 175 [y]:: .box bl 101 [zcd L]:: .box bi 3 [iv (k:Int)]::(I (brP k L j L[j] i) x++(dfs.map Res.defs))) (pre++ [d']) z')∨(r=bv false∧(fun z:Bool×σ=>(z.1=true∧(∃b rest,(zft k (L.take j)[i] L[j])=b::rest)∧p ((brP k L j L[j] i)++ [hdB (zft k (L.take j)[i] L[j])]) z.2)∨(z.1=false∧q z.2)) z'∧h'= .box cl 121 (zao L[j]):: .box ce 121 (zao (L.take j)[i]):: .box ci 3 [iv (k:Int)]:: .glob 0 117 x6::(fun z:Bool×σ=>lp .done (some (bif z.1 then .exit 6 else .ret)):: .defs q0:: .box b12 121 (zao (L.take j)[i]):: .box b7 121 (zao L[j]):: .box b4 141 [mpv bm]:: .map bm (j7 zbn (zbg iv (ziz M (zct k L[j])))):: .box b3 175 [y]:: .box bl 101 [zcd L]:: .box bi 3 [iv (k:Int)]::((bif z.1 then I ((brP k L j L[j] i)++ [hdB (zft k (L.take j)[i] L[j])]) z.2 else X z.2)++(dfs.map Res.defs))) z')) by
       refine x3.mono (x3.perm ((pt2 _ _ _ _).trans (.cons _ ((pt2 _ _ _ _).trans (.cons _ ((pt2 _ _ _ _).trans (.cons _ (pt9 _ _ _ _ _ _ _ _ _ _ _))))))) (zui k hk (L.take j)[i] L[j] (hf _ (List.mem_of_mem_take (List.getElem_mem hi))) (hs _ (List.getElem_mem hj)) (yv l) ci ce cl (fun (pre:List Brch) (_:Bool×σ)=>pre= []) (fun z:Bool×σ=>(z.1=true∧(∃b rest,(zft k (L.take j)[i] L[j])=b::rest)∧p ((brP k L j L[j] i)++ [hdB (zft k (L.take j)[i] L[j])]) z.2)∨(z.1=false∧q z.2)) (fun (_:List Brch) (_:Bool×σ)=>lp .ready none:: .defs q0:: .box b12 121 (zao (L.take j)[i]):: .box b7 121 (zao L[j]):: .box b4 141 [mpv bm]:: .map bm (j7 zbn (zbg iv (ziz M (zct k L[j])))):: .box b3 175 [y]:: .box bl 101 [zcd L]:: .box bi 3 [iv (k:Int)]::(I (brP k L j L[j] i) x++(dfs.map Res.defs))) (fun z:Bool×σ=>lp .done (some (bif z.1 then .exit 6 else .ret)):: .defs q0:: .box b12 121 (zao (L.take j)[i]):: .box b7 121 (zao L[j]):: .box b4 141 [mpv bm]:: .map bm (j7 zbn (zbg iv (ziz M (zct k L[j])))):: .box b3 175 [y]:: .box bl 101 [zcd L]:: .box bi 3 [iv (k:Int)]::((bif z.1 then I ((brP k L j L[j] i)++ [hdB (zft k (L.take j)[i] L[j])]) z.2 else X z.2)++(dfs.map Res.defs))) (false,x) rfl hy2)) ?_
       rintro _ _ ⟨⟨b,x'⟩,⟨hn,rfl⟩|⟨⟨e1,⟨b0,rest,hn⟩,hp1⟩|⟨e1,hq1⟩,rfl⟩⟩
       ·exact ⟨none,.ready,_,((pt4 _ _ _ _ _ _).trans (.cons _ (pt4 _ _ _ _ _ _))),by simp,.inl ⟨rfl,hn,rfl⟩⟩
       ·have e1:b=true:=e1
        subst e1
        have hd1:hdB (zft k (L.take j)[i] L[j])=b0:=by rw [hn];rfl
        exact ⟨some (.exit 6),.done,_,((pt4 _ _ _ _ _ _).trans (.cons _ (pt4 _ _ _ _ _ _))),by simp,.inr (.inl ⟨rfl,b0,rest,x',hn,by rw [←hd1];exact hp1,by rw [←hd1];rfl⟩)⟩
       ·have e1:b=false:=e1
        subst e1
        exact ⟨some .ret,.done,_,((pt4 _ _ _ _ _ _).trans (.cons _ (pt4 _ _ _ _ _ _))),by simp,.inr (.inr ⟨rfl,x',hq1,rfl⟩)⟩
      intro pre d' rest z hL hpre
      obtain rfl:pre= []:=hpre
      have hL1:(zft k (L.take j)[i] L[j])=d'::rest:=hL
      obtain ⟨R,hL2⟩:=yh7 hj hi hL1
      have hd1:hdB (zft k (L.take j)[i] L[j])=d':=by rw [hL1];rfl
      refine z8.perm (pt4 _ _ _ _ _ _) (z8.ventE ?_)
      refine zcu hlp rfl rfl ?_
      refine rn ?_;refine z7 rfl (x4 rfl fun b13=> ?_)
      refine rn ?_;refine ⟨[(13,pZ b13),(3,pZ b3)],.box b13 36 (zbw d'):: .box cl 121 (zao L[j]):: .box ce 121 (zao (L.take j)[i]):: .box ci 3 [iv (k:Int)]:: .glob 0 117 x6:: .defs q0:: .box b12 121 (zao (L.take j)[i]):: .box b7 121 (zao L[j]):: .box b4 141 [mpv bm]:: .map bm (j7 zbn (zbg iv (ziz M (zct k L[j])))):: .box b3 175 [y]:: .box bl 101 [zcd L]:: .box bi 3 [iv (k:Int)]::(I (brP k L j L[j] i) x++(dfs.map Res.defs)),v8 (zae (pt1 _ _ _)) es,?_⟩
      refine zah ?_;refine w6 ?_;refine w6 (y6 ?_)
      refine q1 ?_;refine q1 ?_;refine z7 rfl (w7 rfl rfl (z8.perm (.cons _ (.cons _ (.cons _ (.cons _ (.cons _ ((pt1 _ _ _).trans (.cons _ ((pt1 _ _ _).trans (.cons _ ((pt1 _ _ _).trans (.cons _ ((pt1 _ _ _).trans (.cons _ ((pt1 _ _ _).trans (.cons _ ((pt1 _ _ _).trans (.cons _ ((pt1 _ _ _).trans (.cons _ (pt1 _ _ _)))))))))))))))))))) (z8.fr11 (hyF (brP k L j L[j] i) d' R x (dfs.map Res.defs) hL2 hx))) rfl ?_)
      rintro _ _ ⟨_,rfl,x',⟨rfl,hp',rfl⟩|⟨rfl,hq',rfl⟩⟩
      ·refine rn ?_;refine y3 rfl (fun hc66=> ?_) (fun hc66=> ?_)
       ·first|cases hc66|exact absurd hc66 (by decide)|(exfalso;simp_all;done)
       ·refine rn ?_;exact zmc (.refl _) ⟨_,_,.trans (.perm ((pt1 _ _ _).trans (.cons _ ((pt1 _ _ _).trans (.cons _ ((pt1 _ _ _).trans (.cons _ ((pt1 _ _ _).trans (.cons _ (pt9 _ _ _ _ _ _ _ _ _ _ _))))))))) _) (.drop [_] _ _),(true,x'),.inr ⟨rfl,.inl ⟨rfl,⟨_,_,hL1⟩,by rw [hd1];exact hp'⟩,by rw [hd1];rfl⟩⟩
      ·refine rn ?_;refine y3 rfl (fun hc66=> ?_) (fun hc66=> ?_)
       ·refine rn ?_;exact zjt (.refl _) ⟨_,_,.trans (.perm ((pt1 _ _ _).trans (.cons _ ((pt1 _ _ _).trans (.cons _ ((pt1 _ _ _).trans (.cons _ ((pt1 _ _ _).trans (.cons _ (pt9 _ _ _ _ _ _ _ _ _ _ _))))))))) _) (.drop [_] _ _),(false,x'),.inr ⟨rfl,.inr ⟨rfl,hq'⟩,rfl⟩⟩
       ·first|cases hc66|exact absurd hc66 (by decide)|(exfalso;simp_all;done)
     ·obtain ⟨_,hFE,rfl⟩|⟨hc',_⟩|⟨hc',_⟩:=hK
      rotate_left
      ·cases hc'
      ·cases hc'
      refine rn ?_;exact ⟨hi,(x,q0::dfs),by simp only;rw [yh9 hi hFE];exact hx,by simp only;rw [yh9 hi hFE];exact v8 (zae ((List.Perm.cons _ (.cons _ (.cons _ (.cons _ ((pt1 _ _ _).trans (.cons _ ((pt1 _ _ _).trans (.cons _ ((pt1 _ _ _).trans (.cons _ ((pt1 _ _ _).trans (.cons _ ((pt1 _ _ _).trans (.cons _ ((pt1 _ _ _).trans (.cons _ (pt1 _ _ _))))))))))))))))).trans (zg7 _ [_,_,_,_,_,_,_,_,_,_,_] _ _))) (v8 (zc6 (h1:= [_,_,_,_])) es)⟩
     ·obtain ⟨hc',_⟩|⟨hc',b,rest,x',hFE,hpp,rfl⟩|⟨hc',x',hqq,rfl⟩:=hK
      ·cases hc'
      ·obtain rfl:cc= .exit 6:=by simpa using hc'
       refine rn ?_;exact ⟨hi,(x',q0::dfs),by simp only;rw [yh8 hi hFE];exact hpp,by simp only;rw [yh8 hi hFE];exact v8 (zae ((List.Perm.cons _ (.cons _ (.cons _ (.cons _ ((pt1 _ _ _).trans (.cons _ ((pt1 _ _ _).trans (.cons _ ((pt1 _ _ _).trans (.cons _ ((pt1 _ _ _).trans (.cons _ ((pt1 _ _ _).trans (.cons _ ((pt1 _ _ _).trans (.cons _ (pt1 _ _ _))))))))))))))))).trans (zg7 _ [_,_,_,_,_,_,_,_,_,_,_] _ _))) (v8 (zc6 (h1:= [_,_,_,_])) es)⟩
      ·obtain rfl:cc= .ret:=by simpa using hc'
       refine rn ?_;refine ⟨fun l h=>(by cases h),?_⟩
       exact zfg (.cons _ (zrv [_,_,_,_,_,_,_,_,_,_,_] _ dfs)) .nil (.trans (.perm (.cons _ (.cons _ (.cons _ ((pt1 _ _ _).trans (.cons _ ((pt1 _ _ _).trans (.cons _ ((pt1 _ _ _).trans (.cons _ ((pt1 _ _ _).trans (.cons _ ((pt1 _ _ _).trans (.cons _ ((pt1 _ _ _).trans (.cons _ (pt1 _ _ _)))))))))))))))) _) (.drop [_,_,_,_,_,_,_,_] _ _)) ⟨x',.inr ⟨hqq,rfl⟩⟩
    ·have qi:=zd9 hc55 li
     refine rn ?_;have hw:=yks (k:=k) hj qi
     exact ⟨hj,(x,(ziz M (zct k L[j])),dfs),⟨by simp only;rw [←hw];exact hx,yaw hM hj⟩,by simp only;rw [←hw];exact eA⟩
 ·have qj:=zd9 hc19 lj
  subst qj
  refine rn ?_;refine ⟨fun l h=>(by cases h),?_⟩
  exact ycq (zrv [_,_,_,_,_,_] _ dfs) .nil (.drop [_,_,_] _ _) ⟨x,.inl ⟨hx,rfl⟩⟩
end Go.Proofs
