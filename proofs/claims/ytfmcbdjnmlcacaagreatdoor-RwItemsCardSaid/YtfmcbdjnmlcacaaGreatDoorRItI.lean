/- The walk of order.Merge. Conditions: none. -/
import Derived.Test.YtfmcbdjnmlcacaaGreatDoorRItH
set_option maxHeartbeats 4000000
set_option linter.unusedSectionVars false
set_option linter.unusedSimpArgs false
set_option linter.unusedVariables false
set_option maxRecDepth 10000
namespace Go.Proofs
open Go Go.Ab
attribute [local irreducible] QR QV OE zb7 aw zcp zb6 zbf zat thn zey zc1 jch zeo
open Go.H
def zdm (sz:Nat) (T:TypeId) {α:Type} (R:α→List AV) (x:List (SV×List α)):List Res:=x.map fun p=> .row p.1.v sz T (p.2.map R)
abbrev zby {α:Type} (x:List (SV×List α)):List (List AV):=x.map fun p=> [.v p.1.v]
theorem zit {sz:Nat} {T:TypeId} {α:Type} {R:α→List AV} (x:List (SV×List α)) (p:SV×List α):zdm sz T R (x++ [p])=zdm sz T R x++ [.row p.1.v sz T (p.2.map R)]:=by simp [zdm]
theorem zho {α:Type} (x:List (SV×List α)) (p:SV×List α):zby (x++ [p])=zby x++ [[.v p.1.v]]:=by simp [zby]
theorem ze7 {α:Type} (x:List (SV×List α)):(zby x).length=x.length:=oM
theorem zk3 (sz:Nat) (T:TypeId) {α:Type} (R:α→List AV):zdm sz T R []= []:=rfl
theorem ziu {sz:Nat} {T:TypeId} {α:Type} {R:α→List AV} {x:List (SV×List α)} {k:Nat} (hk:k < x.length):zdm sz T R (x.drop k)= .row (x[k]).1.v sz T ((x[k]).2.map R)::zdm sz T R (x.drop (k+1)):=by
 rw [List.drop_eq_getElem_cons hk];rfl
theorem zly {α:Type} {x:List (SV×List α)} {k:Nat} (hk:k < x.length):(zby x)[k]? =some [.v (x[k]).1.v]:=by simp [zby,hk]
theorem zxy {β:Type} (m:β) (A B:List β):(m::(A++B)).Perm (A++(B++ [m])):=by
 rw [←List.append_assoc];exact List.perm_append_comm (l₁:= [m])
theorem zuz {sz:Nat} {T:TypeId} {α:Type} {R:α→List AV} (x:List (SV×List α)):zdm sz T R x=zdm sz T R (x.drop (2 * 0))++zdm sz T R []:=by rw [Nat.mul_zero,List.drop_zero,zk3,List.append_nil]
theorem ya1 {sz:Nat} {T:TypeId} {α:Type} {R:α→List AV} {x y:List (SV×List α)} {n:Nat} (h:x.length≤2 * n):zdm sz T R (x.drop (2 * n))++zdm sz T R y=zdm sz T R y:=by rw [List.drop_eq_nil_of_le h,zk3,List.nil_append]
theorem ya0 {sz:Nat} {T:TypeId} {α:Type} {R:α→List AV} {x y:List (SV×List α)} {i:Nat} (h:2 * i+1=x.length):(zdm sz T R (x.drop (2 * i))++zdm sz T R y).Perm (zdm sz T R (x.drop (2 * (i+1)))++zdm sz T R (y++ [x[2 * i]'(by omega)])):=by
 rw [List.drop_eq_nil_of_le (show x.length≤2 * (i+1) by omega),ziu (by omega),List.drop_eq_nil_of_le (by omega),zk3,List.nil_append,zit]
 exact List.perm_append_comm
theorem yaz {sz:Nat} {T:TypeId} {α:Type} {R:α→List AV} {x y:List (SV×List α)} {i:Nat} {m:SV} {l:List α}:(.row m.v sz T (l.map R)::(zdm sz T R (x.drop (2 * i+1+1))++zdm sz T R y)).Perm (zdm sz T R (x.drop (2 * (i+1)))++zdm sz T R (y++ [(m,l)])):=by
 rw [zit,show 2 * (i+1)=2 * i+1+1 by omega]
 exact zxy _ _ _
theorem zld (s:SV):∀r∈([[.v s.v]]:List (List AV)),r.all AV.one=true:=by
 intro r hr;rw [List.mem_singleton.1 hr];rfl
theorem yay {β:Type} {l:List β} {k:Nat} (hk:k < l.length):(l.take (k+1)).drop k= [l[k]]:=by
 rw [List.take_succ_eq_append_getElem hk,List.drop_left' (by simp;omega)]
theorem zyi (a b:List Conf) (fv:AV) (cmp:Conf→Conf→Int) (hp:∀x y,y0 Tryz.prog fv [.agg (j5 x),.agg (j5 y)] [] (fun r h'=>h'= []∧r=iv (cmp x y))) (ha:a.length≤1000000000) (hb:b.length≤1000000000):y8 Tryz.prog 170 [.list false 7 (a.map j5),.list false 7 (b.map j5),fv] [] (fun r h'=>∃s:SV,h'= [.row s.v 7 41 ((mrg cmp a b).map j5)]∧r= .v s.v):=by
 refine z6 Tryz.func170 rfl rfl rfl ?_
 refine rn ?_;refine zil ?_;refine w8 (y7 ?_)
 refine q1 ?_;refine q1 ?_;refine q1 ?_;refine q1 ?_;refine qq rfl rfl (zc5 rfl rfl rfl (by simp only [oM];omega)) ?_
 refine z7 rfl (ztq (n:=0) (c:=((a.map j5).length+(b.map j5).length)) rfl rfl rfl (Nat.zero_le _) (by simp only [oM];omega) (hk:=fun b7=> ?_))
 refine j9 (.slice (some ⟨b7,0,none⟩) 0 ((a.map j5).length+(b.map j5).length)) fun s0 hs0=> ?_
 rw [hs0]
 clear hs0
 refine rn ?_;refine zow (fun x:Nat×Nat×List Conf×SV=>x.1≤a.length∧x.2.1≤b.length∧x.2.2.1.length=x.1+x.2.1∧x.2.2.1++mrg cmp (a.drop x.1) (b.drop x.2.1)=mrg cmp a b) (fun x=>⟨[(0,.list false 7 ((a.drop x.1).map j5)),(1,.list false 7 ((b.drop x.2.1).map j5)),(2,fv),(7,.v x.2.2.2.v)],.row x.2.2.2.v 7 41 (x.2.2.1.map j5):: [],[]⟩) (fun x=>(a.length - x.1)+(b.length - x.2.1)) (0,0,[],s0) ⟨Nat.zero_le _,Nat.zero_le _,rfl,rfl⟩ es ?_
 rintro ⟨i,j,p,s⟩ ⟨hi0,hj0,hpl,hm⟩
 simp only at hi0 hj0 hpl hm
 show aw _ _ _ _ _ ⟨[(0,.list false 7 ((a.drop i).map j5)),(1,.list false 7 ((b.drop j).map j5)),(2,fv),(7,.v s.v)],.row s.v 7 41 (p.map j5):: [],[]⟩
 refine rn ?_;refine u4 (fun hg3_3=> ?_) (fun hg3_3=> ?_)
 ·refine rn ?_;refine zq4 rfl ?_;have hov:a.drop i= []∨b.drop j= []:=by first|(have q:=hg3_3;simp at q;exact .inl (List.drop_eq_nil_of_le (by omega)))|(have q:=hc22;simp at q;exact .inr (List.drop_eq_nil_of_le (by omega)))
  refine rn ?_;refine z7 rfl (j4 rfl rfl (by simp only [oM,List.length_drop];omega) rfl (fun s51=> ?_) (zer _))
  refine j9 s51 fun sv1 hsv1=> ?_
  subst hsv1
  refine rn ?_;refine z7 rfl (j4 rfl rfl (by simp only [oM,List.length_append,List.length_drop];omega) rfl (fun s53=> ?_) (zer _))
  refine j9 s53 fun sv2 hsv2=> ?_
  subst hsv2
  refine rn ?_;refine ⟨fun l h=>(by cases h),?_⟩
  exact zal rfl (.refl _ _) ⟨sv2,by rw [←hm,ztt cmp hov,List.map_append,List.map_append,List.append_assoc],rfl⟩
 ·refine rn ?_;refine z8 rfl (fun hc22=> ?_) (fun hc22=> ?_)
  ·have hov:a.drop i= []∨b.drop j= []:=by first|(have q:=hg3_3;simp at q;exact .inl (List.drop_eq_nil_of_le (by omega)))|(have q:=hc22;simp at q;exact .inr (List.drop_eq_nil_of_le (by omega)))
   refine rn ?_;refine z7 rfl (j4 rfl rfl (by simp only [oM,List.length_drop];omega) rfl (fun s51=> ?_) (zer _))
   refine j9 s51 fun sv1 hsv1=> ?_
   subst hsv1
   refine rn ?_;refine z7 rfl (j4 rfl rfl (by simp only [oM,List.length_append,List.length_drop];omega) rfl (fun s53=> ?_) (zer _))
   refine j9 s53 fun sv2 hsv2=> ?_
   subst hsv2
   refine rn ?_;refine ⟨fun l h=>(by cases h),?_⟩
   exact zal rfl (.refl _ _) ⟨sv2,by rw [←hm,ztt cmp hov,List.map_append,List.map_append,List.append_assoc],rfl⟩
  ·have hi:i < a.length:=by have q:=hg3_3;simp at q;omega
   have hj:j < b.length:=by have q:=hc22;simp at q;omega
   have ia:((a.drop i).map j5)[0]? =some (j5 a[i]):=by rw [List.getElem?_map,List.getElem?_drop,Nat.add_zero,List.getElem?_eq_getElem hi];rfl
   have ib:((b.drop j).map j5)[0]? =some (j5 b[j]):=by rw [List.getElem?_map,List.getElem?_drop,Nat.add_zero,List.getElem?_eq_getElem hj];rfl
   refine rn ?_;refine zaf 7 rfl ?_
   refine dq rfl rfl qrA ?_;refine dq rfl rfl qrA ?_;refine dq rfl rfl (zbb rfl rfl (by decide) ib) ?_
   refine dq rfl rfl qrA ?_;refine dq rfl rfl qrA ?_;refine dq rfl rfl (zbb rfl rfl (by decide) ia) ?_
   refine rn ?_;refine qv rfl rfl (y4 rfl rfl (y0.pure (R:=fun r=>r=iv (cmp b[j] a[i])) (hp b[j] a[i]))) ?_
   refine rn ?_;refine z8 rfl (fun hc31=> ?_) (fun hc31=> ?_)
   ·have hlt:cmp b[j] a[i] < 0:=oT hc31
    refine zuo 9 [5] [8] (fun he=>∃s' rows,he= [.row s' 7 41 rows]) rfl rfl ⟨_,_,rfl⟩ ?_
    refine jq rfl (fun he hC=>by obtain ⟨s2,rows,rfl⟩:=hC <;> exact qrA) ?_
    refine jq rfl (fun he hC=>by obtain ⟨s2,rows,rfl⟩:=hC <;> exact qrA) ?_
    refine jq rfl (fun he hC=>by obtain ⟨s2,rows,rfl⟩:=hC <;> exact (by exact zbb rfl rfl (by decide) ib)) ?_
    refine jq rfl (fun he hC=>by obtain ⟨s2,rows,rfl⟩:=hC <;> exact qrA) ?_
    refine jv rfl (fun he hC=>by obtain ⟨s2,rows,rfl⟩:=hC <;> exact (by exact q6 rfl rfl)) ?_
    refine je rfl ?_;refine jq rfl (fun he hC=>by obtain ⟨s2,rows,rfl⟩:=hC <;> exact qrA) ?_
    refine jq rfl (fun he hC=>by obtain ⟨s2,rows,rfl⟩:=hC <;> exact (by exact zgy (zgo (l:=1) rfl rfl (by simp;omega)) (show AV.list false 7 _= .list false 7 ((b.drop (j+1)).map j5) by rw [←List.map_drop,List.drop_drop]))) ?_
    refine je rfl ?_;refine yaq ?_;refine jce rfl fun u=> ?_
    refine j4 rfl rfl (by simp only [oM,List.length_cons,List.length_nil];omega) rfl (fun s46=>⟨_,_,rfl,⟨_,_,rfl⟩,?_⟩) (zer [b[j]])
    refine jcn ?_;refine lq rfl rfl (by exact qrA) ?_
    refine ln ?_;refine j9 s46 fun sv hsv=> ?_
    subst hsv
    refine rn ?_;exact ⟨(i,j+1,p++ [b[j]],sv),⟨hi0,hj,by simp;omega,by rw [←hm,yn6 cmp hi hj hlt,List.append_assoc];rfl⟩,by rw [List.map_append];exact eA,by simp only;omega⟩
   ·have hlt:¬cmp b[j] a[i] < 0:=oF hc31
    refine zuo 9 [5] [8] (fun he=>∃s' rows,he= [.row s' 7 41 rows]) rfl rfl ⟨_,_,rfl⟩ ?_
    refine jq rfl (fun he hC=>by obtain ⟨s2,rows,rfl⟩:=hC <;> exact qrA) ?_
    refine jq rfl (fun he hC=>by obtain ⟨s2,rows,rfl⟩:=hC <;> exact qrA) ?_
    refine jq rfl (fun he hC=>by obtain ⟨s2,rows,rfl⟩:=hC <;> exact (by exact zbb rfl rfl (by decide) ia)) ?_
    refine jq rfl (fun he hC=>by obtain ⟨s2,rows,rfl⟩:=hC <;> exact qrA) ?_
    refine jv rfl (fun he hC=>by obtain ⟨s2,rows,rfl⟩:=hC <;> exact (by exact q6 rfl rfl)) ?_
    refine je rfl ?_;refine jq rfl (fun he hC=>by obtain ⟨s2,rows,rfl⟩:=hC <;> exact qrA) ?_
    refine jq rfl (fun he hC=>by obtain ⟨s2,rows,rfl⟩:=hC <;> exact (by exact zgy (zgo (l:=1) rfl rfl (by simp;omega)) (show AV.list false 7 _= .list false 7 ((a.drop (i+1)).map j5) by rw [←List.map_drop,List.drop_drop]))) ?_
    refine je rfl ?_;refine yaq ?_;refine jce rfl fun u=> ?_
    refine j4 rfl rfl (by simp only [oM,List.length_cons,List.length_nil];omega) rfl (fun s46=>⟨_,_,rfl,⟨_,_,rfl⟩,?_⟩) (zer [a[i]])
    refine jcn ?_;refine lq rfl rfl (by exact qrA) ?_
    refine ln ?_;refine j9 s46 fun sv hsv=> ?_
    subst hsv
    refine rn ?_;exact ⟨(i+1,j,p++ [a[i]],sv),⟨hi,hj0,by simp;omega,by rw [←hm,yn7 cmp hi hj hlt,List.append_assoc];rfl⟩,by rw [List.map_append];exact eA,by simp only;omega⟩
end Go.Proofs
namespace Go.Ab
open Go
section
variable {P:Program} {ro:Option Nat} {nt:Nat} {c:Code} {Q:Exit→St→Prop} {t:Fr} {h:List Res} {ds:List Nat}
theorem zgi {σ:Type} (n:Nat) (p:Nat→σ→Prop) (inv:Nat→σ→St) (x0:σ) (hp:p 0 x0) (h0:Ent nt ⟨t,h,ds⟩ (inv 0 x0))
 (round:∀k x,k≤n→p k x→aw P ro nt c (thn (fun s'=>k < n∧∃x',p (k+1) x'∧Ent nt s' (inv (k+1) x')) Q) (inv k x)):aw P ro nt (.loop c) Q ⟨t,h,ds⟩:=
 zaj (fun x:Nat×σ=>x.1≤n∧p x.1 x.2) (fun x=>inv x.1 x.2) (fun x=>n - x.1) (0,x0) ⟨Nat.zero_le _,hp⟩ h0 fun x hk=>zhp (fun e s' hq=>by
  cases e with
  |normal=>
   obtain ⟨h1,x',h2,h3⟩:=hq
   exact ⟨(x.1+1,x'),⟨h1,h2⟩,h3,by simp only;omega⟩
  |_=>exact hq) (round x.1 x.2 hk.1 hk.2)
end
end Go.Ab
set_option maxRecDepth 10000
namespace Go.Proofs
open Go Go.Ab
attribute [local irreducible] QR QV OE zb7 aw zcp zb6 zbf zat thn zey zc1 jch zeo
open Go.H
theorem zz2 (x:List (SV×List Conf)) (sr:SV) (b5 b3 k:Nat) (hk:k+1=x.length) (hx:x.length≤1000000000):y8 Tryz.prog 169 [iv k,pZ b5,pZ b3] (.row sr.v 1 35 (zby x):: .box b5 96 [.v sr.v]:: []) (fun r h'=>h'= .row sr.v 1 35 (zby x):: .box b5 96 [.v sr.v]:: []∧r= .v (x[k]'(by omega)).1.v):=by
 refine z6 Tryz.func169 rfl rfl rfl ?_
 refine w8 (y7 ?_)
 refine q1 ?_;refine j6 (zan ?_)
 refine w8 ?_;refine w8 (y7 ?_)
 refine q1 ?_;refine qq rfl rfl (zc5 rfl rfl rfl (by omega)) ?_
 refine q1 ?_;refine q1 ?_;refine qq rfl rfl (zak (c:=true) rfl rfl (congrArg some (by rw [oM];simp;omega))) ?_
 refine rn ?_;refine z8 rfl (fun hc9=> ?_) (fun hc9=> ?_)
 ·refine w8 (y7 ?_)
  refine q1 ?_;refine q1 ?_;refine qq rfl rfl (zb2 (k:=k) rfl rfl (by rw [oM];omega)) ?_
  refine qq rfl rfl (zb9 rfl (zly (by omega)) rfl) ?_
  refine rn ?_;refine rq 0 ?_
  exact ⟨rfl,rfl⟩
 ·first|cases hc9|exact absurd hc9 (by decide)|(exfalso;simp_all;done)
theorem ztg (l:List Conf):∀r∈l.map j5,∀a∈r,Scal a:=by
 intro r hr a ha
 obtain ⟨c,_,rfl⟩:=List.mem_map.1 hr
 simp only [j5,List.mem_cons,List.not_mem_nil,or_false] at ha
 rcases ha with rfl|rfl|rfl|rfl|rfl|rfl|rfl <;> exact .v _
theorem zz1 (x:List (SV×List Conf)) (sr:SV) (b5 b3 k:Nat) (hk:k+1 < x.length) (hx:x.length≤1000000000) (ha:∀p∈x,p.2.length≤1000000000) (fv:AV) (cmp:Conf→Conf→Int) (hp:∀x y,y0 Tryz.prog fv [.agg (j5 x),.agg (j5 y)] [] (fun r h'=>h'= []∧r=iv (cmp x y))):y8 Tryz.prog 169 [iv k,pZ b5,pZ b3] (.row sr.v 1 35 (zby x):: .box b5 96 [.v sr.v]:: .box b3 64 [fv]:: .row (x[k]'(by omega)).1.v 7 41 ((x[k]'(by omega)).2.map j5):: .row (x[k+1]).1.v 7 41 ((x[k+1]).2.map j5):: []) (fun r h'=>∃s:SV,h'= .row s.v 7 41 ((mrg cmp (x[k]'(by omega)).2 (x[k+1]).2).map j5):: .row sr.v 1 35 (zby x):: .box b5 96 [.v sr.v]:: .box b3 64 [fv]:: .row (x[k]'(by omega)).1.v 7 41 ((x[k]'(by omega)).2.map j5):: .row (x[k+1]).1.v 7 41 ((x[k+1]).2.map j5):: []∧r= .v s.v):=by
 refine z6 Tryz.func169 rfl rfl rfl ?_
 refine w8 (y7 ?_)
 refine q1 ?_;refine j6 (zan ?_)
 refine w8 ?_;refine w8 (y7 ?_)
 refine q1 ?_;refine qq rfl rfl (zc5 rfl rfl rfl (by omega)) ?_
 refine q1 ?_;refine q1 ?_;refine qq rfl rfl (zak (c:=false) rfl rfl (congrArg some (by rw [oM];simp;omega))) ?_
 refine rn ?_;refine z8 rfl (fun hc9=> ?_) (fun hc9=> ?_)
 ·first|cases hc9|exact absurd hc9 (by decide)|(exfalso;simp_all;done)
 ·refine rn ?_;refine zaf 10 rfl ?_
  refine dq rfl rfl qrA ?_;refine dq rfl rfl qrA ?_;refine dq rfl rfl (zb2 (k:=k) rfl rfl (by rw [oM];omega)) ?_
  refine dq rfl rfl (zb9 rfl (zly (by omega)) rfl) ?_
  refine dq rfl rfl qrA ?_;refine dq rfl rfl qrA ?_;refine dq rfl rfl (zc5 rfl rfl rfl (by omega)) ?_
  refine dq rfl rfl (zb2 (k:=k+1) rfl rfl (by rw [oM];omega)) ?_
  refine dq rfl rfl (zb9 rfl (zly hk) rfl) ?_
  refine rn ?_;refine z7 rfl (v6 rfl rfl (y0.lendG (y0.of_fun (zyi (x[k]'(by omega)).2 (x[k+1]).2 fv cmp hp (ha _ (List.getElem_mem _)) (ha _ (List.getElem_mem _)))) (by rintro _ _ ⟨s,rfl,rfl⟩;exact ⟨.v _,fun x hx=>by rw [List.mem_singleton.1 hx];exact ztf (ztg _)⟩) (BLe.refl _ _) (by exact ⟨zl3,zl3,BLe.refl _ _,trivial⟩)) rfl ?_)
  rintro _ _ ⟨_,rfl,s,rfl,rfl⟩
  refine rn ?_;exact zal rfl (.refl _ _) ⟨s,rfl,rfl⟩
theorem ya9 (l:List Conf) (fv:AV) (hone:fv.cellsOf=some [fv]) (cmp:Conf→Conf→Int) (hp:∀x y,y0 Tryz.prog fv [.agg (j5 x),.agg (j5 y)] [] (fun r h'=>h'= []∧r=iv (cmp x y))) (hl:l.length≤1000000000):y8 Tryz.prog 128 [.list false 7 (l.map j5),fv] [] (fun r h'=>∃s:SV,h'= [.row s.v 7 41 ((zhy cmp l).map j5)]∧r= .v s.v):=by
 refine z6 Tryz.func128 rfl rfl rfl ?_
 refine rn ?_;refine z7 rfl (w7 rfl hone rfl fun b3=> ?_)
 refine rn ?_;refine z7 rfl (y6 rfl fun b5=> ?_)
 refine rn ?_;refine zgi l.length (fun k (z:SV×List (SV×List Conf))=>z.2.map (·.2)=(l.take k).map fun a=> [a]) (fun k z=>⟨[(13,iv k),(0,.list false 7 (l.map j5)),(3,pZ b3),(5,pZ b5),(12,iv (l.map j5).length)],.row z.1.v 1 35 (zby z.2):: .box b5 96 [.v z.1.v]:: .box b3 64 [fv]::zdm 7 41 j5 z.2,[]⟩) (⟨none,0,0⟩,[]) rfl (v8 (zbk 1 35) es) ?_
 rintro k ⟨s,x⟩ lk zk
 simp only at zk
 have hxl:x.length=k:=by have q:=congrArg List.length zk;rw [oM,oM,List.length_take] at q;omega
 show aw _ _ _ _ _ ⟨[(13,iv k),(0,.list false 7 (l.map j5)),(3,pZ b3),(5,pZ b5),(12,iv (l.map j5).length)],.row s.v 1 35 (zby x):: .box b5 96 [.v s.v]:: .box b3 64 [fv]::zdm 7 41 j5 x,[]⟩
 refine rn ?_;refine z8 rfl (fun hc14=> ?_) (fun hc14=> ?_)
 ·have hk:k < l.length:=by have q:=oT hc14;rw [oM] at q;omega
  refine rn ?_;refine z7 rfl (ztq (n:=1) (c:=1) rfl rfl rfl (Nat.le_refl _) (by decide) (hk:=fun b16=> ?_))
  refine j9 (.slice (some ⟨b16,0,none⟩) 1 1) fun s1 hs1=> ?_
  rw [hs1]
  clear hs1
  refine q1 ?_;refine j6 (zan ?_)
  refine w8 (y7 ?_)
  refine q1 ?_;refine q1 ?_;refine q1 ?_;refine q1 ?_;refine qq rfl rfl (zc5 rfl rfl rfl (by omega)) ?_
  refine q1 ?_;refine qq rfl rfl (zc5 rfl rfl rfl (by omega)) ?_
  refine qq rfl rfl (zgy (zpq (l:=k) (k:=k+1) rfl rfl rfl rfl (by omega) (by rw [oM];exact hk)) (show AV.list true 7 _= .list true 7 [j5 l[k]] by rw [yay (by rw [oM];exact hk),List.getElem_map])) ?_
  refine z7 rfl (zvo 1 rfl rfl rfl rfl (hk:= ?_) (zer [l[k]]))
  refine rn ?_;refine qv rfl rfl (q6 rfl rfl) ?_
  refine z7 rfl (j4 rfl rfl (by simp only [oM,List.length_cons,List.length_nil];omega) rfl (fun s29=> ?_) (zld s1))
  refine j9 s29 fun sv hsv=> ?_
  subst hsv
  refine rn ?_;exact ⟨hk,(sv,x++ [(s1,[l[k]])]),by simp only;rw [List.map_append,zk,List.take_succ_eq_append_getElem hk,List.map_append];rfl,v8 (zah (zcm [_] _)) (by simp only;rw [zho,zit];exact es)⟩
 ·have qk:k=l.length:=by have q:=oF hc14;rw [oM] at q;omega
  refine rn ?_;refine zow (fun z:SV×List (SV×List Conf)=>zpb cmp (z.2.map (·.2))=zpb cmp (l.map fun a=> [a])∧(z.2.map (·.2)).flatten.length=l.length∧z.2.length≤l.length) (fun z=>⟨[(5,pZ b5),(8,.fn (.func 169) [] [pZ b5,pZ b3])],.row z.1.v 1 35 (zby z.2):: .box b5 96 [.v z.1.v]:: .box b3 64 [fv]::zdm 7 41 j5 z.2,[]⟩) (fun z=>z.2.length) (s,x) ⟨by simp only;rw [zk,qk,List.take_length],by simp only;rw [zk,qk,List.take_length,ycj],by simp only;omega⟩ es ?_
  rintro ⟨sr,x⟩ ⟨zk,hfl,hxl⟩
  simp only at zk hfl hxl
  show aw _ _ _ _ _ ⟨[(5,pZ b5),(8,.fn (.func 169) [] [pZ b5,pZ b3])],.row sr.v 1 35 (zby x):: .box b5 96 [.v sr.v]:: .box b3 64 [fv]::zdm 7 41 j5 x,[]⟩
  refine rn ?_;refine z8 rfl (fun hc34=> ?_) (fun hc34=> ?_)
  ·have h1:1 < x.length:=by have q:=oT hc34;rw [ze7] at q;omega
   have hcl:=ze7 x
   have hxa:∀p∈x,p.2.length≤1000000000:=fun p hm=>Nat.le_trans (ydj (show p.2∈x.map (·.2) from List.mem_map_of_mem hm)) (by rw [hfl];exact hl)
   refine za0 ?_;refine zan ?_;refine zdl ?_;refine w8 (y7 ?_)
   refine q1 ?_;refine j6 (zan ?_)
   refine w8 ?_;refine w8 (y7 ?_)
   refine q1 ?_;refine q1 ?_;refine qq rfl rfl (zc5 rfl rfl rfl (by omega)) ?_
   refine qq rfl rfl (ykk (c:=(((((zby x).length+1) / 2):Nat):Int)) rfl rfl (by decide) rfl (by omega)) ?_
   refine rn ?_;rw [zuz x]
   refine zgi (((zby x).length+1) / 2) (fun i (z:SV×List (SV×List Conf))=>z.2.map (·.2)=(zbe cmp (x.map (·.2))).take i) (fun i z=>⟨[(39,iv i),(9,.v z.1.v),(5,pZ b5),(8,.fn (.func 169) [] [pZ b5,pZ b3]),(38,iv ((((zby x).length+1) / 2):Nat))],.row z.1.v 1 35 (zby z.2):: .row sr.v 1 35 (zby x):: .box b5 96 [.v sr.v]:: .box b3 64 [fv]::(zdm 7 41 j5 (x.drop (2 * i))++zdm 7 41 j5 z.2),[]⟩) (⟨none,0,0⟩,[]) rfl (v8 (zbk 1 35) es) ?_
   rintro i ⟨sn,y⟩ li zi
   simp only at zi
   show aw _ _ _ _ _ ⟨[(39,iv i),(9,.v sn.v),(5,pZ b5),(8,.fn (.func 169) [] [pZ b5,pZ b3]),(38,iv ((((zby x).length+1) / 2):Nat))],.row sn.v 1 35 (zby y):: .row sr.v 1 35 (zby x):: .box b5 96 [.v sr.v]:: .box b3 64 [fv]::(zdm 7 41 j5 (x.drop (2 * i))++zdm 7 41 j5 y),[]⟩
   refine rn ?_;refine z8 rfl (fun hc40=> ?_) (fun hc40=> ?_)
   ·have hi:i < (((zby x).length+1) / 2):=by have q:=oT hc40;omega
    have hyl:y.length=i:=by have q:=congrArg List.length zi;rw [oM,List.length_take,zca,oM] at q;omega
    refine za0 ?_;refine zan ?_;refine w8 ?_;refine zdl ?_;refine w8 (y7 ?_)
    refine q1 ?_;refine q1 ?_;refine j6 (zan ?_)
    refine y7 ?_;refine q1 ?_;refine q1 ?_;refine q1 ?_;refine qq rfl rfl (zc5 rfl rfl rfl (by omega)) ?_
    by_cases ho:2 * i+1=x.length
    refine z7 rfl (v6 rfl rfl (y0.qt (y0.of_acall (fs:= []) (cs:= [pZ b5,pZ b3]) (zz2 x sr b5 b3 (2 * i) ho (by omega))) ((pt1 _ _ _).trans (.cons _ (pt1 _ _ _)))) rfl ?_)
    rintro _ _ ⟨rfl,rfl⟩
    rotate_left
    rw [ziu (x:=x) (k:=2 * i) (by omega),ziu (x:=x) (k:=2 * i+1) (by omega),List.cons_append,List.cons_append]
    refine z7 rfl (v6 rfl rfl (y0.fr (y0.of_acall (fs:= []) (cs:= [pZ b5,pZ b3]) (zz1 x sr b5 b3 (2 * i) (by omega) (by omega) hxa fv cmp hp)) ((pt1 _ _ _).trans (.cons _ ((pt1 _ _ _).trans (.cons _ ((pt1 _ _ _).trans (.cons _ ((pt1 _ _ _).trans (.cons _ (pt1 _ _ _)))))))))) rfl ?_)
    rintro _ _ ⟨_,rfl,m,rfl,rfl⟩
    refine zgv (zah (pt6 _ _ _ _ _ _ _ _)) ?_
    rotate_right
    ·refine qv rfl rfl (q6 rfl rfl) ?_
     refine z7 rfl (j4 rfl rfl (by simp only [oM,List.length_cons,List.length_nil];omega) rfl (fun s48=> ?_) (zld _))
     refine j9 s48 fun sv hsv=> ?_
     subst hsv
     refine rn ?_;exact ⟨hi,(sv,y++ [x[2 * i]'(by omega)]),by simp only;rw [List.map_append,zi,zpx cmp (by rw [oM];omega),yca cmp (by rw [oM];exact ho),List.getElem_map];rfl,v8 (zah (.cons _ (.cons _ (.cons _ (.cons _ (ya0 ho)))))) (by simp only;rw [zho];exact es)⟩
    ·refine qv rfl rfl (q6 rfl rfl) ?_
     refine z7 rfl (j4 rfl rfl (by simp only [oM,List.length_cons,List.length_nil];omega) rfl (fun s48=> ?_) (zld _))
     refine j9 s48 fun sv hsv=> ?_
     subst hsv
     refine rn ?_;exact ⟨hi,(sv,y++ [(m,mrg cmp (x[2 * i]'(by omega)).2 (x[2 * i+1]'(by omega)).2)]),by simp only;rw [List.map_append,zi,zpx cmp (by rw [oM];omega),yb9 cmp (by rw [oM];omega),List.getElem_map,List.getElem_map];rfl,v8 (zah ((pt5 _ _ _ _ _ _ _).trans (.cons _ ((pt5 _ _ _ _ _ _ _).trans (.cons _ (.cons _ ((pt1 _ _ _).trans (.cons _ ((pt1 _ _ _).trans (.cons _ (pt1 _ _ _))))))))))) (v8 (zed (h1:= [_,_])) (v8 (zah (.cons _ (.cons _ (.cons _ (.cons _ yaz))))) (by simp only;rw [zho];exact es)))⟩
   ·have qi:i=(((zby x).length+1) / 2):=by have q:=oF hc40;omega
    refine rn ?_;exact ⟨(sn,y),⟨by simp only;rw [zi,zkb cmp (by rw [oM];omega),←znt cmp (by rw [oM];exact h1)];exact zk,by simp only;rw [zi,zkb cmp (by rw [oM];omega),(zhj cmp _).length_eq];exact hfl,by simp only;have q:=congrArg List.length zi;rw [oM,zkb cmp (by rw [oM];omega),zca,oM] at q;omega⟩,v8 (zah (pt1 _ _ _)) (v8 (zed (h1:= [_])) (by rw [ya1 (by omega)];exact es)),by simp only;have q:=congrArg List.length zi;rw [oM,zkb cmp (by rw [oM];omega),zca,oM] at q;omega⟩
  ·have h1:¬1 < x.length:=by have q:=oF hc34;rw [ze7] at q;omega
   refine rn ?_;refine z8 rfl (fun hc53=> ?_) (fun hc53=> ?_)
   ·have h0:x.length=0:=by have q:=oT (show decide (((zby x).length:Int)=0)=true from hc53);rw [ze7] at q;omega
    obtain rfl:=List.length_eq_zero_iff.1 h0
    refine rn ?_;exact zal rfl (.trans (.drop [_,_,_] _ _) (zaa 7 41 _)) ⟨⟨none,0,0⟩,by rw [ya7 cmp zk rfl];rfl,rfl⟩
   ·have h0:¬x.length=0:=by intro q;have e:(((zby x).length:Int)==0)=false:=hc53;rw [ze7,q] at e;cases e
    obtain ⟨p,rfl⟩:=List.length_eq_one_iff.1 (show x.length=1 by omega)
    refine za0 ?_;refine zan ?_;refine w8 (y7 ?_)
    refine q1 ?_;refine qq rfl rfl (zb2 (k:=0) rfl rfl (show 0 < (zby [p]).length from Nat.zero_lt_one)) ?_
    refine qq rfl rfl (zb9 rfl rfl rfl) ?_
    refine rn ?_;exact zal rfl (.drop [_,_,_] _ _) ⟨p.1,by rw [ya6 cmp zk];rfl,rfl⟩
theorem zyx (h:Hist) (la:Lim 4611686018427387904 h):y8 Tryz.prog 38 [.agg (y9 h)] [.glob 2 156 y2,.glob 4 305 y3,.glob 5 308 y1,.glob 3 246 w9] (fun r h'=>h'= [.glob 2 156 y2,.glob 4 305 y3,.glob 5 308 y1,.glob 3 246 w9]∧r=iv (u3 h)):=by
 refine z6 Tryz.func38 rfl rfl rfl ?_
 refine rn ?_;refine z7 rfl (w7 rfl rfl rfl fun b1=> ?_)
 refine rn ?_;refine qv rfl rfl (y4 rfl rfl (y0.qt (y0.of_fun (ymn h la)) ((pt1 _ _ _).trans (.cons _ ((pt1 _ _ _).trans (.cons _ (pt1 _ _ _))))))) ?_
 refine rn ?_;refine z8 rfl (fun hc7=> ?_) (fun hc7=> ?_)
 ·have hm:¬zfp h=true:=by intro q;rw [zdk,if_pos q] at hc7;cases hc7
  have he:zdk h=210:=by rw [zdk,if_neg hm]
  refine rn ?_;refine rq 1 ?_
  exact ⟨rfl,by rw [u3,if_neg hm,he];rfl⟩
 ·have hm:zfp h=true:=zzx.1 (by simpa using hc7)
  refine rn ?_;refine qv rfl rfl (y4 rfl rfl (y0.qt (y0.of_fun (yj7 h la)) ((pt1 _ _ _).trans (.cons _ ((pt1 _ _ _).trans (.cons _ ((pt1 _ _ _).trans (.cons _ (pt1 _ _ _))))))))) ?_
  refine rn ?_;refine z8 rfl (fun hc11=> ?_) (fun hc11=> ?_)
  ·refine rn ?_;refine rq 1 ?_
   exact ⟨rfl,by rw [u3,if_pos hm];simp_all;rfl⟩
  ·refine rn ?_;refine rq 1 ?_
   exact ⟨rfl,by rw [u3,if_pos hm];simp_all;rfl⟩
theorem zob (h:Hist) (kd:Int) (W:List Res):y8 Tryz.prog 218 [.agg (y9 h),iv kd] W (fun r h'=>∃b1 b2,h'= .box b1 28 (y9 h):: .box b2 3 [iv kd]::W∧r= .fn (.func 264) [] [pZ b1,pZ b2]):=by
 refine z6 Tryz.func218 rfl rfl rfl ?_
 refine rn ?_;refine z7 rfl (w7 rfl rfl rfl fun b2=> ?_)
 refine z7 rfl (w7 rfl rfl rfl fun b3=> ?_)
 refine rn ?_;exact zal rfl (.perm (pt1 _ _ _) _) ⟨_,_,rfl,rfl⟩
theorem zlh {σ:Type} (h:Hist) (la:h.evs.length≤1000000) (kd:Int) (y:AV) (b1 b2:Nat) (p q:Nat→σ→Prop) (I F:Nat→σ→List Res) (x0:σ) (hp0:p 0 x0) (hy:∀k x,(hk:k < h.evs.length)→p k x→(h.evs[k].kind==kd)=true→y0 Tryz.prog y [iv k,.agg (evR h.evs[k])] (.box b1 28 (y9 h):: .box b2 3 [iv kd]::I k x) (fun r h'=>∃x',(r=bv true∧p (k+1) x'∧h'= .box b1 28 (y9 h):: .box b2 3 [iv kd]::I (k+1) x')∨(r=bv false∧q k x'∧h'= .box b1 28 (y9 h):: .box b2 3 [iv kd]::F k x'))) (hs:∀k x,(hk:k < h.evs.length)→p k x→(h.evs[k].kind==kd)=false→∃x',p (k+1) x'∧I (k+1) x'=I k x):y8 Tryz.prog 264 [y,pZ b1,pZ b2] (.box b1 28 (y9 h):: .box b2 3 [iv kd]::I 0 x0) (fun r h'=>(∃x,p h.evs.length x∧h'=I h.evs.length x)∨∃k x,q k x∧h'=F k x):=by
 refine z6 Tryz.func264 rfl rfl rfl ?_
 refine rn ?_;refine zgi h.evs.length p (fun k x=>⟨[(9,iv k),(0,y),(2,pZ b2),(7,zwj h.evs),(8,iv (h.evs.map evR).length)],.box b1 28 (y9 h):: .box b2 3 [iv kd]::I k x,[]⟩) x0 hp0 es ?_
 intro k x lk zk
 refine rn ?_;refine z8 rfl (fun hc10=> ?_) (fun hc10=> ?_)
 ·have hk:=zd2 hc10
  have rk:=zcb (f:=evR) hk
  refine rn ?_;refine z7 rfl (y6 rfl fun b5=> ?_)
  refine rn ?_;refine u4 (fun hg3_4=> ?_) (fun hg3_4=> ?_)
  ·refine q1 ?_;refine q1 ?_;refine q1 ?_;refine z7 rfl (v6 rfl rfl (y0.fr1 (hy k x hk zk (by simpa using hg3_4))) rfl ?_)
   rintro _ _ ⟨_,rfl,x',⟨rfl,hp,rfl⟩|⟨rfl,hq,rfl⟩⟩
   ·refine rn ?_;refine z8 rfl (fun hc24=> ?_) (fun hc24=> ?_)
    ·first|cases hc24|exact absurd hc24 (by decide)|(exfalso;simp_all;done)
    ·refine rn ?_;exact ⟨hk,x',hp,eA⟩
   ·refine rn ?_;refine z8 rfl (fun hc24=> ?_) (fun hc24=> ?_)
    ·refine rn ?_;exact zd0 .nil (.drop [_,_,_] _ _) (.inr ⟨k,x',hq,rfl⟩)
    ·first|cases hc24|exact absurd hc24 (by decide)|(exfalso;simp_all;done)
  ·refine rn ?_;refine zq5 rfl ?_;refine rn ?_;obtain ⟨x',hp,e⟩:=hs k x hk zk (by simpa using hg3_4)
   exact ⟨hk,x',hp,by rw [e];exact eA⟩
 ·have qk:=zd4 hc10 lk
  subst qk
  refine rn ?_;exact zeq .nil (.drop [_,_] _ _) (.inl ⟨x,zk,rfl⟩)
def zi4 {α:Type} (kd:Int) (x:Nat→Ev→α) (p:Nat→Ev→Bool) (k:Nat) (e:Ev):Option α:=if (e.kind==kd && p k e)=true then some (x k e) else none
theorem yey {α:Type} {kd:Int} {x:Nat→Ev→α} {p:Nat→Ev→Bool} {k:Nat} {e:Ev} (h:(e.kind==kd)=false):zi4 kd x p k e=none:=by rw [zi4,h];simp
theorem yex {α:Type} {kd:Int} {x:Nat→Ev→α} {p:Nat→Ev→Bool} {k:Nat} {e:Ev} (h:p k e=false):zi4 kd x p k e=none:=by rw [zi4,h];simp
theorem yew {α:Type} {kd:Int} {x:Nat→Ev→α} {p:Nat→Ev→Bool} {k:Nat} {e:Ev} (h1:(e.kind==kd)=true) (h:p k e=true):zi4 kd x p k e=some (x k e):=by rw [zi4,h1,h];simp
theorem zt3 {α:Type} {f:Nat→Ev→Option α} {l:List Ev} {k:Nat} (h:k < l.length) (hf:f k l[k]=none):zez f l (k+1)=zez f l k:=by rw [zt2 h,hf];simp
theorem yev {α:Type} {f:Nat→Ev→Option α} {l:List Ev} {k:Nat} {a:α} (h:k < l.length) (hf:f k l[k]=some a):zez f l (k+1)=zez f l k++ [a]:=by rw [zt2 h,hf];rfl
def zjv (f:Ver×Nat):List AV:= [iv f.1.t,iv f.1.k,iv f.2]
theorem yg8 (l:List (Ver×Nat)):∀r∈l.map zjv,r.all AV.one=true:=by
 intro r hr;obtain ⟨a,_,rfl⟩:=List.mem_map.1 hr;rfl
theorem yep (h:Hist) (la:h.evs.length≤1000000) (kd:Int) (fv:AV) (hone:fv.cellsOf=some [fv]) (W:List Res) (x:Nat→Ev→Int) (p:Nat→Ev→Bool) (hp:∀k,(hk:k < h.evs.length)→(h.evs[k].kind==kd)=true→y0 Tryz.prog fv [iv k,.agg (evR h.evs[k])] W (fun r h'=>h'=W∧r= .tup [iv (x k h.evs[k]),bv (p k h.evs[k])])):y8 Tryz.prog 173 [.agg (y9 h),iv kd,fv] W (fun r h'=>∃s:SV,h'= .row s.v 1 3 ((zez (zi4 kd x p) h.evs h.evs.length).map zbo)::W∧r= .v s.v):=by
 refine z6 Tryz.func173 rfl rfl rfl ?_
 refine rn ?_;refine z7 rfl (w7 rfl rfl rfl fun b3=> ?_)
 refine z7 rfl (w7 rfl hone rfl fun b5=> ?_)
 refine rn ?_;refine z7 rfl (y6 rfl fun b7=> ?_)
 refine rn ?_;refine z7 rfl (v6 rfl rfl (y0.of_fun (zob h kd _)) rfl ?_)
 rintro _ _ ⟨b1,b2,rfl,rfl⟩
 refine rn ?_;refine zfo (s':=⟨[(14,.fn (.func 264) [] [pZ b1,pZ b2]),(5,pZ b5),(7,pZ b7)],.box b1 28 (y9 h):: .box b2 3 [iv kd]:: .box b7 29 [.v (⟨none,0,0⟩:SV).v]:: .row (⟨none,0,0⟩:SV).v 1 3 ((zez (zi4 kd x p) h.evs 0).map zbo):: .box b5 216 [fv]:: .box b3 28 (y9 h)::W,[]⟩) (v8 (v8 (zbk 1 3) (zah ((pt1 _ _ _).trans (.cons _ ((pt1 _ _ _).trans (.cons _ (pt1 _ _ _))))))) es) ?_
 refine zl7 (fun pend h''=>pend=none∧∃s:SV,h''= .box b7 29 [.v s.v]:: .row s.v 1 3 ((zez (zi4 kd x p) h.evs h.evs.length).map zbo):: .box b5 216 [fv]:: .box b3 28 (y9 h)::W) rfl (fun fn l q lp hlp=> ?_) (fun q h'' hK=> ?_) (fun q h'' c hK=> ?_)
 ·suffices hy:∀k (s:SV),(hk:k < h.evs.length)→True→(h.evs[k].kind==kd)=true→y0 Tryz.prog (yv l) [iv k,.agg (evR h.evs[k])] (.box b1 28 (y9 h):: .box b2 3 [iv kd]::lp .ready none:: .defs q:: .box b7 29 [.v s.v]:: .row s.v 1 3 ((zez (zi4 kd x p) h.evs k).map zbo):: .box b5 216 [fv]:: .box b3 28 (y9 h)::W) (fun r h'=>∃s':SV,(r=bv true∧True∧h'= .box b1 28 (y9 h):: .box b2 3 [iv kd]::lp .ready none:: .defs q:: .box b7 29 [.v s'.v]:: .row s'.v 1 3 ((zez (zi4 kd x p) h.evs (k+1)).map zbo):: .box b5 216 [fv]:: .box b3 28 (y9 h)::W)∨(r=bv false∧False∧h'= .box b1 28 (y9 h):: .box b2 3 [iv kd]:: [])) by
   refine y8.mono (y8.perm ((pt2 _ _ _ _).trans (.cons _ (pt2 _ _ _ _))) (zlh h la kd (yv l) b1 b2 (fun _ _=>True) (fun _ _=>False) (fun k (s:SV)=>lp .ready none:: .defs q:: .box b7 29 [.v s.v]:: .row s.v 1 3 ((zez (zi4 kd x p) h.evs k).map zbo):: .box b5 216 [fv]:: .box b3 28 (y9 h)::W) (fun _ _=> []) ⟨none,0,0⟩ trivial hy (fun k s hk _ hn=>⟨s,trivial,by rw [zt3 hk (yey hn)]⟩))) ?_
   rintro _ _ (⟨s,_,rfl⟩|⟨_,_,hF,_⟩)
   ·exact ⟨none,.ready,_,.refl _,by simp,rfl,s,rfl⟩
   ·exact hF.elim
  intro k s hk _ hkd
  refine y0.perm (pt2 _ _ _ _) (y0.ventE ?_)
  refine zdj hlp rfl rfl ?_
  refine rn ?_;refine z7 rfl (y6 rfl fun b9=> ?_)
  refine rn ?_;refine ⟨[(8,iv k),(9,pZ b9),(5,pZ b5),(7,pZ b7)],.box b9 60 (evR h.evs[k]):: .box b1 28 (y9 h):: .box b2 3 [iv kd]:: .defs q:: .box b7 29 [.v s.v]:: .row s.v 1 3 ((zez (zi4 kd x p) h.evs k).map zbo):: .box b5 216 [fv]:: .box b3 28 (y9 h)::W,v8 (zah (pt1 _ _ _)) es,?_⟩
  refine rn ?_;refine qv rfl rfl (y4 rfl rfl (y0.qt (h2:= [_,_,_,_,_,_,_,_,_]) (hp k hk hkd) (zcm [_,_,_,_,_,_,_,_,_] _))) ?_
  refine rn ?_;refine z8 rfl (fun hc24=> ?_) (fun hc24=> ?_)
  ·refine y7 ?_;refine q1 ?_;refine q1 ?_;refine q1 ?_;refine q1 ?_;refine q1 ?_;refine qq rfl rfl (zm0 rfl (by rfl) (by rfl)) ?_
   refine rn ?_;refine qv rfl rfl (q6 rfl rfl) ?_
   refine zus s.v ?_
   refine z7 rfl (j4 rfl rfl (by simp only [oM,List.length_cons,List.length_nil];have:=zgs (zi4 kd x p) h.evs k;omega) rfl (fun s33=> ?_) (ziy [x k h.evs[k]]))
   refine j9 s33 fun sv hsv=> ?_
   subst hsv
   refine rn ?_;exact zcy (.refl _) ⟨_,_,.trans (.perm ((pt1 _ _ _).trans (.cons _ ((pt1 _ _ _).trans (.cons _ (pt1 _ _ _))))) _) (.drop [_] _ _),sv,.inl ⟨rfl,trivial,by rw [yev hk (yew hkd hc24),List.map_append];rfl⟩⟩
  ·refine rn ?_;exact zcy (.refl _) ⟨_,_,.trans (.perm ((pt1 _ _ _).trans (.cons _ ((pt1 _ _ _).trans (.cons _ (pt1 _ _ _))))) _) (.drop [_] _ _),s,.inl ⟨rfl,trivial,by rw [zt3 hk (yex hc24)]⟩⟩
 ·obtain ⟨_,s,rfl⟩:=hK
  refine rn ?_;exact zgx (.refl _) (.cons _ _ _ _ (.tmp _ _ rfl) .nil) (.trans (.drop1 _ _ _) (.trans (.perm (pt1 _ _ _) _) (.trans (.drop [_] _ _) (.trans (.perm (pt1 _ _ _) _) (.drop [_] _ _))))) ⟨s,rfl,rfl⟩
 ·obtain ⟨hc,_⟩:=hK
  exact absurd hc (by simp)
theorem ylo (h:Hist) (la:h.evs.length≤1000000) (kd:Int) (fv:AV) (hone:fv.cellsOf=some [fv]) (W:List Res) (x:Nat→Ev→Ver×Nat) (p:Nat→Ev→Bool) (hp:∀k,(hk:k < h.evs.length)→(h.evs[k].kind==kd)=true→y0 Tryz.prog fv [iv k,.agg (evR h.evs[k])] W (fun r h'=>h'=W∧r= .tup [.agg (zjv (x k h.evs[k])),bv (p k h.evs[k])])):y8 Tryz.prog 210 [.agg (y9 h),iv kd,fv] W (fun r h'=>∃s:SV,h'= .row s.v 3 139 ((zez (zi4 kd x p) h.evs h.evs.length).map zjv)::W∧r= .v s.v):=by
 refine z6 Tryz.func210 rfl rfl rfl ?_
 refine rn ?_;refine z7 rfl (w7 rfl rfl rfl fun b3=> ?_)
 refine z7 rfl (w7 rfl hone rfl fun b5=> ?_)
 refine rn ?_;refine z7 rfl (y6 rfl fun b7=> ?_)
 refine rn ?_;refine z7 rfl (v6 rfl rfl (y0.of_fun (zob h kd _)) rfl ?_)
 rintro _ _ ⟨b1,b2,rfl,rfl⟩
 refine rn ?_;refine zfo (s':=⟨[(14,.fn (.func 264) [] [pZ b1,pZ b2]),(5,pZ b5),(7,pZ b7)],.box b1 28 (y9 h):: .box b2 3 [iv kd]:: .box b7 197 [.v (⟨none,0,0⟩:SV).v]:: .row (⟨none,0,0⟩:SV).v 3 139 ((zez (zi4 kd x p) h.evs 0).map zjv):: .box b5 257 [fv]:: .box b3 28 (y9 h)::W,[]⟩) (v8 (v8 (zbk 3 139) (zah ((pt1 _ _ _).trans (.cons _ ((pt1 _ _ _).trans (.cons _ (pt1 _ _ _))))))) es) ?_
 refine zl7 (fun pend h''=>pend=none∧∃s:SV,h''= .box b7 197 [.v s.v]:: .row s.v 3 139 ((zez (zi4 kd x p) h.evs h.evs.length).map zjv):: .box b5 257 [fv]:: .box b3 28 (y9 h)::W) rfl (fun fn l q lp hlp=> ?_) (fun q h'' hK=> ?_) (fun q h'' c hK=> ?_)
 ·suffices hy:∀k (s:SV),(hk:k < h.evs.length)→True→(h.evs[k].kind==kd)=true→y0 Tryz.prog (yv l) [iv k,.agg (evR h.evs[k])] (.box b1 28 (y9 h):: .box b2 3 [iv kd]::lp .ready none:: .defs q:: .box b7 197 [.v s.v]:: .row s.v 3 139 ((zez (zi4 kd x p) h.evs k).map zjv):: .box b5 257 [fv]:: .box b3 28 (y9 h)::W) (fun r h'=>∃s':SV,(r=bv true∧True∧h'= .box b1 28 (y9 h):: .box b2 3 [iv kd]::lp .ready none:: .defs q:: .box b7 197 [.v s'.v]:: .row s'.v 3 139 ((zez (zi4 kd x p) h.evs (k+1)).map zjv):: .box b5 257 [fv]:: .box b3 28 (y9 h)::W)∨(r=bv false∧False∧h'= .box b1 28 (y9 h):: .box b2 3 [iv kd]:: [])) by
   refine y8.mono (y8.perm ((pt2 _ _ _ _).trans (.cons _ (pt2 _ _ _ _))) (zlh h la kd (yv l) b1 b2 (fun _ _=>True) (fun _ _=>False) (fun k (s:SV)=>lp .ready none:: .defs q:: .box b7 197 [.v s.v]:: .row s.v 3 139 ((zez (zi4 kd x p) h.evs k).map zjv):: .box b5 257 [fv]:: .box b3 28 (y9 h)::W) (fun _ _=> []) ⟨none,0,0⟩ trivial hy (fun k s hk _ hn=>⟨s,trivial,by rw [zt3 hk (yey hn)]⟩))) ?_
   rintro _ _ (⟨s,_,rfl⟩|⟨_,_,hF,_⟩)
   ·exact ⟨none,.ready,_,.refl _,by simp,rfl,s,rfl⟩
   ·exact hF.elim
  intro k s hk _ hkd
  refine y0.perm (pt2 _ _ _ _) (y0.ventE ?_)
  refine zdj hlp rfl rfl ?_
  refine rn ?_;refine z7 rfl (y6 rfl fun b9=> ?_)
  refine rn ?_;refine ⟨[(8,iv k),(9,pZ b9),(5,pZ b5),(7,pZ b7)],.box b9 60 (evR h.evs[k]):: .box b1 28 (y9 h):: .box b2 3 [iv kd]:: .defs q:: .box b7 197 [.v s.v]:: .row s.v 3 139 ((zez (zi4 kd x p) h.evs k).map zjv):: .box b5 257 [fv]:: .box b3 28 (y9 h)::W,v8 (zah (pt1 _ _ _)) es,?_⟩
  refine rn ?_;refine qv rfl rfl (y4 rfl rfl (y0.qt (h2:= [_,_,_,_,_,_,_,_,_]) (hp k hk hkd) (zcm [_,_,_,_,_,_,_,_,_] _))) ?_
  refine rn ?_;refine z7 rfl (y6 rfl fun b10=> ?_)
  refine rn ?_;refine z8 rfl (fun hc24=> ?_) (fun hc24=> ?_)
  ·refine zaf 8 rfl ?_
   refine dq rfl rfl qrA ?_;refine dq rfl rfl qrA ?_;refine dq rfl rfl qrA ?_;refine dq rfl rfl qrA ?_;refine dq rfl rfl qrA ?_;refine dq rfl rfl (zm0 rfl (by rfl) (by rfl)) ?_
   refine rn ?_;refine dv rfl rfl (q6 rfl rfl) ?_
   refine rn ?_;refine zus s.v ?_
   refine z7 rfl (j4 rfl rfl (by simp only [oM,List.length_cons,List.length_nil];have:=zgs (zi4 kd x p) h.evs k;omega) rfl (fun s33=> ?_) (yg8 [x k h.evs[k]]))
   refine j9 s33 fun sv hsv=> ?_
   subst hsv
   refine rn ?_;exact zcy (pt1 _ _ _) ⟨_,_,.trans (.perm ((pt1 _ _ _).trans (.cons _ ((pt1 _ _ _).trans (.cons _ ((pt1 _ _ _).trans (.cons _ (pt1 _ _ _))))))) _) (.drop [_,_] _ _),sv,.inl ⟨rfl,trivial,by rw [yev hk (yew hkd hc24),List.map_append];rfl⟩⟩
  ·refine rn ?_;exact zcy (pt1 _ _ _) ⟨_,_,.trans (.perm ((pt1 _ _ _).trans (.cons _ ((pt1 _ _ _).trans (.cons _ ((pt1 _ _ _).trans (.cons _ (pt1 _ _ _))))))) _) (.drop [_,_] _ _),s,.inl ⟨rfl,trivial,by rw [zt3 hk (yex hc24)]⟩⟩
 ·obtain ⟨_,s,rfl⟩:=hK
  refine rn ?_;exact zgx (.refl _) (.cons _ _ _ _ (.tmp _ _ rfl) .nil) (.trans (.drop1 _ _ _) (.trans (.perm (pt1 _ _ _) _) (.trans (.drop [_] _ _) (.trans (.perm (pt1 _ _ _) _) (.drop [_] _ _))))) ⟨s,rfl,rfl⟩
 ·obtain ⟨hc,_⟩:=hK
  exact absurd hc (by simp)
theorem yhv (k:Int) (e:Ev):y8 Tryz.prog 174 [iv k,.agg (evR e)] [] (fun r h'=>h'= []∧r= .tup [iv e.t,bv true]):=by
 refine z6 Tryz.func174 rfl rfl rfl ?_
 refine rn ?_;refine z7 rfl (w7 rfl rfl rfl fun b3=> ?_)
 refine rn ?_;refine rq 1 ?_
 exact ⟨rfl,rfl⟩
theorem yhu (k s:Int) (e:Ev) (b2 b3 rm:Nat) (M:List (Int×Bool)):y8 Tryz.prog 209 [iv k,.agg (evR e),pZ b2,pZ b3] [.box b2 3 [iv s],.box b3 115 [mpv rm],.map rm (zag intK (zbc bv M))] (fun r h'=>h'= [.box b2 3 [iv s],.box b3 115 [mpv rm],.map rm (zag intK (zbc bv M))]∧r= .tup [iv e.t,bv (e.o==s && (za7 e.t M).getD false)]):=by
 refine z6 Tryz.func209 rfl rfl rfl ?_
 refine rn ?_;refine z7 rfl (w7 rfl rfl rfl fun b5=> ?_)
 refine rn ?_;refine zaf 13 rfl ?_
 refine rn ?_;refine zco (fun hg1_6=> ?_) (fun hg1_6=> ?_)
 ·refine dq rfl rfl qrA ?_;refine dq rfl rfl qrA ?_;refine dq rfl rfl qrA ?_;refine dq rfl rfl (zbt (enc:=intK) (k:=e.t) false rfl rfl) ?_
  refine rn ?_;refine rq 1 ?_
  exact ⟨rfl,by rw [hg1_6];rfl⟩
 ·refine rn ?_;refine rq 1 ?_
  exact ⟨rfl,by rw [hg1_6];rfl⟩
theorem yht (k a:Nat) (t x:Int) (e:Ev) (b2 b3 b4:Nat):y8 Tryz.prog 211 [iv k,.agg (evR e),pZ b2,pZ b3,pZ b4] [.box b2 3 [iv t],.box b3 3 [iv x],.box b4 3 [iv a]] (fun r h'=>h'= [.box b2 3 [iv t],.box b3 3 [iv x],.box b4 3 [iv a]]∧r= .tup [.agg (zjv (e.v,k)),bv (e.t==t && e.o==x && decide (k < a))]):=by
 refine z6 Tryz.func211 rfl rfl rfl ?_
 refine rn ?_;refine z7 rfl (w7 rfl rfl rfl fun b6=> ?_)
 refine z7 rfl (y6 rfl fun b7=> ?_)
 refine rn ?_;refine zeu 20 [(b7,139,_)] rfl (List.perm_append_comm (l₁:= [_])) ?_
 refine dq rfl rfl qrA ?_;refine dq rfl rfl qrA ?_;refine dq rfl rfl qrA ?_;refine dq rfl rfl (zac (out:= [iv e.v.t,iv e.v.k,iv k]) rfl (by rfl)) ?_
 refine rn ?_;refine zco (fun hg1_8=> ?_) (fun hg1_8=> ?_)
 ·refine rn ?_;refine zco (fun hg1_14=> ?_) (fun hg1_14=> ?_)
  ·refine rn ?_;refine dw 0 rfl rfl rfl rfl rfl (Nat.le_of_ble_eq_true rfl) ?_
   refine rn2 ?_;show zb7 _ _ _ _ _ _ ⟨_,.box b7 139 (zjv (e.v,k)):: .box b6 60 (evR e):: [.box b2 3 [iv t],.box b3 3 [iv x],.box b4 3 [iv a]],_⟩
   refine rn ?_;exact zd0 (.cons _ _ _ _ (.agg _ _ _ _ _ _ _ rfl inferInstance inferInstance inferInstance rfl) (.cons _ _ _ _ (.tmp _ _ rfl) .nil)) (.drop [_,_] _ _) ⟨rfl,by first|(rw [hg1_8,hg1_14];exact congrArg (fun b=>AV.tup [AV.agg (zjv (e.v,k)),bv b]) (by simp))|(rw [hg1_8];rfl)⟩
  ·refine rn ?_;refine dw 0 rfl rfl rfl rfl rfl (Nat.le_of_ble_eq_true rfl) ?_
   refine rn2 ?_;show zb7 _ _ _ _ _ _ ⟨_,.box b7 139 (zjv (e.v,k)):: .box b6 60 (evR e):: [.box b2 3 [iv t],.box b3 3 [iv x],.box b4 3 [iv a]],_⟩
   refine rn ?_;exact zd0 (.cons _ _ _ _ (.agg _ _ _ _ _ _ _ rfl inferInstance inferInstance inferInstance rfl) (.cons _ _ _ _ (.tmp _ _ rfl) .nil)) (.drop [_,_] _ _) ⟨rfl,by first|(rw [hg1_8,hg1_14];exact congrArg (fun b=>AV.tup [AV.agg (zjv (e.v,k)),bv b]) (by simp))|(rw [hg1_8];rfl)⟩
 ·refine rn ?_;refine dw 0 rfl rfl rfl rfl rfl (Nat.le_of_ble_eq_true rfl) ?_
  refine rn2 ?_;show zb7 _ _ _ _ _ _ ⟨_,.box b7 139 (zjv (e.v,k)):: .box b6 60 (evR e):: [.box b2 3 [iv t],.box b3 3 [iv x],.box b4 3 [iv a]],_⟩
  refine rn ?_;exact zd0 (.cons _ _ _ _ (.agg _ _ _ _ _ _ _ rfl inferInstance inferInstance inferInstance rfl) (.cons _ _ _ _ (.tmp _ _ rfl) .nil)) (.drop [_,_] _ _) ⟨rfl,by first|(rw [hg1_8,hg1_14];exact congrArg (fun b=>AV.tup [AV.agg (zjv (e.v,k)),bv b]) (by simp))|(rw [hg1_8];rfl)⟩
theorem yob (x:Int) (s:Ord) (b1:Nat):y8 Tryz.prog 207 [.agg (zew s),pZ b1] [.box b1 3 [iv x]] (fun r h'=>h'= [.box b1 3 [iv x]]∧r=bv (s.o==x)):=by
 refine z6 Tryz.func207 rfl rfl rfl ?_
 refine rn ?_;refine z7 rfl (w7 rfl rfl rfl fun b2=> ?_)
 refine rn ?_;refine rq 1 ?_
 exact ⟨rfl,rfl⟩
theorem yh0 (h:Hist) (la:h.evs.length≤1000000) (W:List Res):y8 Tryz.prog 208 [.agg (y9 h)] W (fun r h'=>∃rm,h'= .map rm (zag intK (zbc bv (zna h.evs)))::W∧r=mpv rm):=by
 refine z6 Tryz.func208 rfl rfl rfl ?_
 refine rn ?_;refine z7 rfl (w7 rfl rfl rfl fun b1=> ?_)
 refine rn ?_;refine z7 rfl (zas (enc:=intK) rfl fun b6=> ?_)
 refine z7 rfl (y6 rfl fun b3=> ?_)
 refine rn ?_;refine z7 rfl (v6 rfl rfl (y0.of_fun (zob h 5 _)) rfl ?_)
 rintro _ _ ⟨e1,e2,rfl,rfl⟩
 refine rn ?_;refine zfo (s':=⟨[(8,.fn (.func 264) [] [pZ e1,pZ e2]),(3,pZ b3)],.box e1 28 (y9 h):: .box e2 3 [iv 5]:: .box b3 115 [mpv b6]:: .map b6 (zag intK (zbc bv (zna (h.evs.take 0)))):: .box b1 28 (y9 h)::W,[]⟩) es ?_
 refine zl7 (fun pend h''=>pend=none∧h''= .box b3 115 [mpv b6]:: .map b6 (zag intK (zbc bv (zna (h.evs.take h.evs.length)))):: .box b1 28 (y9 h)::W) rfl (fun fn l q lp hlp=> ?_) (fun q h'' hK=> ?_) (fun q h'' c hK=> ?_)
 ·suffices hy:∀k (x:Unit),(hk:k < h.evs.length)→True→(h.evs[k].kind==5)=true→y0 Tryz.prog (yv l) [iv k,.agg (evR h.evs[k])] (.box e1 28 (y9 h):: .box e2 3 [iv 5]::lp .ready none:: .defs q:: .box b3 115 [mpv b6]:: .map b6 (zag intK (zbc bv (zna (h.evs.take k)))):: .box b1 28 (y9 h)::W) (fun r h'=>∃x':Unit,(r=bv true∧True∧h'= .box e1 28 (y9 h):: .box e2 3 [iv 5]::lp .ready none:: .defs q:: .box b3 115 [mpv b6]:: .map b6 (zag intK (zbc bv (zna (h.evs.take (k+1))))):: .box b1 28 (y9 h)::W)∨(r=bv false∧False∧h'= .box e1 28 (y9 h):: .box e2 3 [iv 5]:: [])) by
   refine y8.mono (y8.perm ((pt2 _ _ _ _).trans (.cons _ (pt2 _ _ _ _))) (zlh h la 5 (yv l) e1 e2 (fun _ _=>True) (fun _ _=>False) (fun k (_:Unit)=>lp .ready none:: .defs q:: .box b3 115 [mpv b6]:: .map b6 (zag intK (zbc bv (zna (h.evs.take k)))):: .box b1 28 (y9 h)::W) (fun _ _=> []) () trivial hy (fun k s hk _ hn=>⟨s,trivial,by rw [ymi hk hn]⟩))) ?_
   rintro _ _ (⟨s,_,rfl⟩|⟨_,_,hF,_⟩)
   ·exact ⟨none,.ready,_,.refl _,by simp,rfl,rfl⟩
   ·exact hF.elim
  intro k s hk _ hkd
  refine y0.perm (pt2 _ _ _ _) (y0.ventE ?_)
  refine zdj hlp rfl rfl ?_
  refine rn ?_;refine z7 rfl (y6 rfl fun b5=> ?_)
  refine rn ?_;refine ⟨[(5,pZ b5),(3,pZ b3)],.box b5 60 (evR h.evs[k]):: .box e1 28 (y9 h):: .box e2 3 [iv 5]:: .defs q:: .box b3 115 [mpv b6]:: .map b6 (zag intK (zbc bv (zna (h.evs.take k)))):: .box b1 28 (y9 h)::W,v8 (zah (pt1 _ _ _)) es,?_⟩
  refine rn ?_;refine z7 rfl (zar (g:=bv) (enc:=intK) (k:=h.evs[k].t) (v:=true) rfl rfl rfl ?_)
  refine rn ?_;exact zcy (.refl _) ⟨_,_,.trans (.perm ((pt1 _ _ _).trans (.cons _ ((pt1 _ _ _).trans (.cons _ (pt1 _ _ _))))) _) (.drop [_] _ _),(),.inl ⟨rfl,trivial,by rw [ymh hk hkd]⟩⟩
 ·obtain ⟨_,rfl⟩:=hK
  refine rn ?_;exact zgx (.refl _) (.cons _ _ _ _ (.tmp _ _ rfl) .nil) (.trans (.drop1 _ _ _) (.trans (.perm (pt1 _ _ _) _) (.drop [_] _ _))) ⟨b6,by rw [List.take_length],rfl⟩
 ·obtain ⟨hc,_⟩:=hK
  exact absurd hc (by simp)
theorem zz6 {h:Hist} {n many:Int} (he:zd6 h n many≠0) (X:List Int):(onE (zd6 h n many) X).map zbo= []:=by rw [onE,if_neg he];rfl
theorem zy3 {α:Type} (kd:Int) (g:Ev→α) (q:Ev→Bool) (l:List Ev):zez (zi4 kd (fun _ e=>g e) (fun _ e=>q e)) l l.length=(l.filter fun e=>e.kind==kd && q e).map g:=ydf (fun _ _=>rfl) l
theorem yer (h:Hist) (la:Lim 4611686018427387904 h) (n many:Int) (fv:AV) (hone:fv.cellsOf=some [fv]) (X:List Int) (W:List Res) (hp:zd6 h n many=0→y0 Tryz.prog fv [] (.glob 2 156 y2:: .glob 4 305 y3:: .glob 5 308 y1:: .glob 3 246 w9::W) (fun r h'=>∃s:SV,h'= .row s.v 1 3 (X.map zbo):: .glob 2 156 y2:: .glob 4 305 y3:: .glob 5 308 y1:: .glob 3 246 w9::W∧r= .v s.v)):y8 Tryz.prog 150 [.agg (y9 h),iv n,iv many,fv] (.glob 2 156 y2:: .glob 4 305 y3:: .glob 5 308 y1:: .glob 3 246 w9::W) (fun r h'=>∃s:SV,h'= .row s.v 1 3 ((onE (zd6 h n many) X).map zbo):: .glob 2 156 y2:: .glob 4 305 y3:: .glob 5 308 y1:: .glob 3 246 w9::W∧r= .tup [.v s.v,iv (zd6 h n many)]):=by
 refine z6 Tryz.func150 rfl rfl rfl ?_
 refine rn ?_;refine z7 rfl (w7 rfl rfl rfl fun b4=> ?_)
 refine rn ?_;refine qv rfl rfl (y4 rfl rfl (y0.qt (y0.of_fun (zyx h la)) ((pt1 _ _ _).trans (.cons _ ((pt1 _ _ _).trans (.cons _ ((pt1 _ _ _).trans (.cons _ (pt1 _ _ _))))))))) ?_
 refine rn ?_;refine z8 rfl (fun hc15=> ?_) (fun hc15=> ?_)
 ·have hc:u3 h≠0:=by simpa using hc15
  refine rn ?_;exact zbs rfl rfl (.trans (.drop [_] _ _) (zaa 1 3 _)) ⟨⟨none,0,0⟩,by rw [zz6 (by rw [ask_c hc];exact hc)];rfl,by rw [ask_c hc];rfl⟩
 ·have hc:u3 h=0:=by simpa using hc15
  refine rn ?_;refine u4 (fun hg5_2=> ?_) (fun hg5_2=> ?_)
  ·refine rn ?_;refine zq4 rfl ?_;have hn:¬(0≤n∧n < many):=by first|(have q:=oT hg5_2;omega)|(have q:=oT hc24;omega)
   refine rn ?_;exact zbs rfl rfl (.trans (.drop [_] _ _) (zaa 1 3 _)) ⟨⟨none,0,0⟩,by rw [zz6 (by rw [zwa hc hn];decide)];rfl,by rw [zwa hc hn];rfl⟩
  ·refine rn ?_;refine z8 rfl (fun hc24=> ?_) (fun hc24=> ?_)
   ·have hn:¬(0≤n∧n < many):=by first|(have q:=oT hg5_2;omega)|(have q:=oT hc24;omega)
    refine rn ?_;exact zbs rfl rfl (.trans (.drop [_] _ _) (zaa 1 3 _)) ⟨⟨none,0,0⟩,by rw [zz6 (by rw [zwa hc hn];decide)];rfl,by rw [zwa hc hn];rfl⟩
   ·have hn:0≤n∧n < many:=by have q:=oF hg5_2;have q':=oF hc24;omega
    refine rn ?_;refine z7 rfl (v6 rfl rfl (y0.fr1 (hp (zoz hc hn))) rfl ?_)
    rintro _ _ ⟨_,rfl,s,rfl,rfl⟩
    refine rn ?_;exact zbs rfl rfl (.drop [_] _ _) ⟨s,by rw [zoz hc hn];rfl,by rw [zoz hc hn];rfl⟩
theorem zn1 {P:Program} {h:List Res} {f:Operand→Option AV} {dst:Option Tmp} {ty:TypeId} {pos:String} {after:Array Edge} {guard:Option (Nat×Bool)} {x y:Operand} {T E:TypeId} {s:Value} {sz i:Nat} {k:Int} {E':TypeId} {rows:List (List AV)} (hx:f x=some (.v s)) (hy:f y=some (.v (.int .i64 k))) [hr:HasRow h s i sz E' rows] [Und P T (.slice E)] [Siz P E sz] (h0:0≤k) (hk:k.toNat < rows.length):
 QR P h f ⟨dst,.indexAddr T x y,ty,pos,after,guard⟩ (.rp s sz k.toNat 0):=zb2 hx (by rw [Int.toNat_of_nonneg h0];exact hy) hk
theorem zsz {h:Hist} {n many:Int} (he:zd6 h n many=0):Lim 3000 h:=zr9 (zdw (zwb he).1).1
theorem zz7 {h:Hist} {n many:Int} (he:zd6 h n many=0):h.evs.length≤1000000:=Nat.le_trans (zsz he).evs (by decide)
theorem zgg {h:Hist} (he:u3 h=0):Lim 3000 h:=zr9 (zdw (zaw.1 he)).1
theorem ydq (l:List Ev):srt (zez (zi4 5 (fun _ e=>e.t) (fun _ _=>true)) l l.length)=zel l:=by
 rw [zel,zy3 5 Ev.t (fun _=>true)];simp only [Bool.and_true]
theorem yh5 (l:List Ev) (x:Int):zez (zi4 2 (fun _ e=>e.t) (fun _ e=>e.o==x && (za7 e.t (zna l)).getD false)) l l.length=yi7 l x:=by
 rw [zy3 2 Ev.t (fun e=>e.o==x && (za7 e.t (zna l)).getD false),yi7];simp only [ydn]
theorem ykv {h:Hist} {x:Int} (hc:decide (za9 (fun o:Ord=>o.o==x) 0 h.ords ≥ 0)=true):∃k,∃hk:k < h.ords.length,za9 (fun o:Ord=>o.o==x) 0 h.ords=(k:Int)∧za4 h x=h.ords[k].ts:=by
 have:=ze5 (fun o:Ord=>o.o==x) h.ords 0
 cases hf:h.ords.find? (fun o=>o.o==x) with
 |none=>rw [hf] at this;simp only at this;rw [this] at hc;exact absurd hc (by decide)
 |some o=>
  rw [hf] at this
  obtain ⟨k,hk,e,eo,_⟩:=this
  exact ⟨k,hk,by rw [e,Nat.zero_add],by rw [za4,hf,eo]⟩
theorem yku {h:Hist} {x:Int} (hc:decide (za9 (fun o:Ord=>o.o==x) 0 h.ords ≥ 0)=false):za4 h x=zbn (yi7 h.evs x):=by
 have:=ze5 (fun o:Ord=>o.o==x) h.ords 0
 cases hf:h.ords.find? (fun o=>o.o==x) with
 |none=>rw [za4,hf]
 |some o=>
  rw [hf] at this
  obtain ⟨k,hk,e,eo,_⟩:=this
  rw [e] at hc
  have:=oF hc
  omega
theorem yh1 (h:Hist) (la:h.evs.length≤1000000) (b1:Nat):y8 Tryz.prog 172 [pZ b1] (.glob 2 156 y2:: .glob 4 305 y3:: .glob 5 308 y1:: .glob 3 246 w9:: .box b1 28 (y9 h):: []) (fun r h'=>∃s:SV,h'= .row s.v 1 3 ((zel h.evs).map zbo):: .glob 2 156 y2:: .glob 4 305 y3:: .glob 5 308 y1:: .glob 3 246 w9:: .box b1 28 (y9 h):: []∧r= .v s.v):=by
 refine z6 Tryz.func172 rfl rfl rfl ?_
 refine rn ?_;refine z7 rfl (v6 rfl rfl (y0.of_fun (yep h la 5 _ rfl _ (fun _ e=>e.t) (fun _ _=>true) (fun k hk _=>y0.pure (R:=fun r=>r=_) (y0.of_fun (yhv k h.evs[k]))))) rfl ?_)
 rintro _ _ ⟨s,rfl,rfl⟩
 refine rn ?_;refine z7 rfl (v6 rfl rfl (ze6 (y0.of_fun (zwy s _ (by have:=(zgs (zi4 5 (fun _ e=>e.t) (fun _ e=>true)) h.evs h.evs.length);omega)))) rfl ?_)
 rintro _ _ ⟨rfl,rfl⟩
 refine rn ?_;exact zal rfl (.refl _ _) ⟨s,by rw [ydq],rfl⟩
theorem yh2 (h:Hist) (la:Lim 4611686018427387904 h):y8 Tryz.prog 133 [.agg (y9 h)] (.glob 2 156 y2:: .glob 4 305 y3:: .glob 5 308 y1:: .glob 3 246 w9:: []) (fun r h'=>∃s:SV,h'= .row s.v 1 3 ((onE (u3 h) (zel h.evs)).map zbo):: .glob 2 156 y2:: .glob 4 305 y3:: .glob 5 308 y1:: .glob 3 246 w9:: []∧r= .tup [.v s.v,iv (u3 h)]):=by
 refine z6 Tryz.func133 rfl rfl rfl ?_
 refine rn ?_;refine z7 rfl (w7 rfl rfl rfl fun b1=> ?_)
 refine rn ?_;refine z7 rfl (v6 rfl rfl (y0.perm ((pt1 _ _ _).trans (.cons _ ((pt1 _ _ _).trans (.cons _ ((pt1 _ _ _).trans (.cons _ (pt1 _ _ _))))))) (y0.of_fun (yer h la 0 1 (.fn (.func 172) [] [pZ b1]) rfl (zel h.evs) [.box b1 28 (y9 h)] (fun he=>y0.of_acall (fs:= []) (cs:= [pZ b1]) (yh1 h (zz7 he) b1))))) rfl ?_)
 rintro _ _ ⟨s,rfl,rfl⟩
 refine rn ?_;exact zbs rfl rfl (.trans (.perm (pt5 _ _ _ _ _ _ _) _) (.drop [_] _ _)) ⟨s,by rw [ye7],by rw [ye7];rfl⟩
theorem yeq (h:Hist) (la:Lim 4611686018427387904 h):y8 Tryz.prog 133 [.agg (y9 h)] (.glob 2 156 y2:: .glob 4 305 y3:: .glob 5 308 y1:: .glob 3 246 w9:: []) (fun r h'=>h'= .glob 2 156 y2:: .glob 4 305 y3:: .glob 5 308 y1:: .glob 3 246 w9:: []∧r= .tup [zb5 (onE (u3 h) (zel h.evs)),iv (u3 h)]):=
 (yh2 h la).ventR (by rintro _ _ ⟨s,rfl,rfl⟩;exact ⟨_,_,zay [] [_],rfl,rfl⟩)
theorem yln (h:Hist) (la:Lim 3000 h) (x:Int) (W:List Res):y8 Tryz.prog 152 [.agg (y9 h),iv x] W (fun r h'=>∃s:SV,h'= .row s.v 1 3 ((za4 h x).map zbo)::W∧r= .v s.v):=by
 refine z6 Tryz.func152 rfl rfl rfl ?_
 have le:h.evs.length≤1000000:=Nat.le_trans la.evs (by decide)
 have lo:=la.ords
 refine rn ?_;refine z7 rfl (w7 rfl rfl rfl fun b2=> ?_)
 refine z7 rfl (w7 rfl rfl rfl fun b3=> ?_)
 refine rn ?_;refine qv rfl rfl (y4 rfl rfl (y0.of_fun (zjt h.ords _ (fun o:Ord=>o.o==x) _ (fun a _=>y0.qt (y0.of_acall (fs:= []) (cs:= [pZ b3]) (yob x a b3)) (.refl _)) (Nat.le_trans la.ords (by decide))))) ?_
 refine rn ?_;refine z8 rfl (fun hc13=> ?_) (fun hc13=> ?_)
 ·obtain ⟨k,hk,ek,hx⟩:=ykv hc13
  have rk:=zcb (f:=zew) hk
  rw [ek]
  refine rn ?_;refine z7 rfl (v6 rfl rfl (y0.fr (y0.rowS (y0.of_fun (zlx (h.ords[k].ts.map zbo) (by rw [oM];exact Nat.le_trans (la.ordts h.ords[k] (List.getElem_mem hk)) (by decide)) (ziy _)))) (.refl _)) rfl ?_)
  rintro _ _ ⟨_,rfl,s,rfl,rfl⟩
  refine rn ?_;exact zal rfl (.trans (.perm ((pt1 _ _ _).trans (.cons _ (pt1 _ _ _))) _) (.drop [_,_] _ _)) ⟨s,by rw [hx],rfl⟩
 ·have hx:=yku hc13
  refine rn ?_;refine z7 rfl (v6 rfl rfl (y0.of_fun (yh0 h le _)) rfl ?_)
  rintro _ _ ⟨rm,rfl,rfl⟩
  refine z7 rfl (y6 rfl fun b6=> ?_)
  refine rn ?_;refine z7 rfl (v6 rfl rfl (y0.of_fun (yep h le 2 _ rfl _ (fun _ e=>e.t) (fun _ e=>e.o==x && (za7 e.t (zna h.evs)).getD false) (fun k hk _=>y0.qt (y0.of_acall (fs:= []) (cs:= [pZ b3,pZ b6]) (yhu k x h.evs[k] b3 b6 rm (zna h.evs))) (pt2 _ _ _ _)))) rfl ?_)
  rintro _ _ ⟨s,rfl,rfl⟩
  refine rn ?_;refine z7 rfl (v6 rfl rfl (zga (y0.of_fun (zzs s _ (by have:=(zgs (zi4 2 (fun _ e=>e.t) (fun _ e=>e.o==x && (za7 e.t (zna h.evs)).getD false)) h.evs h.evs.length);omega)))) rfl ?_)
  rintro _ _ ⟨s',rfl,rfl⟩
  refine rn ?_;exact zal rfl (.trans (.perm ((pt1 _ _ _).trans (.cons _ ((pt1 _ _ _).trans (.cons _ ((pt1 _ _ _).trans (.cons _ (pt1 _ _ _))))))) _) (.drop [_,_,_,_] _ _)) ⟨s',by rw [hx,yh5],rfl⟩
theorem ylm (h:Hist) (la:Lim 3000 h) (x:Int) (b2 b3:Nat):y8 Tryz.prog 151 [pZ b2,pZ b3] (.glob 2 156 y2:: .glob 4 305 y3:: .glob 5 308 y1:: .glob 3 246 w9:: .box b2 28 (y9 h):: .box b3 3 [iv x]:: []) (fun r h'=>∃s:SV,h'= .row s.v 1 3 ((za4 h x).map zbo):: .glob 2 156 y2:: .glob 4 305 y3:: .glob 5 308 y1:: .glob 3 246 w9:: .box b2 28 (y9 h):: .box b3 3 [iv x]:: []∧r= .v s.v):=by
 refine z6 Tryz.func151 rfl rfl rfl ?_
 refine rn ?_;refine z7 rfl (v6 rfl rfl (y0.of_fun (yln h la x _)) rfl ?_)
 rintro _ _ ⟨s,rfl,rfl⟩
 refine rn ?_;exact zal rfl (.refl _ _) ⟨s,rfl,rfl⟩
theorem yhz (h:Hist) (la:Lim 4611686018427387904 h) (x:Int):y8 Tryz.prog 101 [.agg (y9 h),iv x] (.glob 2 156 y2:: .glob 4 305 y3:: .glob 5 308 y1:: .glob 3 246 w9:: []) (fun r h'=>∃s:SV,h'= .row s.v 1 3 ((onE (zd6 h x h.os.length) (za4 h x)).map zbo):: .glob 2 156 y2:: .glob 4 305 y3:: .glob 5 308 y1:: .glob 3 246 w9:: []∧r= .tup [.v s.v,iv (zd6 h x h.os.length)]):=by
 refine z6 Tryz.func101 rfl rfl rfl ?_
 refine rn ?_;refine z7 rfl (w7 rfl rfl rfl fun b2=> ?_)
 refine z7 rfl (w7 rfl rfl rfl fun b3=> ?_)
 refine rn ?_;refine z7 rfl (v6 rfl rfl (y0.perm ((pt2 _ _ _ _).trans (.cons _ ((pt2 _ _ _ _).trans (.cons _ ((pt2 _ _ _ _).trans (.cons _ ((pt2 _ _ _ _).trans (.cons _ (pt1 _ _ _))))))))) (y0.of_fun (yer h la x (h.os.map zmc).length (.fn (.func 151) [] [pZ b2,pZ b3]) rfl (za4 h x) [.box b2 28 (y9 h),.box b3 3 [iv x]] (fun he=>y0.of_acall (fs:= []) (cs:= [pZ b2,pZ b3]) (ylm h (zsz he) x b2 b3))))) rfl ?_)
 rintro _ _ ⟨s,rfl,rfl⟩
 refine rn ?_;exact zbs rfl rfl (.trans (.perm ((pt5 _ _ _ _ _ _ _).trans (.cons _ (pt5 _ _ _ _ _ _ _))) _) (.drop [_,_] _ _)) ⟨s,by simp only [oM],by simp only [oM];rfl⟩
theorem zty (h:Hist) (la:Lim 4611686018427387904 h) (x:Int):y8 Tryz.prog 101 [.agg (y9 h),iv x] (.glob 2 156 y2:: .glob 4 305 y3:: .glob 5 308 y1:: .glob 3 246 w9:: []) (fun r h'=>h'= .glob 2 156 y2:: .glob 4 305 y3:: .glob 5 308 y1:: .glob 3 246 w9:: []∧r= .tup [zb5 (onE (zd6 h x h.os.length) (za4 h x)),iv (zd6 h x h.os.length)]):=
 (yhz h la x).ventR (by rintro _ _ ⟨s,rfl,rfl⟩;exact ⟨_,_,zay [] [_],rfl,rfl⟩)
theorem yoo {l:List Ev} {t x:Int} {a:Nat} (ha:l.length≤a) (h0:(((zez (ze4 t x a) l l.length).map zjv).length:Int)=0):zol l t x=none:=by
 have hl:=zi5 l t x a l.length (Nat.le_refl _)
 rw [Nat.min_eq_left ha] at hl
 rw [zol,←hl]
 generalize zez (ze4 t x a) l l.length=L at *
 rw [oM] at h0
 cases L with
 |nil=>rfl
 |cons b r=>rw [List.length_cons] at h0;omega
theorem yon {l:List Ev} {t x:Int} {a:Nat} (h0:(((zez (ze4 t x a) l l.length).map zjv).length:Int)≠0):∃p,zec l t x (min l.length a)=some p∧((zez (ze4 t x a) l l.length).map zjv)[((((zez (ze4 t x a) l l.length).map zjv).length:Int) - 1).toNat]? =some (zjv p)∧0≤(((zez (ze4 t x a) l l.length).map zjv).length:Int) - 1∧((((zez (ze4 t x a) l l.length).map zjv).length:Int) - 1).toNat < ((zez (ze4 t x a) l l.length).map zjv).length:=by
 have hl:=zi5 l t x a l.length (Nat.le_refl _)
 generalize zez (ze4 t x a) l l.length=L at *
 rw [oM] at h0 ⊢
 have hn:0 < L.length:=by omega
 refine ⟨L[L.length - 1],?_,?_,by omega,by omega⟩
 ·rw [←hl,List.getLast?_eq_getElem?,List.getElem?_eq_getElem (by omega)]
 ·rw [show ((L.length:Int) - 1).toNat=L.length - 1 by omega,List.getElem?_map,List.getElem?_eq_getElem (by omega)];rfl
def yl6 (h:Hist) (t x:Int):Ver×Nat:=(zol h.evs t x).getD (⟨0,0⟩,0)
theorem yl5 (h:Hist) (t x:Int):(yl6 h t x).1=zwe (zol h.evs t x):=by rw [yl6];cases zol h.evs t x <;> rfl
def zny (h:Hist) (x:Int) (v:Ver):Int×Bool:=if zd6 h x h.os.length=0 then (if v=⟨0,0⟩ then (0,true) else (zh3 h x v+1,decide (zh3 h x v ≥ 0))) else (0,false)
def zgz (h:Hist) (x r:Int):Option Int:=if zd6 h x h.os.length=0 then (if 0≤r then (za4 h x)[r.toNat]? else none) else none
theorem ydd (h:Hist) (la:h.evs.length≤1000000) (t x:Int) (a:Nat) (W:List Res):y8 Tryz.prog 153 [.agg (y9 h),iv t,iv x,iv a] W (fun r h'=>∃s:SV,h'= .row s.v 3 139 ((zez (ze4 t x a) h.evs h.evs.length).map zjv)::W∧r= .v s.v):=by
 refine z6 Tryz.func153 rfl rfl rfl ?_
 refine rn ?_;refine z7 rfl (w7 rfl rfl rfl fun b4=> ?_)
 refine z7 rfl (w7 rfl rfl rfl fun b5=> ?_)
 refine z7 rfl (w7 rfl rfl rfl fun b6=> ?_)
 refine z7 rfl (w7 rfl rfl rfl fun b7=> ?_)
 refine rn ?_;refine z7 rfl (v6 rfl rfl (y0.of_fun (ylo h la 2 _ rfl _ (fun k e=>(e.v,k)) (fun k e=>e.t==t && e.o==x && decide (k < a)) (fun k hk _=>y0.qt (y0.of_acall (fs:= []) (cs:= [pZ b5,pZ b6,pZ b7]) (yht k a t x h.evs[k] b5 b6 b7)) ((pt2 _ _ _ _).trans (.cons _ (pt1 _ _ _)))))) rfl ?_)
 rintro _ _ ⟨s,rfl,rfl⟩
 refine rn ?_;exact zal rfl (.trans (.perm ((pt1 _ _ _).trans (.cons _ ((pt1 _ _ _).trans (.cons _ ((pt1 _ _ _).trans (.cons _ (pt1 _ _ _))))))) _) (.drop [_,_,_,_] _ _)) ⟨s,rfl,rfl⟩
theorem yoc (h:Hist) (la:h.evs.length≤1000000) (t x:Int) (W:List Res):y8 Tryz.prog 104 [.agg (y9 h),iv t,iv x] W (fun r h'=>h'=W∧r= .tup [.agg (zjv (yl6 h t x)),bv (zol h.evs t x).isSome]):=by
 refine z6 Tryz.func104 rfl rfl rfl ?_
 refine rn ?_;refine z7 rfl (w7 rfl rfl rfl fun b3=> ?_)
 refine z7 rfl (y6 rfl fun b6=> ?_)
 refine q1 ?_;refine j6 (zan ?_)
 refine w8 (y7 ?_)
 refine q1 ?_;refine q1 ?_;refine q1 ?_;refine q1 ?_;refine q1 ?_;refine q1 ?_;rw [oM]
 refine z7 rfl (v6 rfl rfl (y0.of_fun (ydd h la t x h.evs.length _)) rfl ?_)
 rintro _ _ ⟨s,rfl,rfl⟩
 refine rn ?_;refine z8 rfl (fun hc18=> ?_) (fun hc18=> ?_)
 ·have hw:=yoo (l:=h.evs) (t:=t) (x:=x) (a:=h.evs.length) (Nat.le_refl _) (by simpa using hc18)
  refine w8 (y7 ?_)
  refine qq rfl rfl (zac (out:= [iv 0,iv 0,iv 0]) rfl (by rfl)) ?_
  refine rn ?_;exact zd0 (.cons _ _ _ _ (.agg _ _ _ _ _ _ _ rfl inferInstance inferInstance inferInstance rfl) (.cons _ _ _ _ (.tmp _ _ rfl) .nil)) (.drop [_,_,_] _ _) ⟨rfl,by rw [yl6,hw];rfl⟩
 ·obtain ⟨p,hp,f1,f2,f3⟩:=yon (l:=h.evs) (t:=t) (x:=x) (a:=h.evs.length) (by simpa using hc18)
  rw [Nat.min_self] at hp
  have hL:=zgs (ze4 t x h.evs.length) h.evs h.evs.length
  refine za0 ?_;refine zan ?_;refine w8 (y7 ?_)
  refine q1 ?_;refine q1 ?_;refine q1 ?_;refine qq rfl rfl (zc5 rfl rfl rfl (by rw [oM];omega)) ?_
  refine qq rfl rfl (zn1 rfl rfl f2 f3) ?_
  refine qq rfl rfl (zg6 rfl f1 rfl) ?_
  refine rn ?_;exact zd0 (.cons _ _ _ _ (.agg _ _ _ _ _ _ _ rfl inferInstance inferInstance inferInstance rfl) (.cons _ _ _ _ (.tmp _ _ rfl) .nil)) (.drop [_,_,_] _ _) ⟨rfl,by rw [yl6,zol,hp];rfl⟩
end Go.Proofs
namespace Go.Ab
open Go
section
variable {P:Program} {ro:Option Nat} {nt:Nat} {c:Code} {Q:Exit→St→Prop} {t:Fr} {h:List Res} {ds:List Nat}
end
end Go.Ab
set_option maxRecDepth 10000
namespace Go.Proofs
open Go Go.Ab
attribute [local irreducible] QR QV OE zb7 aw zcp zb6 zbf zat thn zey
open Go.H
attribute [local irreducible] zc1 jch zeo
end Go.Proofs
namespace Go.Ab
open Go
section
variable {P:Program} {dst:Option Tmp} {ty:TypeId} {pos:String} {after:Array Edge} {guard:Option (Nat×Bool)} {x:Operand} {h:List Res} {f:Operand→Option AV}
end
end Go.Ab
set_option maxRecDepth 10000
namespace Go.Proofs
open Go Go.Ab
attribute [local irreducible] QR QV OE zb7 aw zcp zb6 zbf zat thn zey
open Go.H
attribute [local irreducible] zc1 jch zeo
theorem ylc {l:List Ev} {t x:Int} {j:Nat} (h:j < l.length) (hw:zbv t x l[j]=true):zec l t x (j+1)=some (l[j].v,j):=by
 rw [zec,List.getElem?_eq_getElem h];simp only [hw,if_true]
theorem zyl {l:List Ev} {t x:Int} {j:Nat} (h:j < l.length) (hw:zbv t x l[j]=false):zec l t x (j+1)=zec l t x j:=by
 rw [zec,List.getElem?_eq_getElem h];simp [hw]
theorem yes (a b:Int):(decide (a ≥ 0) && decide (a < b))=decide (0≤a∧a < b):=by
 rw [Bool.eq_iff_iff];simp only [Bool.and_eq_true,decide_eq_true_eq,ge_iff_le]
theorem zy0 {h:Hist} {N:Nat} (la:Lim N h) (x:Int):(zli h x).length≤N:=by
 unfold zli
 split
 ·rename_i o ho;exact la.ordts o (List.mem_of_find?_eq_some ho)
 ·exact Nat.le_trans (zkr _ _) la.ts
def wlM (l:List Ev):Nat→List ((Int×Int)×Int)
 |0=> []
 |k+1=>match l[k]? with
  |some e=>if (e.kind==2)=true then zdr (e.t,e.o) (k:Int) (wlM l k) else wlM l k
  |none=>wlM l k
theorem yff {l:List Ev} {k:Nat} (hk:k < l.length) (hw:(l[k].kind==2)=true):wlM l (k+1)=zdr (l[k].t,l[k].o) (k:Int) (wlM l k):=by
 rw [wlM,List.getElem?_eq_getElem hk];simp only [hw,if_true]
theorem yfg {l:List Ev} {k:Nat} (hk:k < l.length) (hw:(l[k].kind==2)=false):wlM l (k+1)=wlM l k:=by
 rw [wlM,List.getElem?_eq_getElem hk];simp only [hw];rfl
theorem zwo (l:List Ev) (t x:Int):∀k,k≤l.length→(za7 (t,x) (wlM l k)).getD 0=atO (zec l t x k)
 |0,_=>rfl
 |k+1,hk=>by
  have ih:=zwo l t x k (by omega)
  have hk':k < l.length:=hk
  cases hw:l[k].kind==2 with
  |false=>
   have:zbv t x l[k]=false:=by rw [zbv,hw];rfl
   rw [yfg hk' hw,zyl hk' this,ih]
  |true=>
   rw [yff hk' hw,zcf]
   cases hq:zbv t x l[k] with
   |true=>
    rw [ylc hk' hq,if_pos]
    ·rfl
    ·simp only [zbv,Bool.and_eq_true,beq_iff_eq] at hq
     rw [hq.1.2,hq.2]
   |false=>
    rw [zyl hk' hq,if_neg,ih]
    intro e
    rw [Prod.mk.injEq] at e
    simp [zbv,hw,e.1,e.2] at hq
theorem zs4 (h:Hist) (t x:Int):(za7 (t,x) (wlM h.evs h.evs.length)).getD 0=zg8 h t x:=zwo _ _ _ _ (Nat.le_refl _)
abbrev ylq (h:Hist):AV:= .list false 1 (((upR h.os.length).map (za4 h)).map yi2)
abbrev zau (h:Hist) (rm:Nat):Res:= .map rm (zag zav (zbc iv (wlM h.evs h.evs.length)))
theorem ztz (h:Hist) {x:Int} (h0:0≤x) (h1:x < h.os.length):(((upR h.os.length).map (za4 h)).map yi2)[x.toNat]? =some (yi2 (za4 h x)):=by
 have hx:(upR h.os.length)[x.toNat]? =some x:=by
  rw [upR,List.getElem?_map,List.getElem?_range (by omega)];simp [Int.toNat_of_nonneg h0]
 rw [List.getElem?_map,List.getElem?_map,hx];rfl
theorem yll (h:Hist) (la:Lim 4611686018427387904 h) (hc:u3 h=0) (x:Int) (h0:0≤x) (h1:x < h.os.length):y8 Tryz.prog 101 [.agg (y9 h),iv x] (.glob 2 156 y2:: .glob 4 305 y3:: .glob 5 308 y1:: .glob 3 246 w9:: []) (fun r h'=>h'= .glob 2 156 y2:: .glob 4 305 y3:: .glob 5 308 y1:: .glob 3 246 w9:: []∧r= .tup [zb5 (za4 h x),iv 0]):=(zty h la x).mono fun _ _ q=>⟨q.1,by rw [q.2,zoz hc ⟨h0,h1⟩];rfl⟩
theorem zt1 {h:Hist} (hc:u3 h=0) {x:Int} (h0:0≤x) (h1:x < h.os.length):(za4 h x).length≤3000:=by
 rw [(zfg (zaw.1 hc) h0 h1).2.1]
 exact Nat.le_trans (zin h.evs x) (zgg hc).evs
end Go.Proofs
namespace Go.H
open Go Go.Ab
def zsf (k:Int):Int:=if k=3 then 3 else if k=4 then 4 else 0
def KO (o:Obj):Prop:=∃(ents:Array MapEntry) (clock:Nat) (m:List (Int×Int)),o= .map ents clock∧ents.toList.map (·.key)=(m.map (·.1)).map intK∧(∀i (h1:i < m.length) (h2:i < ents.size),ents[i].val= .int .i64 m[i].2)∧m.length=ents.size∧∀k,(za7 k m).getD 0=zsf k
section
variable {P:Program} {dst:Option Tmp} {ty:TypeId} {pos:String} {after:Array Edge} {guard:Option (Nat×Bool)} {x y:Operand} {h:List Res} {f:Operand→Option AV} {kt et T:TypeId} {r i:Nat} {k:Int}
theorem yb2 {kv:AV} {o:Obj} {z:Value} (ho:KO o) (hx:f x=some (.v (.map (some r)))) (hy:f y=some kv) [hkv:KeyV kv (intK k)] [hm:HasObj h r i o] [hu:Und P T (.map kt et)] [hkt:KeyT P kt intK] [hz:ZerV P et z] [hd:ZV z (iv 0)]:
 QR P h f ⟨dst,.lookup T x y false,ty,pos,after,guard⟩ (iv (zsf k)):=by
 obtain ⟨ents,clock,m,rfl,hks,hv,hl,hk⟩:=ho
 rw [←hk]
 refine zhi (b:=iv ((za7 k m).getD 0)) (a:=(zc8 k (zbc iv m)).getD (.v z)) (fun w O v hr=>zkh hr) fun X ρ w hev=> ?_
 have hob:=(hev.heap.holds _ (List.mem_of_getElem? hm.h)).1
 have hl':(zbc iv m).length=ents.toList.length:=by simpa [zbc] using hl
 have hks':ents.toList.map (·.key)=((zbc iv m).map (·.1)).map intK:=by rw [hks];simp [zbc]
 have hfind:=hkt.find w k ents.toList ((zbc iv m).map (·.1)) hks'
 have hkey:=hkv.h w _ _ (hev.rel y _ hy)
 rcases zi7 k (zbc iv m) ents.toList 0 hl' with ⟨a,b,c⟩|⟨j,g1,g2,a,b,c,d⟩
 ·refine ⟨z,run_v _ ?_,by rw [b];exact .v _⟩
  rw [(hev.rel x _ hx).v_eq,hkey]
  simp only [Instr.lookup,Sem.run_bind,Go.Ab.run_underlying (h:=hu),Result.andThen_ok,MapKept.run_getObj_map hob,Sem.run_pure,hkt.chk,hfind]
  rw [a]
  simp [run_zeroValue hz.h]
 ·have g3:j < m.length:=by simpa [zbc] using g1
  refine ⟨(ents[j]'(by simpa using g2)).val,run_v _ ?_,?_⟩
  ·rw [(hev.rel x _ hx).v_eq,hkey]
   simp only [Instr.lookup,Sem.run_bind,Go.Ab.run_underlying (h:=hu),Result.andThen_ok,MapKept.run_getObj_map hob,Sem.run_pure,hkt.chk,hfind]
   rw [a]
   simp
  ·rw [b,hv j g3 (by omega)]
   simp only [zbc,List.getElem_map,Option.getD_some]
   exact .v _
end
end Go.H
set_option maxRecDepth 10000
namespace Go.Proofs
open Go Go.Ab
attribute [local irreducible] QR QV OE zb7 aw zcp zb6 zbf zat thn zey zc1 jch zeo
open Go.H
abbrev rcR (h:Hist) (rc:Nat):Res:= .map rc (zag intK (zbc bv (dnM (zel h.evs))))
abbrev rkS (h:Hist) (rk:Nat):Res:= .map rk (zag zej (zbc iv (rkM h h.os.length)))
abbrev rgR (rg:Nat) (M:List ((Int×Int)×List Int)):Res:= .map rg (zag zav (zbc zb5 M))
abbrev rwP (h:Hist) (rc rl rk rg:Nat):List AV:=y9 h++ [mpv rc,ylq h,mpv rl,mpv rk,mpv rg]
instance:ZV (.slice none 0 0) (zb5 []):=⟨fun w O u h=>by rw [h.v_eq];exact .lnil _ _ _ _ (fun q=>by cases q)⟩
theorem ynp (h:Hist) (n:Nat):rkM h (n+1)=zgw h n 0 (za4 h n) (zdr (zrb n ⟨0,0⟩) 0 (rkM h n)):=rfl
def zmb (h:Hist) (M:List ((Int×Int)×List Int)):Prop:=∀p l,za7 p M=some l→l=chL h p.1 p.2
theorem zko (h:Hist):zmb h []:=fun p l e=>by cases e
theorem zug {h:Hist} {M:List ((Int×Int)×List Int)} (hM:zmb h M) (p x:Int):zmb h (zdr (p,x) (chL h p x) M):=fun q l e=>by
 rw [zcf] at e
 split at e
 ·rename_i z;injection e with e;rw [←e,←z]
 ·exact hM q l e
theorem zui {h:Hist} {M:List ((Int×Int)×List Int)} (hM:zmb h M) {p x:Int} (hs:(!(za7 (p,x) M).isSome)=false):(za7 (p,x) M).getD []=chL h p x:=by
 cases hq:za7 (p,x) M with
 |none=>rw [hq] at hs;simp at hs
 |some v=>exact hM (p,x) v hq
theorem zuh {h:Hist} {M:List ((Int×Int)×List Int)} (p x:Int):(za7 (p,x) (zdr (p,x) (chL h p x) M)).getD []=chL h p x:=by rw [zcf,if_pos rfl];rfl
instance:Chk3 Tryz.prog 170:=⟨fun e w a b c=>by kernel_rfl⟩
theorem ypr (h:Hist) (la:Lim 4611686018427387904 h):y8 Tryz.prog 87 [.agg (y9 h)] (.glob 2 156 y2:: .glob 4 305 y3:: .glob 5 308 y1:: .glob 3 246 w9:: []) (fun r h'=>(u3 h=0∧∃rc rl rk rg,h'=rgR rg []::rkS h rk::zau h rl::rcR h rc:: .glob 2 156 y2:: .glob 4 305 y3:: .glob 5 308 y1:: .glob 3 246 w9:: []∧r= .tup [.agg (rwP h rc rl rk rg),iv 0])∨(u3 h≠0∧h'= .glob 2 156 y2:: .glob 4 305 y3:: .glob 5 308 y1:: .glob 3 246 w9:: []∧r= .tup [.agg (zqb++ [nmp,.v (.slice none 0 0),nmp,nmp,nmp]),iv (u3 h)])):=by
 refine z6 Tryz.func87 rfl rfl rfl ?_
 refine rn ?_;refine z7 rfl (w7 rfl rfl rfl fun b1=> ?_)
 refine z7 rfl (y6 rfl fun b2=> ?_)
 refine rn ?_;refine qv rfl rfl (y4 rfl rfl (y0.qt (y0.of_fun (yeq h la)) ((pt2 _ _ _ _).trans (.cons _ ((pt2 _ _ _ _).trans (.cons _ ((pt2 _ _ _ _).trans (.cons _ (pt2 _ _ _ _))))))))) ?_
 refine rn ?_;refine z8 rfl (fun hc22=> ?_) (fun hc22=> ?_)
 ·have hc:=nzT hc22
  refine rn ?_;exact zd0 (.cons _ _ _ _ (.agg _ _ _ _ _ _ _ rfl inferInstance inferInstance inferInstance rfl) (.cons _ _ _ _ (.tmp _ _ rfl) .nil)) (.drop [_,_] _ _) (.inr ⟨hc,rfl,rfl⟩)
 ·have hc:=nzF hc22
  have hts:onE (u3 h) (zel h.evs)=(zel h.evs):=by rw [hc,onE,if_pos rfl]
  rw [hts]
  have hs:=zaw.1 hc
  have lA:=zgg hc
  have lO:=lA.os
  have lE:=lA.evs
  have bC:=Nat.le_trans (yij h.evs) lA.evs
  refine rn ?_;refine z7 rfl (zas (enc:=intK) rfl fun b26=> ?_)
  refine z7 rfl (zas (enc:=zav) rfl fun b27=> ?_)
  refine z7 rfl (zas (enc:=zej) rfl fun b28=> ?_)
  refine z7 rfl (zas (enc:=zav) rfl fun b29=> ?_)
  refine qq rfl rfl (zac (out:=y9 h++ [mpv b26,.v (.slice none 0 0),mpv b27,mpv b28,mpv b29]) rfl (by rfl)) ?_
  refine z7 rfl (y6 rfl fun b6=> ?_)
  refine rn ?_;refine zcu (zel h.evs).length (fun _=>True) (fun k=>⟨[(33,iv k),(1,pZ b1),(2,pZ b2),(6,pZ b6),(31,zb5 (zel h.evs)),(32,iv ((zel h.evs).map zbo).length)],.box b6 119 (y9 h++ [mpv b26,.v (.slice none 0 0),mpv b27,mpv b28,mpv b29]):: .map b29 (zag zav (zbc zb5 [])):: .map b28 (zag zej (zbc iv [])):: .map b27 (zag zav (zbc iv (wlM h.evs 0))):: .map b26 (zag intK (zbc bv (dnM ((zel h.evs).take k)))):: .box b2 119 (zqb++ [nmp,.v (.slice none 0 0),nmp,nmp,nmp]):: .box b1 28 (y9 h):: .glob 2 156 y2:: .glob 4 305 y3:: .glob 5 308 y1:: .glob 3 246 w9:: [],[]⟩) trivial es ?_
  intro k lk _
  refine rn ?_;refine z8 rfl (fun hc34=> ?_) (fun hc34=> ?_)
  ·have hk:=zd2 hc34
   have rk:=zcb (f:=zbo) hk
   refine rn ?_;refine z7 rfl (zar (g:=bv) (enc:=intK) (k:=(zel h.evs)[k]) (v:=true) rfl rfl rfl ?_)
   refine rn ?_;exact ⟨hk,trivial,by rw [yot hk];exact eA⟩
  ·have qk:=zd4 hc34 lk
   rw [qk,List.take_length]
   refine rn ?_;refine zcu h.evs.length (fun _=>True) (fun j=>⟨[(44,iv j),(1,pZ b1),(2,pZ b2),(6,pZ b6),(42,zwj h.evs),(43,iv (h.evs.map evR).length)],.box b6 119 (y9 h++ [mpv b26,.v (.slice none 0 0),mpv b27,mpv b28,mpv b29]):: .map b29 (zag zav (zbc zb5 [])):: .map b28 (zag zej (zbc iv [])):: .map b27 (zag zav (zbc iv (wlM h.evs j))):: .map b26 (zag intK (zbc bv (dnM (zel h.evs)))):: .box b2 119 (zqb++ [nmp,.v (.slice none 0 0),nmp,nmp,nmp]):: .box b1 28 (y9 h):: .glob 2 156 y2:: .glob 4 305 y3:: .glob 5 308 y1:: .glob 3 246 w9:: [],[]⟩) trivial es ?_
   intro j lj _
   refine rn ?_;refine z8 rfl (fun hc45=> ?_) (fun hc45=> ?_)
   ·have hj:=zd2 hc45
    have rj:=zcb (f:=evR) hj
    refine rn ?_;refine z7 rfl (y6 rfl fun b10=> ?_)
    refine rn ?_;refine z8 rfl (fun hc51=> ?_) (fun hc51=> ?_)
    ·have hw:(h.evs[j].kind==2)=true:=by simpa using hc51
     refine y7 ?_;refine q1 ?_;refine q1 ?_;refine q1 ?_;refine q1 ?_;refine q1 ?_;refine q1 ?_;refine qq rfl rfl (zcz (out:= [iv h.evs[j].t,iv h.evs[j].o]) rfl (by rfl)) ?_
     refine rn ?_;refine z7 rfl (zar (g:=iv) (enc:=zav) (k:=(h.evs[j].t,h.evs[j].o)) (v:=(j:Int)) rfl rfl rfl ?_)
     refine rn ?_;first|exact ⟨hj,trivial,by rw [yff hj hw];exact eA⟩|exact ⟨hj,trivial,by rw [yfg hj hw];exact eA⟩
    ·have hw:(h.evs[j].kind==2)=false:=by simpa using hc51
     refine rn ?_;first|exact ⟨hj,trivial,by rw [yff hj hw];exact eA⟩|exact ⟨hj,trivial,by rw [yfg hj hw];exact eA⟩
   ·have qj:=zd4 hc45 lj
    subst qj
    refine rn ?_;refine zl6 h.os.length (fun k s=>⟨[(64,iv k),(1,pZ b1),(2,pZ b2),(6,pZ b6),(63,iv (h.os.map zmc).length)],.row s.v 1 29 (((upR k).map (za4 h)).map yi2):: .box b6 119 (y9 h++ [mpv b26,.v s.v,mpv b27,mpv b28,mpv b29]):: .map b29 (zag zav (zbc zb5 [])):: .map b28 (zag zej (zbc iv (rkM h k))):: .map b27 (zag zav (zbc iv (wlM h.evs h.evs.length))):: .map b26 (zag intK (zbc bv (dnM (zel h.evs)))):: .box b2 119 (zqb++ [nmp,.v (.slice none 0 0),nmp,nmp,nmp]):: .box b1 28 (y9 h):: .glob 2 156 y2:: .glob 4 305 y3:: .glob 5 308 y1:: .glob 3 246 w9:: [],[]⟩) ⟨none,0,0⟩ (v8 (zbk 1 29) es) ?_
    intro k s lk
    refine rn ?_;refine z8 rfl (fun hc65=> ?_) (fun hc65=> ?_)
    ·have hk:k < h.os.length:=by have q:=oT hc65;rw [oM] at q;omega
     have k0:(0:Int)≤(k:Int):=by omega
     have k1:(k:Int) < h.os.length:=by omega
     have hb:=zt1 hc k0 k1
     refine rn ?_;refine qv rfl rfl (y4 rfl rfl (y0.qt (y0.of_fun (yll h la hc k k0 k1)) ((pt8 _ _ _ _ _ _ _ _ _ _).trans (.cons _ ((pt8 _ _ _ _ _ _ _ _ _ _).trans (.cons _ ((pt8 _ _ _ _ _ _ _ _ _ _).trans (.cons _ (pt8 _ _ _ _ _ _ _ _ _ _))))))))) ?_
     refine rn ?_;refine qv rfl rfl (q6 rfl rfl) ?_
     refine z7 rfl (j4 rfl rfl (by simp only [oM,upR,List.length_range,List.length_cons,List.length_nil];omega) rfl (fun s77=> ?_) (fun r hr=>by rw [List.mem_singleton.1 hr];rfl))
     refine j9 s77 fun sv hsv=> ?_
     subst hsv
     refine q1 ?_;first|refine z7 rfl (j8 rfl rfl rfl ?_)|refine z7 rfl (zap rfl rfl rfl rfl (Nat.le_of_ble_eq_true rfl) ?_)
     refine j6 (zan ?_)
     refine w8 (y7 ?_)
     refine q1 ?_;refine q1 ?_;refine q1 ?_;refine qq rfl rfl (zac (out:= [iv k,iv 0,iv 0]) rfl (by rfl)) ?_
     refine z7 rfl (zar (g:=iv) (enc:=zej) (k:=((k:Int),(0:Int),(0:Int))) (v:=(0:Int)) rfl rfl rfl ?_)
     refine rn ?_;refine zcu (za4 h k).length (fun _=>True) (fun j=>⟨[(85,iv j),(1,pZ b1),(2,pZ b2),(6,pZ b6),(11,iv k),(63,iv (h.os.map zmc).length),(64,iv k),(83,zb5 (za4 h k)),(84,iv ((za4 h k).map zbo).length)],.row sv.v 1 29 (((upR k).map (za4 h)).map yi2++ [yi2 (za4 h k)]):: .box b6 119 (y9 h++ [mpv b26,.v sv.v,mpv b27,mpv b28,mpv b29]):: .map b29 (zag zav (zbc zb5 [])):: .map b28 (zag zej (zbc iv (zgw h k 0 ((za4 h k).take j) (zdr (zrb k ⟨0,0⟩) 0 (rkM h k))))):: .map b27 (zag zav (zbc iv (wlM h.evs h.evs.length))):: .map b26 (zag intK (zbc bv (dnM (zel h.evs)))):: .box b2 119 (zqb++ [nmp,.v (.slice none 0 0),nmp,nmp,nmp]):: .box b1 28 (y9 h):: .glob 2 156 y2:: .glob 4 305 y3:: .glob 5 308 y1:: .glob 3 246 w9:: [],[]⟩) trivial es ?_
     intro j lj _
     refine rn ?_;refine z8 rfl (fun hc86=> ?_) (fun hc86=> ?_)
     ·have hj:=zd2 hc86
      have rj:=zcb (f:=zbo) hj
      obtain ⟨i,hi,a1,a2, -⟩:=zoe hs k0 k1 hj
      have ri:=zcb (f:=evR) hi
      have hfv:zjx h k (za4 h k)[j]=h.evs[i].v:=by rw [zjx,a1];rfl
      refine rn ?_;refine zaf 17 rfl ?_
      refine dq rfl rfl qrA ?_;refine dq rfl rfl qrA ?_;refine dq rfl rfl qrA ?_;refine dq rfl rfl qrA ?_;refine dq rfl rfl qrA ?_;refine dq rfl rfl qrA ?_;refine dq rfl rfl qrA ?_;refine dq rfl rfl qrA ?_;refine dq rfl rfl qrA ?_;refine dq rfl rfl (zcz (out:= [iv (za4 h k)[j],iv k]) rfl (by rfl)) ?_
      refine dq rfl rfl (zgy (zbt (enc:=zav) (k:=((za4 h k)[j],(k:Int))) 0 rfl rfl) (show iv _=iv (i:Nat) from congrArg iv (by rw [zs4,a2]))) ?_
      refine dq rfl rfl (zao rfl rfl ri) ?_
      refine dq rfl rfl qrA ?_;refine dq rfl rfl qrA ?_;refine dq rfl rfl (zac (out:= [iv k,iv h.evs[i].v.t,iv h.evs[i].v.k]) rfl (by rfl)) ?_
      refine dq rfl rfl qrA ?_;refine dq rfl rfl (zc5 rfl rfl rfl (by omega)) ?_
      refine rn ?_;refine z7 rfl (zar (g:=iv) (enc:=zej) (k:=((k:Int),h.evs[i].v.t,h.evs[i].v.k)) (v:=(j:Int)+1) rfl rfl rfl ?_)
      refine rn ?_;exact ⟨hj,trivial,by rw [ygi hj,hfv];exact eA⟩
     ·have qj:=zd4 hc86 lj
      rw [qj,List.take_length]
      refine rn ?_;exact ⟨hk,sv,by rw [yfj,List.map_append,List.map_append,ynp];exact eA⟩
    ·have qk:k=h.os.length:=by have q:=oF hc65;rw [oM] at q;omega
     refine zox ?_;refine znp ?_;refine znp ?_;refine zf8 ?_;refine zan ?_;refine w8 (y7 ?_)
     refine zgv (zml (y9 h++ [mpv b26]) [mpv b27,mpv b28,mpv b29]) ?_
     refine rn ?_;exact zd0 (.cons _ _ _ _ (.agg _ _ _ _ _ _ _ rfl inferInstance inferInstance inferInstance rfl) (.cons _ _ _ _ (.tmp _ _ rfl) .nil)) (.trans (.perm (.cons _ ((pt4 _ _ _ _ _ _).trans (.cons _ (pt4 _ _ _ _ _ _)))) _) (.drop [_,_,_] _ _)) (.inl ⟨hc,b26,b27,b28,b29,by rw [qk],by rw [qk];rfl⟩)
theorem ym8 {a:Int} (h:(a !=0)=true):a≠0:=by simpa using h
theorem yn4 {a:Int} (h:(a !=0)=false):a=0:=by simpa using h
theorem yo9 {p:Prop} [Decidable p] (h:(!decide p)=true):¬p:=by simpa using h
theorem ypa {p:Prop} [Decidable p] (h:(!decide p)=false):p:=by simpa using h
theorem yl0 {l:List Mat} {q:Mat→Bool} (hc:decide (za9 q 0 l < 0)=false):∃k,∃hk:k < l.length,za9 q 0 l=(k:Int)∧l.find? q=some l[k]:=by
 have:=ze5 q l 0
 cases hf:l.find? q with
 |none=>rw [hf] at this;simp only at this;rw [this] at hc;exact absurd hc (by decide)
 |some o=>
  rw [hf] at this
  obtain ⟨k,hk,e,eo,_⟩:=this
  exact ⟨k,hk,by rw [e,Nat.zero_add],by rw [eo]⟩
theorem yok {l:List Mat} {q:Mat→Bool} (hc:decide (za9 q 0 l < 0)=true):l.find? q=none:=by
 have:=ze5 q l 0
 cases hf:l.find? q with
 |none=>rfl
 |some o=>
  rw [hf] at this
  obtain ⟨k,hk,e,eo,_⟩:=this
  rw [e] at hc
  have:=oT hc
  omega
theorem ycz {h:Hist} {N:Nat} (la:Lim N h) (p x:Int):(yao h p x).ts.length≤N:=by
 rw [yao,ym9]
 cases hf:h.mats.find? (yi5 p x) with
 |none=>exact Nat.zero_le _
 |some m=>exact la.matts m (List.mem_of_find?_eq_some hf)
def yfq (h:Hist) (p o:Int):List Bool:=if zhr h p o=0 then zs9 h p o else []
theorem yla (a b:Int):y8 Tryz.prog 145 [iv a,iv b] [] (fun r h'=>h'= []∧r=bv (decide (0≤a∧a < b))):=by
 refine z6 Tryz.func145 rfl rfl rfl ?_
 refine rn ?_;refine u4 (fun hg1_2=> ?_) (fun hg1_2=> ?_)
 ·refine rn ?_;refine rq 0 ?_
  exact ⟨rfl,by rw [←yes,hg1_2];rfl⟩
 ·refine rn ?_;refine rq 0 ?_
  exact ⟨rfl,by rw [←yes,hg1_2];rfl⟩
theorem yn8 (m:Mat) (p x:Int) (b2 b3:Nat) (G:List Res):y8 Tryz.prog 147 [.agg (zei m),pZ b2,pZ b3] (.box b2 3 [iv p]:: .box b3 3 [iv x]::G) (fun r h'=>h'=(.box b2 3 [iv p]:: .box b3 3 [iv x]::G)∧r=bv (yi5 p x m)):=by
 refine z6 Tryz.func147 rfl rfl rfl ?_
 refine rn ?_;refine z7 rfl (w7 rfl rfl rfl fun b3=> ?_)
 refine rn ?_;refine u4 (fun hg1_4=> ?_) (fun hg1_4=> ?_)
 ·refine rn ?_;refine rq 1 ?_
  exact ⟨rfl,congrArg bv (by unfold yi5;first|rfl|(simp_all;done))⟩
 ·refine rn ?_;refine rq 1 ?_
  exact ⟨rfl,congrArg bv (by unfold yi5;first|rfl|(simp_all;done))⟩
theorem yhn (l:List Mat) (fv:AV) (q:Mat→Bool) (G:List Res) (hp:∀a∈l,y0 Tryz.prog fv [.agg (zei a)] G (fun r h'=>h'=G∧r=bv (q a))) (hl:l.length≤4611686018427387904):y8 Tryz.prog 146 [ycv l,fv] G (fun r h'=>h'=G∧r= .tup [.agg (zei ((l.find? q).getD yi6)),bv (l.find? q).isSome]):=by
 refine z6 Tryz.func146 rfl rfl rfl ?_
 refine rn ?_;refine z7 rfl (y6 rfl fun b4=> ?_)
 refine rn ?_;refine qv rfl rfl (y4 rfl rfl (y0.qt (h2:= [_]) (y0.of_fun (zju l _ q G hp hl)) (zcm [_] _))) ?_
 refine rn ?_;refine z8 rfl (fun hc11=> ?_) (fun hc11=> ?_)
 ·have hn:=yok hc11
  refine w8 (y7 ?_)
  refine qq rfl rfl (zhi (fun w O v hr=>Sb.rel (Sb.aggs (bs:=zei yi6) (by exact ⟨.refl _,.refl _,.refl _,.nil _ _,trivial⟩)) hr) (zk6 rfl rfl)) ?_
  refine rn ?_;exact zd0 (.cons _ _ _ _ (.agg _ _ _ _ _ _ _ rfl inferInstance inferInstance inferInstance rfl) (.cons _ _ _ _ (.tmp _ _ rfl) .nil)) (.drop [_] _ _) ⟨rfl,by rw [hn];rfl⟩
 ·obtain ⟨k,hk,ek,hx⟩:=yl0 hc11
  have rk:=zcb (f:=zei) hk
  rw [ek]
  refine rn ?_;exact zd0 (.cons _ _ _ _ (.agg _ _ _ _ _ _ _ rfl inferInstance inferInstance inferInstance rfl) (.cons _ _ _ _ (.tmp _ _ rfl) .nil)) (.drop [_] _ _) ⟨rfl,by rw [hx];rfl⟩
theorem ypl {h:Hist} {p x:Int} (he:yar h x≠0):zhr h p x=yar h x∧zhr h p x≠0:=by
 have:zhr h p x=yar h x:=by rw [zhr,if_neg he]
 exact ⟨this,by rw [this];exact he⟩
theorem ypk {h:Hist} {p x:Int} (hi:yar h x=0) (hp:¬(0≤p∧p < ((h.ps.map zmc).length:Int))):zhr h p x=2∧zhr h p x≠0:=by
 rw [oM] at hp
 have:zhr h p x=2:=by rw [zhr,if_pos hi,if_neg hp]
 exact ⟨this,by rw [this];decide⟩
theorem ypj {h:Hist} {p x:Int} (hi:yar h x=0) (hp:0≤p∧p < ((h.ps.map zmc).length:Int)):zhr h p x=0:=by
 rw [oM] at hp
 rw [zhr,if_pos hi,if_pos hp]
theorem ya2 {b:Bool} {l:List Int} {q:Int→Bool} {k:Nat} (hk:k < l.length):(b::(l.take (k+1)).map q).map zl2=(b::(l.take k).map q).map zl2++ [[bv (q l[k])]]:=by
 rw [List.take_succ_eq_append_getElem hk,List.map_append,←List.cons_append,List.map_append];rfl
theorem yhl (h:Hist) (la:Lim 4611686018427387904 h) (p x:Int):y8 Tryz.prog 98 [.agg (y9 h),iv p,iv x] (.glob 2 156 y2:: .glob 4 305 y3:: .glob 5 308 y1:: .glob 3 246 w9:: []) (fun r h'=>∃s:SV,h'= .row s.v 1 4 ((yfq h p x).map zl2):: .glob 2 156 y2:: .glob 4 305 y3:: .glob 5 308 y1:: .glob 3 246 w9:: []∧r= .tup [.v s.v,iv (zhr h p x)]):=by
 refine z6 Tryz.func98 rfl rfl rfl ?_
 refine rn ?_;refine z7 rfl (w7 rfl rfl rfl fun b3=> ?_)
 refine z7 rfl (w7 rfl rfl rfl fun b4=> ?_)
 refine z7 rfl (w7 rfl rfl rfl fun b5=> ?_)
 refine rn ?_;refine qv rfl rfl (y4 rfl rfl (y0.qt (y0.of_fun (zty h la x)) ((pt3 _ _ _ _ _).trans (.cons _ ((pt3 _ _ _ _ _).trans (.cons _ ((pt3 _ _ _ _ _).trans (.cons _ (pt3 _ _ _ _ _))))))))) ?_
 refine rn ?_;refine z8 rfl (fun hc21=> ?_) (fun hc21=> ?_)
 ·have he:=ypl (p:=p) (ym8 hc21)
  refine rn ?_;exact zbs rfl rfl (.trans (.drop [_,_,_] _ _) (zaa 1 4 _)) ⟨⟨none,0,0⟩,by rw [yfq,if_neg (he.2)];rfl,by rw [he.1];rfl⟩
 ·have hi:yar h x=0:=yn4 hc21
  refine rn ?_;refine qv rfl rfl (y4 rfl rfl (zbl (yla p (h.ps.map zmc).length) (Sbs.refl _))) ?_
  refine rn ?_;refine z8 rfl (fun hc25=> ?_) (fun hc25=> ?_)
  ·have he:=ypk (p:=p) hi (yo9 hc25)
   refine rn ?_;exact zbs rfl rfl (.trans (.drop [_,_,_] _ _) (zaa 1 4 _)) ⟨⟨none,0,0⟩,by rw [yfq,if_neg (he.2)];rfl,by rw [he.1];rfl⟩
  ·have he:zhr h p x=0:=ypj hi (ypa hc25)
   have lA:=zgg (zu0.1 he).1
   have lM:=ycz la p x
   have lI:(za4 h x).length≤3000:=by rw [znr he];exact zy0 lA x
   refine rn ?_;refine qv rfl rfl (y4 rfl rfl (y0.of_fun (yhn h.mats _ (yi5 p x) _ (fun a _=>y0.qt (y0.of_acall (fs:= []) (cs:= [pZ b4,pZ b5]) (yn8 a p x b4 b5 (.box b3 28 (y9 h):: .glob 2 156 y2:: .glob 4 305 y3:: .glob 5 308 y1:: .glob 3 246 w9:: []))) (pt1 _ _ _)) la.mats))) ?_
   refine rn ?_;refine z7 rfl (y6 rfl fun b10=> ?_)
   refine rn ?_;refine z7 rfl (zc0 (rows:=(((yao h p x).first::((za4 h x).take 0).map (fun t=>(yao h p x).ts.contains t)).map zl2)) rfl rfl rfl fun s41=> ?_)
   refine j9 s41 fun sv0 hsv0=> ?_
   subst hsv0
   refine rn ?_;have hii:onE (zd6 h x h.os.length) (za4 h x)=za4 h x:=by rw [show zd6 h x h.os.length=0 from hi];rfl
   rw [hii]
   refine rn ?_;refine zl6 (za4 h x).length (fun k s=>⟨[(44,iv k),(12,.v s.v),(10,pZ b10),(42,zb5 (za4 h x)),(43,iv ((za4 h x).map zbo).length)],.row s.v 1 4 (((yao h p x).first::((za4 h x).take k).map (fun t=>(yao h p x).ts.contains t)).map zl2):: .box b10 109 (zei (yao h p x)):: .box b5 3 [iv x]:: .box b4 3 [iv p]:: .box b3 28 (y9 h):: .glob 2 156 y2:: .glob 4 305 y3:: .glob 5 308 y1:: .glob 3 246 w9:: [],[]⟩) sv0 es ?_
   intro k s lk
   refine rn ?_;refine z8 rfl (fun hc45=> ?_) (fun hc45=> ?_)
   ·have hk:=zd2 hc45
    have rk:=zcb (f:=zbo) hk
    refine rn ?_;refine qv rfl rfl (y4 rfl rfl (zbl (zqr (yao h p x).ts (za4 h x)[k] lM) (Sbs.refl _))) ?_
    refine qv rfl rfl (q6 rfl rfl) ?_
    refine z7 rfl (j4 rfl rfl (by simp only [oM,List.length_cons,List.length_nil];have:=List.length_take_le k (za4 h x);omega) rfl (fun s54=> ?_) (yck [(yao h p x).ts.contains (za4 h x)[k]]))
    refine j9 s54 fun sv hsv=> ?_
    subst hsv
    refine rn ?_;exact ⟨hk,sv,by rw [ya2 hk];exact eA⟩
   ·have qk:=zd4 hc45 lk
    refine rn ?_;exact zbs rfl rfl (.trans (.perm ((pt1 _ _ _).trans (.cons _ ((pt1 _ _ _).trans (.cons _ ((pt1 _ _ _).trans (.cons _ (pt1 _ _ _))))))) _) (.drop [_,_,_,_] _ _)) ⟨s,by rw [yfq,if_pos he,zs9,yd7,qk,List.take_length],by rw [he];rfl⟩
theorem yk8 (h:Hist) (la:Lim 4611686018427387904 h) (p x:Int):y8 Tryz.prog 98 [.agg (y9 h),iv p,iv x] (.glob 2 156 y2:: .glob 4 305 y3:: .glob 5 308 y1:: .glob 3 246 w9:: []) (fun r h'=>h'= .glob 2 156 y2:: .glob 4 305 y3:: .glob 5 308 y1:: .glob 3 246 w9:: []∧r= .tup [zl1 (yfq h p x),iv (zhr h p x)]):=
 (yhl h la p x).ventR (by rintro _ _ ⟨s,rfl,rfl⟩;exact ⟨_,_,zay [] [_],rfl,rfl⟩)
def zm6 {α:Type} (d:Nat→Option α):Nat→List α
 |0=> []
 |k+1=>zm6 d k++(d k).toList
theorem ylw {α:Type} {d:Nat→Option α} {k:Nat} (h:d k=none):zm6 d (k+1)=zm6 d k:=by rw [zm6,h];simp
theorem ylv {α:Type} {d:Nat→Option α} {k:Nat} {a:α} (h:d k=some a):zm6 d (k+1)=zm6 d k++ [a]:=by rw [zm6,h];rfl
theorem zt4 {α:Type} (d:Nat→Option α):∀n,(zm6 d n).length≤n
 |0=>by simp [zm6]
 |n+1=>by
  have:=zt4 d n
  rw [zm6,List.length_append]
  cases d n <;> simp <;> omega
def chD (l:List Bool) (k:Nat):Option Int:=if 0 < k∧l[k]? ≠l[k - 1]? then some (k:Int) else none
theorem zzy (l:List Bool):∀n,zm6 (chD l) n=zqx l n
 |0=>rfl
 |n+1=>by
  rw [zm6,zqx,zzy l n,chD]
  split <;> rfl
theorem yin {l:List Bool} {k:Nat} (h:decide ((k:Int) > 0)=false):chD l k=none:=by
 have:=oF h
 rw [chD,if_neg (by omega)]
theorem yow {l:List Bool} {k:Nat} (h:decide ((k:Int) > 0)=true) (hk:k < l.length) (hb:(l[k] !=l[k - 1]'(by omega))=true):chD l k=some (k:Int):=by
 have:=oT h
 rw [chD,if_pos ⟨by omega,by rw [List.getElem?_eq_getElem hk,List.getElem?_eq_getElem (by omega)];intro e;injection e with e;rw [e] at hb;simp at hb⟩]
theorem yim {l:List Bool} {k:Nat} (hk:k < l.length) (hb:(l[k] !=l[k - 1]'(by omega))=false):chD l k=none:=by
 rw [chD,if_neg (by rintro ⟨_,q⟩;apply q;rw [List.getElem?_eq_getElem hk,List.getElem?_eq_getElem (by omega)];congr 1;simpa using hb)]
theorem ye5 {k:Nat} (h:decide ((k:Int) > 0)=true):((k:Int) - 1).toNat=k - 1∧0≤(k:Int) - 1:=by
 have:=oT h
 omega
theorem yge {l:List Bool} {k:Nat} (h:decide ((k:Int) > 0)=true) (hk:k < l.length):(l.map zl2)[((k:Int) - 1).toNat]? =some (zl2 (l[k - 1]'(by omega))):=by
 rw [(ye5 h).1,List.getElem?_map,List.getElem?_eq_getElem (by omega)];rfl
theorem yk3 (l:List Bool) (hl:l.length≤1000000) (b1:Nat) (y:AV) (I:Nat→SV→List Res) (x0:SV) (hy:∀k x a,k < l.length→chD l k=some a→y0 Tryz.prog y [iv a] (.box b1 130 [zl1 l]::I k x) (fun r h'=>∃x',r=bv true∧h'= .box b1 130 [zl1 l]::I (k+1) x')) (hs:∀k x,k < l.length→chD l k=none→I (k+1) x=I k x):y8 Tryz.prog 149 [y,pZ b1] (.box b1 130 [zl1 l]::I 0 x0) (fun r h'=>∃x,h'=I l.length x):=by
 refine z6 Tryz.func149 rfl rfl rfl ?_
 refine rn ?_;refine zgi l.length (fun _ _=>True) (fun k (x:SV)=>⟨[(6,iv k),(0,y),(1,pZ b1),(5,iv (l.map zl2).length)],.box b1 130 [zl1 l]::I k x,[]⟩) x0 trivial es ?_
 intro k x lk _
 refine rn ?_;refine z8 rfl (fun hc7=> ?_) (fun hc7=> ?_)
 ·have hk:=zd2 hc7
  have rk:=zcb (f:=zl2) hk
  refine rn ?_;refine zaf 17 rfl ?_
  refine rn ?_;refine zco (fun hg3_2=> ?_) (fun hg3_2=> ?_)
  ·refine dq rfl rfl qrA ?_;refine dq rfl rfl qrA ?_;refine dq rfl rfl qrA ?_;refine dq rfl rfl qrA ?_;refine dq rfl rfl qrA ?_;refine dq rfl rfl qrA ?_;refine dq rfl rfl (zc5 rfl rfl rfl (by omega)) ?_
   refine dq rfl rfl (zbb rfl rfl (ye5 hg3_2).2 (yge hg3_2 hk)) ?_
   refine dq rfl rfl qrA ?_;refine dq rfl rfl (ykm (c:=l[k] !=l[k - 1]'(by omega)) (zpr rfl rfl) rfl) ?_
   refine rn ?_;refine zco (fun hg3_14=> ?_) (fun hg3_14=> ?_)
   ·refine rn ?_;refine z7 rfl (v6 rfl rfl (hy k x _ hk (yow hg3_2 hk (by exact hg3_14))) rfl ?_)
    rintro _ _ ⟨x',rfl,rfl⟩
    refine rn ?_;refine z8 rfl (fun hc28=> ?_) (fun hc28=> ?_)
    ·refine rn ?_;exact absurd hc28 (by simp)
    ·refine rn ?_;first|exact ⟨hk,x',trivial,eA⟩|exact ⟨hk,x,trivial,by rw [hs k x hk (yim hk (by exact hg3_14))];exact eA⟩|exact ⟨hk,x,trivial,by rw [hs k x hk (yin hg3_2)];exact eA⟩
   ·refine rn ?_;refine zq5 rfl ?_;refine rn ?_;first|exact ⟨hk,x',trivial,eA⟩|exact ⟨hk,x,trivial,by rw [hs k x hk (yim hk (by exact hg3_14))];exact eA⟩|exact ⟨hk,x,trivial,by rw [hs k x hk (yin hg3_2)];exact eA⟩
  ·refine rn ?_;refine zq5 rfl ?_;refine rn ?_;first|exact ⟨hk,x',trivial,eA⟩|exact ⟨hk,x,trivial,by rw [hs k x hk (yim hk (by exact hg3_14))];exact eA⟩|exact ⟨hk,x,trivial,by rw [hs k x hk (yin hg3_2)];exact eA⟩
 ·have qk:=zd4 hc7 lk
  subst qk
  refine rn ?_;exact zeq .nil (.drop [_] _ _) ⟨x,rfl⟩
theorem yn5 (l:List Bool) (W:List Res):y8 Tryz.prog 100 [zl1 l] W (fun r h'=>∃b1,h'= .box b1 130 [zl1 l]::W∧r= .fn (.func 149) [] [pZ b1]):=by
 refine z6 Tryz.func100 rfl rfl rfl ?_
 refine rn ?_;refine z7 rfl (w7 rfl rfl rfl fun b1=> ?_)
 refine rn ?_;exact zal rfl (.refl _ _) ⟨_,rfl,rfl⟩
theorem yiu (f:FuncId) [Go.Ab.Enters Tryz.prog f] (cs:List AV) (w1:Res) (n:Nat) (hn:n≤1000000) (d:Nat→Option (Int)) (W:List Res) (hseq:∀(y:AV) (I:Nat→SV→List Res) (x0:SV),(∀k x a,k < n→d k=some a→y0 Tryz.prog y [iv a] (w1::I k x) (fun r h'=>∃x',r=bv true∧h'=w1::I (k+1) x'))→(∀k x,k < n→d k=none→I (k+1) x=I k x)→y8 Tryz.prog f (y::cs) (w1::I 0 x0) (fun _ h'=>∃x,h'=I n x)):y8 Tryz.prog 148 [.v (.slice none 0 0),.fn (.func f) [] cs] (w1::W) (fun r h'=>∃s:SV,h'= .row s.v 1 3 ((zm6 d n).map zbo)::W∧r= .v s.v):=by
 refine z6 Tryz.func148 rfl rfl rfl ?_
 refine rn ?_;refine z7 rfl (w7 rfl rfl rfl fun b2=> ?_)
 refine rn ?_;refine zfo (s':=⟨[(6,.fn (.func f) [] cs),(2,pZ b2)],w1:: .box b2 29 [.v (⟨none,0,0⟩:SV).v]:: .row (⟨none,0,0⟩:SV).v 1 3 ((zm6 d 0).map zbo)::W,[]⟩) (v8 (v8 (zbk 1 3) (zah ((pt2 _ _ _ _).trans (.cons _ (pt1 _ _ _))))) es) ?_
 refine zl7 (fun pend h''=>pend=none∧∃s:SV,h''= .box b2 29 [.v s.v]:: .row s.v 1 3 ((zm6 d n).map zbo)::W) rfl (fun fn l q lp hlp=> ?_) (fun q h'' hK=> ?_) (fun q h'' c hK=> ?_)
 ·suffices hy:∀k (s:SV) a,k < n→d k=some a→y0 Tryz.prog (yv l) [iv a] (w1::lp .ready none:: .defs q:: .box b2 29 [.v s.v]:: .row s.v 1 3 ((zm6 d k).map zbo)::W) (fun r h'=>∃s':SV,r=bv true∧h'=w1::lp .ready none:: .defs q:: .box b2 29 [.v s'.v]:: .row s'.v 1 3 ((zm6 d (k+1)).map zbo)::W) by
   refine y8.mono (y8.perm (pt2 _ _ _ _) (hseq (yv l) (fun k (s:SV)=>lp .ready none:: .defs q:: .box b2 29 [.v s.v]:: .row s.v 1 3 ((zm6 d k).map zbo)::W) ⟨none,0,0⟩ hy (fun k s hk hn=>by rw [ylw hn]))) ?_
   rintro _ _ ⟨s,rfl⟩
   exact ⟨none,.ready,_,.refl _,by simp,rfl,s,rfl⟩
  intro k s a hk hd
  refine y0.perm (pt1 _ _ _) (y0.ventE ?_)
  refine zdj hlp rfl rfl ?_
  refine rn ?_;refine ⟨[(5,iv a),(2,pZ b2)],w1:: .defs q:: .box b2 29 [.v s.v]:: .row s.v 1 3 ((zm6 d k).map zbo)::W,es,?_⟩
  refine rn ?_;refine qv rfl rfl (q6 rfl rfl) ?_
  refine z7 rfl (j4 rfl rfl (by simp only [oM,List.length_cons,List.length_nil];have:=zt4 d k;omega) rfl (fun s11=> ?_) (ziy [a]))
  refine j9 s11 fun sv hsv=> ?_
  subst hsv
  refine rn ?_;exact zcy (.refl _) ⟨_,_,.perm (pt1 _ _ _) _,sv,rfl,by rw [ylv hd,List.map_append];rfl⟩
 ·obtain ⟨_,s,rfl⟩:=hK
  refine rn ?_;exact zgx (.refl _) (.cons _ _ _ _ (.tmp _ _ rfl) .nil) (.drop1 _ _ _) ⟨s,rfl,rfl⟩
 ·obtain ⟨hc,_⟩:=hK
  exact absurd hc (by simp)
theorem ydr (f:FuncId) [Go.Ab.Enters Tryz.prog f] (cs:List AV) (w1:Res) (n:Nat) (hn:n≤1000000) (d:Nat→Option (Int)) (W:List Res) (hseq:∀(y:AV) (I:Nat→SV→List Res) (x0:SV),(∀k x a,k < n→d k=some a→y0 Tryz.prog y [iv a] (w1::I k x) (fun r h'=>∃x',r=bv true∧h'=w1::I (k+1) x'))→(∀k x,k < n→d k=none→I (k+1) x=I k x)→y8 Tryz.prog f (y::cs) (w1::I 0 x0) (fun _ h'=>∃x,h'=I n x)):y8 Tryz.prog 99 [.fn (.func f) [] cs] (w1::W) (fun r h'=>∃s:SV,h'= .row s.v 1 3 ((zm6 d n).map zbo)::W∧r= .v s.v):=by
 refine z6 Tryz.func99 rfl rfl rfl ?_
 refine rn ?_;refine z7 rfl (v6 rfl rfl (y0.of_fun (yiu f cs w1 n hn d W hseq)) rfl ?_)
 rintro _ _ ⟨s,rfl,rfl⟩
 refine rn ?_;exact zal rfl (.refl _ _) ⟨s,rfl,rfl⟩
theorem yfp {h:Hist} {N:Nat} (la:Lim N h) {p x:Int} (he:zhr h p x=0):(zs9 h p x).length≤1000000:=by
 have lA:=zgg (zu0.1 he).1
 have:=zy0 lA x
 rw [zkw,znr he];omega
theorem yho (h:Hist) (la:Lim 4611686018427387904 h) (p x:Int):y8 Tryz.prog 42 [.agg (y9 h),iv p,iv x] (.glob 2 156 y2:: .glob 4 305 y3:: .glob 5 308 y1:: .glob 3 246 w9:: []) (fun r h'=>∃s:SV,h'= .row s.v 1 3 ((chL h p x).map zbo):: .glob 2 156 y2:: .glob 4 305 y3:: .glob 5 308 y1:: .glob 3 246 w9:: []∧r= .tup [.v s.v,iv (zhr h p x)]):=by
 refine z6 Tryz.func42 rfl rfl rfl ?_
 refine rn ?_;refine z7 rfl (w7 rfl rfl rfl fun b3=> ?_)
 refine rn ?_;refine qv rfl rfl (y4 rfl rfl (y0.qt (y0.of_fun (yk8 h la p x)) ((pt1 _ _ _).trans (.cons _ ((pt1 _ _ _).trans (.cons _ ((pt1 _ _ _).trans (.cons _ (pt1 _ _ _))))))))) ?_
 refine rn ?_;refine z8 rfl (fun hc18=> ?_) (fun hc18=> ?_)
 ·have he:=yp4 (h:=h) (p:=p) (x:=x) (r:=0) (ym8 hc18)
  refine rn ?_;exact zbs rfl rfl (.trans (.drop [_] _ _) (zaa 1 3 _)) ⟨⟨none,0,0⟩,by rw [he.2.2];rfl,rfl⟩
 ·have he:zhr h p x=0:=yn4 hc18
  have hl:yfq h p x=zs9 h p x:=by rw [yfq,if_pos he]
  have lt:=yfp la he
  rw [hl]
  refine rn ?_;refine z7 rfl (v6 rfl rfl (y0.of_fun (yn5 (zs9 h p x) _)) rfl ?_)
  rintro _ _ ⟨b1,rfl,rfl⟩
  refine z7 rfl (v6 rfl rfl (y0.of_fun (ydr 149 [pZ b1] _ (zs9 h p x).length lt (chD (zs9 h p x)) _ (fun y I x0 hy hs=>yk3 (zs9 h p x) lt b1 y I x0 hy hs))) rfl ?_)
  rintro _ _ ⟨s,rfl,rfl⟩
  refine rn ?_;exact zbs rfl rfl (.trans (.perm (pt1 _ _ _) _) (.drop [_] _ _)) ⟨s,by rw [chL,if_pos he,yjb,zzy],by rw [he];rfl⟩
theorem ylb (h:Hist) (la:Lim 4611686018427387904 h) (p x:Int):y8 Tryz.prog 42 [.agg (y9 h),iv p,iv x] (.glob 2 156 y2:: .glob 4 305 y3:: .glob 5 308 y1:: .glob 3 246 w9:: []) (fun r h'=>h'= .glob 2 156 y2:: .glob 4 305 y3:: .glob 5 308 y1:: .glob 3 246 w9:: []∧r= .tup [zb5 (chL h p x),iv (zhr h p x)]):=
 (yho h la p x).ventR (by rintro _ _ ⟨s,rfl,rfl⟩;exact ⟨_,_,zay [] [_],rfl,rfl⟩)
def ev0:Ev:=⟨0,0,0,0,0,⟨0,0⟩,0,[]⟩
def evA (h:Hist) (n:Int):Ev:=if zd6 h n h.evs.length=0 then evD h.evs n else ev0
def yea (h:Hist) (n:Int):List Seen:=if zd7 h n=0 then zcc h (evD h.evs n) n.toNat else []
theorem ynh {p:Prop} (c d:Prop) [Decidable c] [Decidable d] (x:c→d→p) (y:c→¬d→p) (z:¬c→p):p:=if h:c then (if k:d then x h k else y h k) else z h
theorem zv0 {h:Hist} {n:Int} (he:zd6 h n h.evs.length=0):∃a:Nat,∃ha:a < h.evs.length,n=a∧evA h n=h.evs[a]∧u3 h=0:=by
 obtain ⟨hs,n0,n1⟩:=zwb he
 obtain ⟨a,rfl⟩:=Int.eq_ofNat_of_zero_le n0
 exact ⟨a,by omega,rfl,by rw [evA,if_pos he,zt9 (by omega)],zaw.2 hs⟩
theorem ymd {h:Hist} {n:Int} (he:zd6 h n h.evs.length≠0):evA h n=ev0:=by rw [evA,if_neg he]
theorem yo4 {h:Hist} {a:Nat} (ha:a < h.evs.length) (hc:u3 h=0) (h4:h.evs[a].kind=4):zd7 h a=0∧yea h a=zcc h h.evs[a] a:=by
 have:=(ypn hc ha h4).1
 exact ⟨this,by rw [yea,this,if_pos rfl,zt9 ha,Int.toNat_natCast]⟩
theorem yjl {h:Hist} {n:Int} (hc:u3 h=0) (hn:¬(0≤n∧n < h.evs.length∧(evD h.evs n).kind=4)):zd7 h n=2∧yea h n= []:=by
 have:=(ypo hc hn).1
 exact ⟨this,by rw [yea,this];rfl⟩
theorem ym4 {h:Hist} {n:Int} (he:zd6 h n h.evs.length≠0):zd7 h n=zd6 h n h.evs.length∧yea h n= []:=by
 by_cases hc:u3 h=0
 ·have hn:¬(0≤n∧n < (h.evs.length:Int)):=fun q=>he (zoz hc q)
  obtain ⟨a,b⟩:=yjl (h:=h) (n:=n) hc (fun q=>hn ⟨q.1,q.2.1⟩)
  exact ⟨by rw [a,zwa hc hn],b⟩
 ·have:=(ypp (n:=n) hc).1
  exact ⟨by rw [this,ask_c hc],by rw [yea,this,if_neg hc]⟩
theorem ync {h:Hist} {n:Int} (he:zd6 h n h.evs.length=0):evA h n=evD h.evs n:=by rw [evA,if_pos he]
theorem ycy (h:Hist) (la:Lim 4611686018427387904 h) (n:Int):y8 Tryz.prog 97 [.agg (y9 h),iv n] (.glob 2 156 y2:: .glob 4 305 y3:: .glob 5 308 y1:: .glob 3 246 w9:: []) (fun r h'=>h'= .glob 2 156 y2:: .glob 4 305 y3:: .glob 5 308 y1:: .glob 3 246 w9:: []∧r= .tup [.agg (evR (evA h n)),iv (zd6 h n h.evs.length)]):=by
 refine z6 Tryz.func97 rfl rfl rfl ?_
 refine rn ?_;refine z7 rfl (w7 rfl rfl rfl fun b2=> ?_)
 refine z7 rfl (y6 rfl fun b4=> ?_)
 refine rn ?_;refine qv rfl rfl (y4 rfl rfl (y0.qt (y0.of_fun (yeq h la)) ((pt2 _ _ _ _).trans (.cons _ ((pt2 _ _ _ _).trans (.cons _ ((pt2 _ _ _ _).trans (.cons _ (pt2 _ _ _ _))))))))) ?_
 refine rn ?_;refine z8 rfl (fun hc14=> ?_) (fun hc14=> ?_)
 ·have he:zd6 h n h.evs.length=u3 h:=ask_c (ym8 hc14)
  have hn:zd6 h n h.evs.length≠0:=by rw [he];exact ym8 hc14
  refine w8 (y7 ?_)
  refine qq rfl rfl (zhi (fun w O v hr=>Sb.rel (Sb.aggs (bs:=evR ev0) (by exact ⟨.refl _,.refl _,.refl _,.refl _,.refl _,.refl _,.refl _,.refl _,.nil _ _,trivial⟩)) hr) (zac (out:= [iv 0,iv 0,iv 0,iv 0,iv 0,iv 0,iv 0,iv 0,.v (.slice none 0 0)]) rfl (by rfl))) ?_
  refine rn ?_;exact zd0 (.cons _ _ _ _ (.agg _ _ _ _ _ _ _ rfl inferInstance inferInstance inferInstance rfl) (.cons _ _ _ _ (.tmp _ _ rfl) .nil)) (.drop [_,_] _ _) ⟨rfl,by rw [ymd hn,he];rfl⟩
 ·have hc:=yn4 hc14
  refine rn ?_;refine qv rfl rfl (y4 rfl rfl (zbl (yla n (h.evs.map evR).length) (Sbs.refl _))) ?_
  refine rn ?_;refine z8 rfl (fun hc22=> ?_) (fun hc22=> ?_)
  ·have he:zd6 h n h.evs.length=2:=zwa hc (by have q:=yo9 hc22;rw [oM] at q;exact q)
   have hn:zd6 h n h.evs.length≠0:=by rw [he];decide
   refine w8 (y7 ?_)
   refine qq rfl rfl (zhi (fun w O v hr=>Sb.rel (Sb.aggs (bs:=evR ev0) (by exact ⟨.refl _,.refl _,.refl _,.refl _,.refl _,.refl _,.refl _,.refl _,.nil _ _,trivial⟩)) hr) (zac (out:= [iv 0,iv 0,iv 0,iv 0,iv 0,iv 0,iv 0,iv 0,.v (.slice none 0 0)]) rfl (by rfl))) ?_
   refine rn ?_;exact zd0 (.cons _ _ _ _ (.agg _ _ _ _ _ _ _ rfl inferInstance inferInstance inferInstance rfl) (.cons _ _ _ _ (.tmp _ _ rfl) .nil)) (.drop [_,_] _ _) ⟨rfl,by rw [ymd hn,he];rfl⟩
  ·have q:=ypa hc22
   rw [oM] at q
   have he:=zoz hc q
   obtain ⟨a,ha,rfl,ea,_⟩:=zv0 he
   have ra:=zcb (f:=evR) ha
   refine za0 ?_;refine zan ?_;refine w8 (y7 ?_)
   refine q1 ?_;refine q1 ?_;refine q1 ?_;refine qq rfl rfl (zbb rfl rfl q.1 ra) ?_
   refine rn ?_;exact zd0 (.cons _ _ _ _ (.agg _ _ _ _ _ _ _ rfl inferInstance inferInstance inferInstance rfl) (.cons _ _ _ _ (.tmp _ _ rfl) .nil)) (.drop [_,_] _ _) ⟨rfl,by rw [ea,he];rfl⟩
theorem yhm (h:Hist) (la:Lim 4611686018427387904 h) (n:Int):y8 Tryz.prog 41 [.agg (y9 h),iv n] (.glob 2 156 y2:: .glob 4 305 y3:: .glob 5 308 y1:: .glob 3 246 w9:: []) (fun r h'=>∃s:SV,h'= .row s.v 3 70 ((yea h n).map za2):: .glob 2 156 y2:: .glob 4 305 y3:: .glob 5 308 y1:: .glob 3 246 w9:: []∧r= .tup [.v s.v,iv (zd7 h n)]):=by
 refine z6 Tryz.func41 rfl rfl rfl ?_
 refine rn ?_;refine z7 rfl (w7 rfl rfl rfl fun b2=> ?_)
 refine rn ?_;refine zil ?_;refine rn ?_;refine qv rfl rfl (y4 rfl rfl (y0.qt (y0.of_fun (ycy h la n)) ((pt1 _ _ _).trans (.cons _ ((pt1 _ _ _).trans (.cons _ ((pt1 _ _ _).trans (.cons _ (pt1 _ _ _))))))))) ?_
 refine rn ?_;refine z7 rfl (y6 rfl fun b6=> ?_)
 first|refine z7 rfl (j8 rfl rfl rfl ?_)|refine z7 rfl (zap rfl rfl rfl rfl (Nat.le_of_ble_eq_true rfl) ?_)
 refine q1 ?_;refine j6 (zan ?_)
 refine w8 ?_;refine w8 (y7 ?_)
 refine q1 ?_;refine ynh (zd6 h n h.evs.length=0) ((evA h n).kind=4) (fun hc h4=>qq rfl rfl (zak (c:=true) rfl rfl (congrArg some (by rw [hc];rfl))) ?_) (fun hc h4=>qq rfl rfl (zak (c:=true) rfl rfl (congrArg some (by rw [hc];rfl))) ?_) (fun hc=>qq rfl rfl (zak (c:=false) rfl rfl (congrArg some (by simpa using hc))) ?_)
 ·refine q1 ?_;refine q1 ?_;refine q1 ?_;refine qq rfl rfl (by first|exact zak (c:=false) rfl rfl (congrArg some (by rw [h4];rfl))|exact zak (c:=true) rfl rfl (congrArg some (by simpa using h4))) ?_
  refine rn ?_;refine z8 rfl (fun hc29=> ?_) (fun hc29=> ?_)
  ·first|cases hc29|exact absurd hc29 (by decide)|(exfalso;simp_all;done)
  ·refine za0 ?_;refine zan ?_;refine w8 ?_;refine w8 (y7 ?_)
   refine q1 ?_;refine qq rfl rfl (by first|exact zak (c:=false) rfl rfl (congrArg some (by rw [hc];rfl))|exact zak (c:=true) rfl rfl rfl|exact zak (c:=true) rfl rfl (congrArg some (by simpa using hc))) ?_
   refine rn ?_;refine z8 rfl (fun hc31=> ?_) (fun hc31=> ?_)
   ·first|cases hc31|exact absurd hc31 (by decide)|(exfalso;simp_all;done)
   ·refine za0 ?_;refine rn0 ?_;refine w8 ?_;obtain ⟨a,ha,rfl,ea,hk0⟩:=zv0 hc
    rw [ea] at h4
    rw [ea]
    obtain ⟨hse,hsl⟩:=yo4 ha hk0 h4
    have lA:=zgg hk0
    have be:=lA.evs
    have bs:=lA.scans h.evs[a] (List.getElem_mem ha)
    refine rn ?_;refine z7 rfl (zas (enc:=intK) rfl fun rm=> ?_)
    refine rn ?_;refine zcu h.evs.length (fun k=>k≤a) (fun k=>⟨[(37,iv k),(1,iv (a:Int)),(2,pZ b2),(6,pZ b6),(8,mpv rm),(35,zwj h.evs),(36,iv (h.evs.map evR).length)],.map rm (zag intK (zbc zwr (zwg (h.evs.take k) h.evs[a].t))):: .box b6 60 (evR h.evs[a]):: .box b2 28 (y9 h):: .glob 2 156 y2:: .glob 4 305 y3:: .glob 5 308 y1:: .glob 3 246 w9:: [],[]⟩) (Nat.zero_le _) es ?_
    intro k lk ka
    refine rn ?_;refine z8 rfl (fun hc38=> ?_) (fun hc38=> ?_)
    ·have hk:=zd2 hc38
     have rk:=zcb (f:=evR) hk
     refine rn ?_;refine z7 rfl (y6 rfl fun b10=> ?_)
     refine rn ?_;refine z8 rfl (fun hc42=> ?_) (fun hc42=> ?_)
     ·obtain rfl:a=k:=by have:=eq_of_beq hc42;omega
      refine rn ?_;refine zcu h.evs[a].scan.length (fun _=>True) (fun j=>⟨[(66,iv j),(2,pZ b2),(8,mpv rm),(64,zk1 h.evs[a].scan),(65,iv (h.evs[a].scan.map za2).length)],.map rm (zag intK (zbc zwr (yf3 (zwg (h.evs.take a) h.evs[a].t) (h.evs[a].scan.take j)))):: .box b6 60 (evR h.evs[a]):: .box b2 28 (y9 h):: .glob 2 156 y2:: .glob 4 305 y3:: .glob 5 308 y1:: .glob 3 246 w9:: [],[]⟩) trivial eA ?_
      intro j lj _
      refine rn ?_;refine z8 rfl (fun hc67=> ?_) (fun hc67=> ?_)
      ·have hj:=zd2 hc67
       have rj:=zcb (f:=za2) hj
       refine rn ?_;refine z7 rfl (y6 rfl fun b12=> ?_)
       refine rn ?_;refine z7 rfl (zar (g:=zwr) (enc:=intK) (k:=h.evs[a].scan[j].o) (v:=h.evs[a].scan[j].v) rfl rfl rfl ?_)
       refine rn ?_;exact ⟨hj,trivial,by rw [yjr hj];exact eA⟩
      ·have qj:=zd4 hc67 lj
       subst qj
       rw [List.take_length]
       refine rn ?_;refine zl6 h.os.length (fun k s=>⟨[(79,iv k),(13,.v s.v),(8,mpv rm),(78,iv (h.os.map zmc).length)],.row s.v 3 70 (((upR k).map fun x:Int=>(⟨x,ykp h.evs h.evs[a].t a h.evs[a].scan x⟩:Seen)).map za2):: .map rm (zag intK (zbc zwr (yf3 (zwg (h.evs.take a) h.evs[a].t) h.evs[a].scan))):: .box b6 60 (evR h.evs[a]):: .box b2 28 (y9 h):: .glob 2 156 y2:: .glob 4 305 y3:: .glob 5 308 y1:: .glob 3 246 w9:: [],[]⟩) ⟨none,0,0⟩ (v8 (zbk 3 70) es) ?_
       intro k s lk
       refine rn ?_;refine z8 rfl (fun hc80=> ?_) (fun hc80=> ?_)
       ·have hk:k < h.os.length:=by have q:=oT hc80;rw [oM] at q;omega
        have bo:=lA.os
        have hv:=yg1 (l:=h.evs) (t:=h.evs[a].t) (x:=(k:Int)) h.evs[a].scan (Nat.le_of_lt ha)
        refine za0 ?_;refine zan ?_;refine w8 ?_;refine zdl ?_;refine w8 (y7 ?_)
        refine q1 ?_;refine q1 ?_;refine j6 (zan ?_)
        refine w8 (y7 ?_)
        refine q1 ?_;refine qq rfl rfl (zac (out:= [iv (k:Int),iv 0,iv 0]) rfl (by rfl)) ?_
        refine z7 rfl (y6 rfl fun b15=> ?_)
        first|refine z7 rfl (j8 rfl rfl rfl ?_)|refine z7 rfl (zap rfl rfl rfl rfl (Nat.le_of_ble_eq_true rfl) ?_)
        refine j6 (zan ?_)
        refine w8 ?_;refine w8 (y7 ?_)
        refine q1 ?_;refine q1 ?_;refine qq rfl rfl (zbt (g:=zwr) (enc:=intK) (k:=(k:Int)) (⟨0,0⟩:Ver) rfl rfl) ?_
        rw [hv]
        generalize hV:ykp h.evs h.evs[a].t a h.evs[a].scan (k:Int)=V
        refine z7 rfl (y6 rfl fun b16=> ?_)
        first|refine z7 rfl (j8 rfl rfl rfl ?_)|refine z7 rfl (zap rfl rfl rfl rfl (Nat.le_of_ble_eq_true rfl) ?_)
        refine j6 (zan ?_)
        refine w8 (y7 ?_)
        refine q1 ?_;refine qq rfl rfl (zac (out:= [iv 0,iv 0]) rfl (by rfl)) ?_
        refine rn ?_;refine z8 rfl (fun hc89=> ?_) (fun hc89=> ?_)
        ·refine rn ?_;refine qv rfl rfl (q6 rfl rfl) ?_
         refine z7 rfl (j4 rfl rfl (by simp only [oM,upR,List.length_range,List.length_cons,List.length_nil];omega) rfl (fun s95=> ?_) (by first|exact zh6 [(⟨(k:Int),V⟩:Seen)]|exact zh6 [(⟨(k:Int),⟨0,0⟩⟩:Seen)]))
         refine j9 s95 fun sv hsv=> ?_
         subst hsv
         refine rn ?_;exact ⟨hk,sv,by rw [yfj,List.map_append,List.map_append,List.map_singleton,List.map_singleton,hV];exact eA⟩
        ·have hv0:V=⟨0,0⟩:=eq_of_beq (by rw [←zj8];simpa using hc89)
         subst hv0
         refine rn ?_;refine qv rfl rfl (q6 rfl rfl) ?_
         refine z7 rfl (j4 rfl rfl (by simp only [oM,upR,List.length_range,List.length_cons,List.length_nil];omega) rfl (fun s95=> ?_) (by first|exact zh6 [(⟨(k:Int),V⟩:Seen)]|exact zh6 [(⟨(k:Int),⟨0,0⟩⟩:Seen)]))
         refine j9 s95 fun sv hsv=> ?_
         subst hsv
         refine rn ?_;exact ⟨hk,sv,by rw [yfj,List.map_append,List.map_append,List.map_singleton,List.map_singleton,hV];exact eA⟩
       ·have qk:k=h.os.length:=by have q:=oF hc80;rw [oM] at q;omega
        subst qk
        refine rn ?_;refine ⟨fun l h=>(by cases h),?_⟩
        exact zbs rfl rfl (.trans (.perm ((pt1 _ _ _).trans (.cons _ ((pt1 _ _ _).trans (.cons _ (pt1 _ _ _))))) _) (.drop [_,_,_] _ _)) ⟨s,by rw [hsl];rfl,by rw [hse];rfl⟩
     ·have hka:k < a:=by have:=beq_eq_false_iff_ne.1 hc42;omega
      refine rn ?_;refine u4 (fun hg11_5=> ?_) (fun hg11_5=> ?_)
      ·refine rn ?_;refine z8 rfl (fun hc46=> ?_) (fun hc46=> ?_)
       ·have hw:(h.evs[k].t==h.evs[a].t && h.evs[k].kind==2)=true:=by first|(rw [hg11_5];exact hc46)|(rw [Bool.and_eq_true];exact ⟨hg11_5,hc46⟩)
        refine rn ?_;refine z7 rfl (zar (g:=zwr) (enc:=intK) (k:=h.evs[k].o) (v:=h.evs[k].v) rfl rfl rfl ?_)
        refine rn ?_;first|exact ⟨hk,hka,by rw [zx1 hk hw];exact eA⟩|exact ⟨hk,hka,by rw [zx2 hk hw];exact eA⟩
       ·have hw:(h.evs[k].t==h.evs[a].t && h.evs[k].kind==2)=false:=by first|(rw [hg11_5,hc46];rfl)|(rw [hg11_5];rfl)
        refine rn ?_;first|exact ⟨hk,hka,by rw [zx1 hk hw];exact eA⟩|exact ⟨hk,hka,by rw [zx2 hk hw];exact eA⟩
      ·refine rn ?_;refine z8 rfl (fun hc46=> ?_) (fun hc46=> ?_)
       ·first|cases hc46|exact absurd hc46 (by decide)|(exfalso;simp_all;done)
       ·have hw:(h.evs[k].t==h.evs[a].t && h.evs[k].kind==2)=false:=by first|(rw [hg11_5,hc46];rfl)|(rw [hg11_5];rfl)
        refine rn ?_;first|exact ⟨hk,hka,by rw [zx1 hk hw];exact eA⟩|exact ⟨hk,hka,by rw [zx2 hk hw];exact eA⟩
    ·exfalso;have qk:=zd4 hc38 lk;omega
 ·refine q1 ?_;refine q1 ?_;refine q1 ?_;refine qq rfl rfl (by first|exact zak (c:=false) rfl rfl (congrArg some (by rw [h4];rfl))|exact zak (c:=true) rfl rfl (congrArg some (by simpa using h4))) ?_
  refine rn ?_;refine z8 rfl (fun hc29=> ?_) (fun hc29=> ?_)
  ·refine y7 ?_;refine q1 ?_;refine j6 (zan ?_)
   refine w8 ?_;refine w8 (y7 ?_)
   refine q1 ?_;refine qq rfl rfl (by first|exact zak (c:=false) rfl rfl (congrArg some (by rw [hc];rfl))|exact zak (c:=true) rfl rfl rfl|exact zak (c:=true) rfl rfl (congrArg some (by simpa using hc))) ?_
   refine rn ?_;refine z8 rfl (fun hc31=> ?_) (fun hc31=> ?_)
   ·refine rn ?_;refine ⟨fun l h=>(by cases h),?_⟩
    exact zbs rfl rfl (.trans (.drop [_,_] _ _) (zaa 3 70 _)) ⟨⟨none,0,0⟩,by first|(rw [(ym4 hc).2];rfl)|(obtain ⟨a,ha,rfl,ea,hk0⟩:=zv0 hc;rw [(yjl hk0 (by rw [←ync hc];exact fun q=>h4 q.2.2)).2];rfl),by first|(rw [(ym4 hc).1];rfl)|(obtain ⟨a,ha,rfl,ea,hk0⟩:=zv0 hc;rw [(yjl hk0 (by rw [←ync hc];exact fun q=>h4 q.2.2)).1];rfl)⟩
   ·first|cases hc31|exact absurd hc31 (by decide)|(exfalso;simp_all;done)
  ·first|cases hc29|exact absurd hc29 (by decide)|(exfalso;simp_all;done)
 ·refine rn ?_;refine z8 rfl (fun hc29=> ?_) (fun hc29=> ?_)
  ·first|cases hc29|exact absurd hc29 (by decide)|(exfalso;simp_all;done)
  ·refine za0 ?_;refine zan ?_;refine w8 ?_;refine w8 (y7 ?_)
   refine q1 ?_;refine qq rfl rfl (by first|exact zak (c:=false) rfl rfl (congrArg some (by rw [hc];rfl))|exact zak (c:=true) rfl rfl rfl|exact zak (c:=true) rfl rfl (congrArg some (by simpa using hc))) ?_
   refine rn ?_;refine z8 rfl (fun hc31=> ?_) (fun hc31=> ?_)
   ·refine rn ?_;refine ⟨fun l h=>(by cases h),?_⟩
    exact zbs rfl rfl (.trans (.drop [_,_] _ _) (zaa 3 70 _)) ⟨⟨none,0,0⟩,by first|(rw [(ym4 hc).2];rfl)|(obtain ⟨a,ha,rfl,ea,hk0⟩:=zv0 hc;rw [(yjl hk0 (by rw [←ync hc];exact fun q=>h4 q.2.2)).2];rfl),by first|(rw [(ym4 hc).1];rfl)|(obtain ⟨a,ha,rfl,ea,hk0⟩:=zv0 hc;rw [(yjl hk0 (by rw [←ync hc];exact fun q=>h4 q.2.2)).1];rfl)⟩
   ·first|cases hc31|exact absurd hc31 (by decide)|(exfalso;simp_all;done)
theorem yk9 (h:Hist) (la:Lim 4611686018427387904 h) (n:Int):y8 Tryz.prog 41 [.agg (y9 h),iv n] (.glob 2 156 y2:: .glob 4 305 y3:: .glob 5 308 y1:: .glob 3 246 w9:: []) (fun r h'=>h'= .glob 2 156 y2:: .glob 4 305 y3:: .glob 5 308 y1:: .glob 3 246 w9:: []∧r= .tup [zk1 (yea h n),iv (zd7 h n)]):=
 (yhm h la n).ventR (by rintro _ _ ⟨s,rfl,rfl⟩;exact ⟨_,_,zay [] [_],rfl,rfl⟩)
def znx (p:Int×List Int):List AV:= [iv p.1,zb5 p.2]
abbrev zhg (l:List (Int×List Int)):AV:= .list false 2 (l.map znx)
theorem ykx (l:List (Int×List Int)):∀r∈l.map znx,r.all AV.one=true:=by
 intro r hr;obtain ⟨a,_,rfl⟩:=List.mem_map.1 hr;rfl
theorem ye6 {h:Hist} (hc:u3 h=0) (p x:Int):(chL h p x).length≤4000:=by
 rw [chL];split
 ·rename_i he
  have h1:=(zu0.1 he).2.1
  rw [yjb]
  refine Nat.le_trans (zue _ _) ?_
  have:=zt1 hc h1.1 h1.2
  rw [zkw];omega
 ·exact Nat.zero_le _
theorem zoo {α:Type} (p:α→Bool):∀(l:List α) (i:Nat), -1≤za9 p i l∧za9 p i l < (i+l.length:Nat)+1
 | [],i=>by simp only [za9,List.length_nil];omega
 |a::r,i=>by
  have:=zoo p r (i+1)
  simp only [za9,List.length_cons]
  split <;> omega
theorem yj1 {h:Hist} (hc:u3 h=0) {x:Int} (h0:0≤x) (h1:x < h.os.length) {v:Ver} {r:Int} (hr:zim h x v=some r):0≤r∧r≤4000:=by
 have hb:=zt1 hc h0 h1
 rw [zim,zk5 (zaw.1 hc) v h0 h1 _ (Nat.le_refl _) h1] at hr
 split at hr
 ·injection hr with hr;omega
 ·split at hr
  ·injection hr with hr
   have:zh3 h x v < ((0+(za4 h x).length:Nat):Int)+1:=by rw [zh3];exact (zoo _ _ _).2
   omega
  ·cases hr
theorem zvb {h:Hist} {e:Ev} (hn:(!(zim h e.o e.v).isSome)=true):zdg h e= []:=by
 rw [zdg];cases hq:zim h e.o e.v with
 |none=>rfl
 |some r=>rw [hq] at hn;cases hn
theorem zva {h:Hist} {e:Ev} {r:Int} (hr:zim h e.o e.v=some r):zdg h e= [(e.o,[r+1])]:=by rw [zdg,hr]
theorem zt7 {α:Type} (p:α→Bool):∀(l:List α) (i:Nat),za9 p i l= -1∨(i:Int)≤za9 p i l
 | [],i=>by simp [za9]
 |a::r,i=>by
  have:=zt7 p r (i+1)
  simp only [za9]
  split
  ·right;omega
  ·omega
theorem ydo {l:List Int} {q:Int→Bool} {i n:Nat} (h:za9 q i l=((i+n:Nat):Int)):l.dropWhile (fun k=> !q k)=l.drop n:=by
 induction l generalizing i n with
 |nil=>simp [za9] at h;omega
 |cons a r ih=>
  rw [za9] at h
  by_cases hq:q a=true
  ·rw [if_pos hq] at h
   have:n=0:=by omega
   subst this
   simp [hq]
  ·rw [if_neg hq] at h
   have hf:q a=false:=by simpa using hq
   obtain ⟨m,rfl⟩:∃m,n=m+1:=⟨n - 1,by
    have:=zt7 q r (i+1);omega⟩
   rw [List.dropWhile_cons,hf]
   simp only [Bool.not_false,if_true,List.drop_succ_cons]
   exact ih (i:=i+1) (n:=m) (by rw [h];congr 1;omega)
theorem ypm {h:Hist} {e:Ev} {s:Seen} {r:Int} {n:Nat} (hr:zim h s.o s.v=some r) (hn:za9 (fun k=>decide (k > r)) 0 (chL h e.p s.o)=(n:Int)):zcw h e s=some (s.o,rwOver h e.p s.o r)∧rwOver h e.p s.o r=(chL h e.p s.o).drop n:=by
 have ha:(chL h e.p s.o).any (fun k=>decide (k > r))=true:=by rw [←zds _ _ 0,hn];exact decide_eq_true (by omega)
 exact ⟨by rw [zcw,hr];simp only;rw [if_pos ha],by rw [rwOver];exact ydo (i:=0) (by rw [hn];congr 1;omega)⟩
theorem yo5 {h:Hist} {e:Ev} {s:Seen} (hn:(zim h s.o s.v).isSome=false∨decide (za9 (fun k=>decide (k > (zim h s.o s.v).getD 0)) 0 (chL h e.p s.o) ≥ 0)=false):zcw h e s=none:=by
 rw [zcw]
 cases hr:zim h s.o s.v with
 |none=>rfl
 |some r=>
  rw [hr] at hn
  rcases hn with q|q
  ·cases q
  ·rw [Option.getD_some,zds] at q
   simp only
   rw [if_neg (by rw [q];decide)]
theorem yl4 {α β:Type} (f:α→Option β) (l:List α) (k:Nat):((l.take k).filterMap f).length≤k:=Nat.le_trans (List.length_filterMap_le _ _) (List.length_take_le _ _)
theorem yna {α β:Type} {f:α→Option β} {l:List α} {k:Nat} {b:β} (hk:k < l.length) (h:f l[k]=some b):(l.take (k+1)).filterMap f=(l.take k).filterMap f++ [b]:=by
 rw [List.take_succ_eq_append_getElem hk,List.filterMap_append];simp [h]
theorem ynb {α β:Type} {f:α→Option β} {l:List α} {k:Nat} (hk:k < l.length) (h:f l[k]=none):(l.take (k+1)).filterMap f=(l.take k).filterMap f:=by
 rw [List.take_succ_eq_append_getElem hk,List.filterMap_append];simp [h]
theorem yno (h:Hist) (la:Lim 4611686018427387904 h) (hc:u3 h=0) (p x:Int) (rc rl rk rg:Nat) (M:List ((Int×Int)×List Int)) (hM:zmb h M) (W:List Res):y8 Tryz.prog 305 [.agg (rwP h rc rl rk rg),iv p,iv x] (rgR rg M::rkS h rk::zau h rl::rcR h rc:: .glob 2 156 y2:: .glob 4 305 y3:: .glob 5 308 y1:: .glob 3 246 w9::W) (fun r h'=>∃M',zmb h M'∧h'=rgR rg M'::rkS h rk::zau h rl::rcR h rc:: .glob 2 156 y2:: .glob 4 305 y3:: .glob 5 308 y1:: .glob 3 246 w9::W∧r=zb5 (chL h p x)):=by
 refine z6 Tryz.func305 rfl rfl rfl ?_
 refine rn ?_;refine z7 rfl (w7 rfl rfl rfl fun b3=> ?_)
 refine q1 ?_;refine j6 (zan ?_)
 refine w8 (y7 ?_)
 refine q1 ?_;refine q1 ?_;refine qq rfl rfl (zcz (out:= [iv p,iv x]) rfl (by rfl)) ?_
 refine z7 rfl (y6 rfl fun b7=> ?_)
 first|refine z7 rfl (j8 rfl rfl rfl ?_)|refine z7 rfl (zap rfl rfl rfl rfl (Nat.le_of_ble_eq_true rfl) ?_)
 refine j6 (zan ?_)
 refine w8 ?_;refine w8 (y7 ?_)
 refine q1 ?_;refine q1 ?_;refine q1 ?_;refine qq rfl rfl (zfz (g:=zb5) (enc:=zav) (k:=(p,x)) ([]:List Int) rfl rfl rfl) ?_
 refine rn ?_;refine z8 rfl (fun hc21=> ?_) (fun hc21=> ?_)
 ·refine zgu 12 [11] [] (fun he=>∃M,he= .box b7 45 [iv p,iv x]:: .box b3 119 (rwP h rc rl rk rg)::rgR rg M::rkS h rk::zau h rl::rcR h rc:: .glob 2 156 y2:: .glob 4 305 y3:: .glob 5 308 y1:: .glob 3 246 w9::W) rfl rfl ⟨_,rfl⟩ ?_
  refine jq rfl (fun he hC=>by obtain ⟨M,rfl⟩:=hC <;> exact qrA) ?_
  refine jq rfl (fun he hC=>by obtain ⟨M,rfl⟩:=hC <;> exact qrA) ?_
  refine jq rfl (fun he hC=>by obtain ⟨M,rfl⟩:=hC <;> exact qrA) ?_
  refine jq rfl (fun he hC=>by obtain ⟨M,rfl⟩:=hC <;> exact qrA) ?_
  refine jq rfl (fun he hC=>by obtain ⟨M,rfl⟩:=hC <;> exact qrA) ?_
  refine jq rfl (fun he hC=>by obtain ⟨M,rfl⟩:=hC <;> exact qrA) ?_
  refine jq rfl (fun he hC=>by obtain ⟨M,rfl⟩:=hC <;> exact qrA) ?_
  refine jv rfl (fun he hC=>by obtain ⟨M,rfl⟩:=hC <;> exact (by exact y4 rfl rfl (y0.qt (y0.of_fun (ylb h la p x)) ((pt6 _ _ _ _ _ _ _ _).trans (.cons _ ((pt6 _ _ _ _ _ _ _ _).trans (.cons _ ((pt6 _ _ _ _ _ _ _ _).trans (.cons _ (pt6 _ _ _ _ _ _ _ _)))))))))) ?_
  refine jq rfl (fun he hC=>by obtain ⟨M,rfl⟩:=hC <;> exact qrA) ?_
  refine jq rfl (fun he hC=>by obtain ⟨M,rfl⟩:=hC <;> exact qrA) ?_
  refine jq rfl (fun he hC=>by obtain ⟨M,rfl⟩:=hC <;> exact qrA) ?_
  refine je rfl ?_;refine yaq ?_;refine jce rfl fun u=> ?_
  refine zar (g:=zb5) (enc:=zav) (k:=(p,x)) (v:=chL h p x) rfl rfl rfl ⟨.any,_,rfl,⟨_,rfl⟩,?_⟩
  refine jcn ?_;refine ln ?_;refine j6 (zan ?_)
  refine w8 (y7 ?_)
  refine q1 ?_;refine q1 ?_;refine q1 ?_;refine qq rfl rfl (zbt (g:=zb5) (enc:=zav) (k:=(p,x)) ([]:List Int) rfl rfl) ?_
  refine rn ?_;first|exact zal rfl (.drop [_,_] _ _) ⟨_,zug hM p x,rfl,congrArg zb5 (zuh p x)⟩|exact zal rfl (.drop [_,_] _ _) ⟨_,hM,rfl,congrArg zb5 (zui hM hc21)⟩
 ·refine za0 ?_;refine zan ?_;refine w8 (y7 ?_)
  refine q1 ?_;refine q1 ?_;refine q1 ?_;refine qq rfl rfl (zbt (g:=zb5) (enc:=zav) (k:=(p,x)) ([]:List Int) rfl rfl) ?_
  refine rn ?_;first|exact zal rfl (.drop [_,_] _ _) ⟨_,zug hM p x,rfl,congrArg zb5 (zuh p x)⟩|exact zal rfl (.drop [_,_] _ _) ⟨_,hM,rfl,congrArg zb5 (zui hM hc21)⟩
theorem zxf (h:Hist) (rc rl rk rg:Nat) (n:Int) (W:List Res):y8 Tryz.prog 302 [.agg (rwP h rc rl rk rg),iv n] W (fun r h'=>h'=W∧r=zhg []):=by
 refine z6 Tryz.func302 rfl rfl rfl ?_
 refine rn ?_;refine z7 rfl (w7 rfl rfl rfl fun b2=> ?_)
 refine rn ?_;exact zal rfl (.trans (.drop [_] _ _) (.le (Sb.nil false 2).le)) ⟨rfl,rfl⟩
theorem yjw (h:Hist) (la:Lim 4611686018427387904 h) (hc:u3 h=0) (a:Nat) (ha:a < h.evs.length) (h3:h.evs[a].kind=3) (rc rl rk rg:Nat) (M:List ((Int×Int)×List Int)) (W:List Res):y8 Tryz.prog 303 [.agg (rwP h rc rl rk rg),iv (a:Int)] (rgR rg M::rkS h rk::zau h rl::rcR h rc:: .glob 2 156 y2:: .glob 4 305 y3:: .glob 5 308 y1:: .glob 3 246 w9::W) (fun r h'=>h'=rgR rg M::rkS h rk::zau h rl::rcR h rc:: .glob 2 156 y2:: .glob 4 305 y3:: .glob 5 308 y1:: .glob 3 246 w9::W∧r=zhg (zdg h h.evs[a])):=by
 refine z6 Tryz.func303 rfl rfl rfl ?_
 have ra:=zcb (f:=evR) ha
 refine rn ?_;refine z7 rfl (w7 rfl rfl rfl fun b2=> ?_)
 refine q1 ?_;refine j6 (zan ?_)
 refine w8 (y7 ?_)
 refine q1 ?_;refine q1 ?_;refine q1 ?_;refine q1 ?_;refine qq rfl rfl (zao rfl rfl ra) ?_
 refine rn ?_;refine z7 rfl (y6 rfl fun b5=> ?_)
 first|refine z7 rfl (j8 rfl rfl rfl ?_)|refine z7 rfl (zap rfl rfl rfl rfl (Nat.le_of_ble_eq_true rfl) ?_)
 refine j6 (zan ?_)
 refine w8 (y7 ?_)
 refine q1 ?_;refine q1 ?_;refine q1 ?_;refine q1 ?_;refine q1 ?_;refine q1 ?_;refine qq rfl rfl (zac (out:= [iv h.evs[a].o,iv h.evs[a].v.t,iv h.evs[a].v.k]) rfl (by rfl)) ?_
 refine qq rfl rfl (zfz (g:=iv) (enc:=zej) (k:=(h.evs[a].o,h.evs[a].v.t,h.evs[a].v.k)) (0:Int) rfl rfl rfl) ?_
 refine rn ?_;refine z8 rfl (fun hc26=> ?_) (fun hc26=> ?_)
 ·have hn:(!(zim h h.evs[a].o h.evs[a].v).isSome)=true:=hc26
  refine rn ?_;exact zal rfl (.trans (.drop [_,_] _ _) (.le (Sb.nil false 2).le)) ⟨rfl,by rw [zvb hn];rfl⟩
 ·obtain ⟨r0,hr⟩:∃r,(za7 (h.evs[a].o,h.evs[a].v.t,h.evs[a].v.k) (rkM h h.os.length))=some r:=Option.isSome_iff_exists.1 (by simpa using hc26)
  have hr':zim h h.evs[a].o h.evs[a].v=some r0:=hr
  have hb:=yj1 hc (zpp (zdt (zaw.1 hc) _ (List.getElem_mem ha)) h3).1.1 (zpp (zdt (zaw.1 hc) _ (List.getElem_mem ha)) h3).1.2 hr'
  rw [hr,Option.getD_some]
  refine rn ?_;refine qv rfl rfl (q6 rfl rfl) ?_
  refine qq rfl rfl (zac (out:= [iv h.evs[a].o,.list true 1 [[iv (r0+1)]]]) rfl (by rfl)) ?_
  refine qv rfl rfl (q6 rfl rfl) ?_
  refine rn ?_;exact zal rfl (.trans (.drop [_,_] _ _) (.le (Sb.lists (rows:= [[iv h.evs[a].o,.list true 1 [[iv (r0+1)]]]]) (rows':= [[iv h.evs[a].o,.list false 1 [[iv (r0+1)]]]]) (by simp) ⟨⟨.refl _,.unfull,trivial⟩,trivial⟩).le)) ⟨rfl,by rw [zva hr'];rfl⟩
theorem yf5 (k r0:Int) (b:Nat) (W:List Res):y8 Tryz.prog 306 [iv k,pZ b] (.box b 3 [iv r0]::W) (fun r h'=>h'= .box b 3 [iv r0]::W∧r=bv (decide (k > r0))):=by
 refine z6 Tryz.func306 rfl rfl rfl ?_
 refine rn ?_;refine rq 0 ?_
 exact ⟨rfl,rfl⟩
theorem yjv (h:Hist) (la:Lim 4611686018427387904 h) (hc:u3 h=0) (a:Nat) (ha:a < h.evs.length) (h4:h.evs[a].kind=4) (rc rl rk rg:Nat) (M:List ((Int×Int)×List Int)) (hM:zmb h M) (W:List Res):y8 Tryz.prog 304 [.agg (rwP h rc rl rk rg),iv (a:Int)] (rgR rg M::rkS h rk::zau h rl::rcR h rc:: .glob 2 156 y2:: .glob 4 305 y3:: .glob 5 308 y1:: .glob 3 246 w9::W) (fun r h'=>∃M',zmb h M'∧h'=rgR rg M'::rkS h rk::zau h rl::rcR h rc:: .glob 2 156 y2:: .glob 4 305 y3:: .glob 5 308 y1:: .glob 3 246 w9::W∧r=zhg (zgm h h.evs[a] a)):=by
 refine z6 Tryz.func304 rfl rfl rfl ?_
 have ra:=zcb (f:=evR) ha
 have hse:=yo4 ha hc h4
 have lA:=zgg hc
 have lO:=lA.os
 have lS:(zcc h h.evs[a] a).length=h.os.length:=zrn h h.evs[a] a
 refine rn ?_;refine z7 rfl (w7 rfl rfl rfl fun b2=> ?_)
 refine rn ?_;refine qv rfl rfl (y4 rfl rfl (y0.qt (y0.of_fun (yk9 h la (a:Int))) ((pt5 _ _ _ _ _ _ _).trans (.cons _ ((pt5 _ _ _ _ _ _ _).trans (.cons _ ((pt5 _ _ _ _ _ _ _).trans (.cons _ (pt5 _ _ _ _ _ _ _))))))))) ?_
 rw [hse.1,hse.2]
 refine rn ?_;refine zgi (zcc h h.evs[a] a).length (fun j (z:SV×List ((Int×Int)×List Int))=>zmb h z.2) (fun j z=>⟨[(23,iv j),(5,.v z.1.v),(1,iv (a:Int)),(2,pZ b2),(21,zk1 (zcc h h.evs[a] a)),(22,iv ((zcc h h.evs[a] a).map za2).length)],.row z.1.v 2 177 ((((zcc h h.evs[a] a).take j).filterMap (zcw h h.evs[a])).map znx):: .box b2 119 (rwP h rc rl rk rg)::rgR rg z.2::rkS h rk::zau h rl::rcR h rc:: .glob 2 156 y2:: .glob 4 305 y3:: .glob 5 308 y1:: .glob 3 246 w9::W,[]⟩) (⟨none,0,0⟩,M) hM (v8 (zbk 2 177) es) ?_
 intro j z lj hz
 refine rn ?_;refine z8 rfl (fun hc24=> ?_) (fun hc24=> ?_)
 ·have hj:=zd2 hc24
  have rj:=zcb (f:=za2) hj
  have bl:=yl4 (zcw h h.evs[a]) (zcc h h.evs[a] a) j
  have bc:=ye6 hc h.evs[a].p (zcc h h.evs[a] a)[j].o
  refine rn ?_;refine z7 rfl (y6 rfl fun b9=> ?_)
  first|refine z7 rfl (j8 rfl rfl rfl ?_)|refine z7 rfl (zap rfl rfl rfl rfl (Nat.le_of_ble_eq_true rfl) ?_)
  refine j6 (zan ?_)
  refine w8 (y7 ?_)
  refine q1 ?_;refine q1 ?_;refine q1 ?_;refine q1 ?_;refine q1 ?_;refine q1 ?_;refine qq rfl rfl (zac (out:= [iv (zcc h h.evs[a] a)[j].o,iv (zcc h h.evs[a] a)[j].v.t,iv (zcc h h.evs[a] a)[j].v.k]) rfl (by rfl)) ?_
  refine qq rfl rfl (zfz (g:=iv) (enc:=zej) (k:=((zcc h h.evs[a] a)[j].o,(zcc h h.evs[a] a)[j].v.t,(zcc h h.evs[a] a)[j].v.k)) (0:Int) rfl rfl rfl) ?_
  refine rn ?_;refine z7 rfl (y6 rfl fun b10=> ?_)
  refine rn ?_;refine zaf 10 rfl ?_
  refine dq rfl rfl qrA ?_;refine dq rfl rfl qrA ?_;refine dq rfl rfl qrA ?_;refine dq rfl rfl qrA ?_;refine dq rfl rfl qrA ?_;refine dq rfl rfl (zao rfl rfl ra) ?_
  refine rn ?_;refine z7 rfl (v6 rfl rfl (y0.fr4 (y0.of_fun (yno h la hc h.evs[a].p (zcc h h.evs[a] a)[j].o rc rl rk rg z.2 hz W))) rfl ?_)
  rintro _ _ ⟨_,rfl,M2,hM2,rfl,rfl⟩
  refine rn ?_;refine qv rfl rfl (y4 rfl rfl (y0.of_fun (zf7 (chL h h.evs[a].p (zcc h h.evs[a] a)[j].o) _ (fun k=>decide (k > ((za7 ((zcc h h.evs[a] a)[j].o,(zcc h h.evs[a] a)[j].v.t,(zcc h h.evs[a] a)[j].v.k) (rkM h h.os.length)).getD 0))) (.box b10 3 [iv ((za7 ((zcc h h.evs[a] a)[j].o,(zcc h h.evs[a] a)[j].v.t,(zcc h h.evs[a] a)[j].v.k) (rkM h h.os.length)).getD 0)]:: .box b9 70 (za2 (zcc h h.evs[a] a)[j]):: .row z.1.v 2 177 ((((zcc h h.evs[a] a).take j).filterMap (zcw h h.evs[a])).map znx):: .box b2 119 (rwP h rc rl rk rg)::rgR rg M2::rkS h rk::zau h rl::rcR h rc:: .glob 2 156 y2:: .glob 4 305 y3:: .glob 5 308 y1:: .glob 3 246 w9::W) (fun k _=>y0.of_acall (fs:= []) (cs:= [pZ b10]) (yf5 k ((za7 ((zcc h h.evs[a] a)[j].o,(zcc h h.evs[a] a)[j].v.t,(zcc h h.evs[a] a)[j].v.k) (rkM h h.os.length)).getD 0) b10 _)) (by omega)))) ?_
  refine rn ?_;refine u4 (fun hg9_1=> ?_) (fun hg9_1=> ?_)
  ·refine rn ?_;refine z8 rfl (fun hc56=> ?_) (fun hc56=> ?_)
   ·have q9:decide ((za9 (fun k=>decide (k > ((za7 ((zcc h h.evs[a] a)[j].o,(zcc h h.evs[a] a)[j].v.t,(zcc h h.evs[a] a)[j].v.k) (rkM h h.os.length)).getD 0))) 0 (chL h h.evs[a].p (zcc h h.evs[a] a)[j].o)) ≥ 0)=true:=by first|exact hc56|(have q:=hc56;rw [hg9_1] at q;simpa using q)
    have q8:=oT q9
    obtain ⟨n,hn⟩:∃n:Nat,(za9 (fun k=>decide (k > ((za7 ((zcc h h.evs[a] a)[j].o,(zcc h h.evs[a] a)[j].v.t,(zcc h h.evs[a] a)[j].v.k) (rkM h h.os.length)).getD 0))) 0 (chL h h.evs[a].p (zcc h h.evs[a] a)[j].o))=n:=⟨(za9 (fun k=>decide (k > ((za7 ((zcc h h.evs[a] a)[j].o,(zcc h h.evs[a] a)[j].v.t,(zcc h h.evs[a] a)[j].v.k) (rkM h h.os.length)).getD 0))) 0 (chL h h.evs[a].p (zcc h h.evs[a] a)[j].o)).toNat,by omega⟩
    obtain ⟨r0,hr⟩:∃r,zim h (zcc h h.evs[a] a)[j].o (zcc h h.evs[a] a)[j].v=some r:=Option.isSome_iff_exists.1 hg9_1
    obtain ⟨hsr,hov⟩:=ypm (e:=h.evs[a]) (n:=n) hr (by rw [←hn];show _=za9 (fun k=>decide (k > (zim h (zcc h h.evs[a] a)[j].o (zcc h h.evs[a] a)[j].v).getD 0)) 0 _;rw [hr];rfl)
    rw [hn]
    have hnl:n≤(chL h h.evs[a].p (zcc h h.evs[a] a)[j].o).length:=by have:=(zoo (fun k=>decide (k > ((za7 ((zcc h h.evs[a] a)[j].o,(zcc h h.evs[a] a)[j].v.t,(zcc h h.evs[a] a)[j].v.k) (rkM h h.os.length)).getD 0))) (chL h h.evs[a].p (zcc h h.evs[a] a)[j].o) 0).2;omega
    refine zaf 8 rfl ?_
    refine dq rfl rfl qrA ?_;refine dq rfl rfl qrA ?_;refine dq rfl rfl qrA ?_;refine dq rfl rfl qrA ?_;refine dq rfl rfl qrA ?_;refine dq rfl rfl (zgy (zgo (l:=n) rfl rfl (by rw [oM];exact hnl)) (show AV.list false 1 _=zb5 (rwOver h h.evs[a].p (zcc h h.evs[a] a)[j].o r0) by rw [←List.map_drop,←hov];rfl)) ?_
    refine dq rfl rfl (zac (out:=znx ((zcc h h.evs[a] a)[j].o,rwOver h h.evs[a].p (zcc h h.evs[a] a)[j].o r0)) rfl (by rfl)) ?_
    refine dv rfl rfl (q6 rfl rfl) ?_
    refine rn ?_;refine z7 rfl (j4 rfl rfl (by simp only [oM,List.length_cons,List.length_nil];omega) rfl (fun s65=> ?_) (ykx [((zcc h h.evs[a] a)[j].o,rwOver h h.evs[a].p (zcc h h.evs[a] a)[j].o r0)]))
    refine j9 s65 fun sv hsv=> ?_
    subst hsv
    refine rn ?_;first|exact ⟨hj,(sv,M2),hM2,by rw [yna hj hsr,List.map_append];exact eA⟩|exact ⟨hj,(z.1,M2),hM2,by rw [ynb hj hsr];exact eA⟩
   ·have hsr:zcw h h.evs[a] (zcc h h.evs[a] a)[j]=none:=yo5 (by first|exact .inr hc56|exact .inl hg9_1)
    refine rn ?_;first|exact ⟨hj,(sv,M2),hM2,by rw [yna hj hsr,List.map_append];exact eA⟩|exact ⟨hj,(z.1,M2),hM2,by rw [ynb hj hsr];exact eA⟩
  ·refine rn ?_;refine zq5 rfl ?_;have hsr:zcw h h.evs[a] (zcc h h.evs[a] a)[j]=none:=yo5 (by first|exact .inr hc56|exact .inl hg9_1)
   refine rn ?_;first|exact ⟨hj,(sv,M2),hM2,by rw [yna hj hsr,List.map_append];exact eA⟩|exact ⟨hj,(z.1,M2),hM2,by rw [ynb hj hsr];exact eA⟩
 ·have qj:=zd4 hc24 lj
  refine rn ?_;exact zal rfl (.trans zkt (.drop [_] _ _)) ⟨_,hz,rfl,by rw [qj,List.take_length];rfl⟩
def k8:List AV:= [.any,.fn (.func 302) [] [],.fn (.func 302) [] [],.fn (.func 303) [] [],.fn (.func 304) [] [],.fn (.func 302) [] [],.fn (.func 302) [] []]
def ybg (k:Nat):AV:=k8.getD k .any
theorem ybf {k:Nat} (h2:k≤6):k8[k]? =some (ybg k):=by
 have:k < k8.length:=by show k < 7;omega
 rw [ybg,List.getD_eq_getElem?_getD,List.getElem?_eq_getElem this];rfl
def zib (h:Hist) (x r:Int):Int:=((za4 h x)[(r - 1).toNat]?).getD 0
def zvv (h:Hist) (e:Ev) (a:Nat) (x r:Int):Conf:=if r > ((za4 h x).length:Int) then ⟨0,0,0,0,0,0,0⟩ else ⟨e.t,zib h x r,zsf e.kind,a,zg8 h (zib h x r) x,x,e.p⟩
def zod (h:Hist) (e:Ev) (x r:Int):Bool:=if r > ((za4 h x).length:Int) then false else zib h x r !=e.t
theorem yet {h:Hist} {e:Ev} {a:Nat} {x r:Int} (hb:zod h e x r=true):zdn h e (zex e) a x r=some (zvv h e a x r):=by
 rw [zod] at hb
 split at hb
 ·cases hb
 ·rename_i hr
  have hn:¬(((za4 h x)[(r - 1).toNat]?).getD 0==e.t)=true:=by rw [show ((za4 h x)[(r - 1).toNat]?).getD 0=zib h x r from rfl];simpa using hb
  rw [zdn,if_neg hr,if_neg hn,zvv,if_neg hr];rfl
theorem ylr {h:Hist} {e:Ev} {a:Nat} {x r:Int} (hb:zod h e x r=false):zdn h e (zex e) a x r=none:=by
 rw [zod] at hb
 rw [zdn]
 split at hb
 ·rename_i hr;rw [if_pos hr]
 ·rename_i hr
  rw [if_neg hr,if_pos (by rw [show ((za4 h x)[(r - 1).toNat]?).getD 0=zib h x r from rfl];simpa using hb)]
theorem seen_ok {h:Hist} (hc:u3 h=0) {e:Ev} (he:e∈h.evs) (a:Nat):(v7 h e a).length≤4000∧∀p∈v7 h e a,(0≤p.1∧p.1 < h.os.length)∧p.2.length≤4000∧∀r∈p.2,1≤r∧r≤5000:=by
 have hs:=zaw.1 hc
 have lA:=zgg hc
 have lO:=lA.os
 rw [v7]
 split
 ·rename_i h3
  obtain ⟨⟨o0,o1⟩,_⟩:=zpp (zdt hs _ he) h3
  rw [zdg]
  cases hr:zim h e.o e.v with
  |none=>exact ⟨Nat.zero_le _,fun p hp=>by cases hp⟩
  |some r=>
   have:=yj1 hc o0 o1 hr
   refine ⟨by show 1≤4000;decide,fun p hp=> ?_⟩
   rw [List.mem_singleton] at hp
   subst hp
   refine ⟨⟨o0,o1⟩,by show 1≤4000;decide,fun q hq=> ?_⟩
   rw [List.mem_singleton] at hq
   subst hq
   omega
 ·split
  ·rename_i h4
   refine ⟨?_,fun p hp=> ?_⟩
   ·refine Nat.le_trans (List.length_filterMap_le _ _) ?_
    rw [zrn];omega
   ·rw [zgm,List.mem_filterMap] at hp
    obtain ⟨s,hsm,hp⟩:=hp
    obtain ⟨⟨o0,o1⟩,_⟩:=zw5 hsm
    unfold zcw at hp
    split at hp
    ·cases hp
    ·split at hp
     ·injection hp with hp
      subst hp
      have hcl:=ye6 hc e.p s.o
      refine ⟨⟨o0,o1⟩,Nat.le_trans (List.dropWhile_sublist _).length_le hcl,fun r hr=> ?_⟩
      have hr':r∈chL h e.p s.o:=(List.dropWhile_sublist _).subset hr
      rw [chL] at hr'
      split at hr'
      ·rename_i ht
       rw [yjb,zkn] at hr'
       obtain ⟨j,rfl,j0,j1,_⟩:=hr'
       rw [zkw] at j1
       have:=zt1 hc o0 o1
       omega
      ·cases hr'
     ·cases hp
  ·exact ⟨Nat.zero_le _,fun p hp=>by cases hp⟩
def rwF (h:Hist) (e:Ev) (a:Nat) (p:Int×List Int):List Conf:=p.2.filterMap (zdn h e (zex e) a p.1)
theorem zsm {h:Hist} {e:Ev} (a:Nat) (hm:zhs h.evs e.t 5=true):zbh h e a=(v7 h e a).flatMap (rwF h e a):=by rw [zbh,if_pos hm];rfl
theorem zy8 {h:Hist} {e:Ev} (a:Nat) (hm:zhs h.evs e.t 5=false):zbh h e a= []:=by rw [zbh,if_neg (by rw [hm];decide)]
theorem ypu {h:Hist} {e:Ev} {a:Nat} {L:List (Int×List Int)} {i:Nat} (hi:i < L.length):(L.take (i+1)).flatMap (rwF h e a)=(L.take i).flatMap (rwF h e a)++rwF h e a L[i]:=by
 rw [List.take_succ_eq_append_getElem hi,List.flatMap_append];simp
theorem yei {h:Hist} {e:Ev} {a:Nat} {L:List (Int×List Int)} {i j:Nat} (hi:i < L.length) (qj:j=L[i].2.length):(L.take i).flatMap (rwF h e a)++(L[i].2.take j).filterMap (zdn h e (zex e) a L[i].1)=(L.take (i+1)).flatMap (rwF h e a):=by
 rw [ypu hi,qj,List.take_length];rfl
theorem yj3 {h:Hist} {e:Ev} {a:Nat} {i j:Nat} {d:Conf} (hm:zhs h.evs e.t 5=true) (hi:i < (v7 h e a).length) (hj:j < (v7 h e a)[i].2.length) (hd:zdn h e (zex e) a (v7 h e a)[i].1 (v7 h e a)[i].2[j]=some d):
 ∃rest,zbh h e a=(((v7 h e a).take i).flatMap (rwF h e a)++((v7 h e a)[i].2.take j).filterMap (zdn h e (zex e) a (v7 h e a)[i].1))++d::rest:=by
 have e1:rwF h e a (v7 h e a)[i]=((v7 h e a)[i].2.take j).filterMap (zdn h e (zex e) a (v7 h e a)[i].1)++d::((v7 h e a)[i].2.drop (j+1)).filterMap (zdn h e (zex e) a (v7 h e a)[i].1):=by
  conv=>lhs;rw [rwF,←List.take_append_drop j (v7 h e a)[i].2,List.drop_eq_getElem_cons hj]
  rw [List.filterMap_append,List.filterMap_cons,hd]
 refine ⟨((v7 h e a)[i].2.drop (j+1)).filterMap (zdn h e (zex e) a (v7 h e a)[i].1)++((v7 h e a).drop (i+1)).flatMap (rwF h e a),?_⟩
 rw [zsm a hm]
 conv=>lhs;rw [←List.take_append_drop i (v7 h e a),List.drop_eq_getElem_cons hi]
 rw [List.flatMap_append,List.flatMap_cons,e1]
 simp [List.append_assoc]
theorem ym6 {h:Hist} {e:Ev} {a:Nat} {B:List Conf} {x:Int} {l:List Int} {j:Nat} (hj:j < l.length) (hb:zod h e x l[j]=true):B++(l.take (j+1)).filterMap (zdn h e (zex e) a x)=B++(l.take j).filterMap (zdn h e (zex e) a x)++ [zvv h e a x l[j]]:=by
 rw [yna hj (yet hb),List.append_assoc]
theorem ym7 {h:Hist} {e:Ev} {a:Nat} {B:List Conf} {x:Int} {l:List Int} {j:Nat} (hj:j < l.length) (hb:zod h e x l[j]=false):B++(l.take (j+1)).filterMap (zdn h e (zex e) a x)=B++(l.take j).filterMap (zdn h e (zex e) a x):=by
 rw [ynb hj (ylr hb)]
theorem yli {h:Hist} (hc:u3 h=0) {e:Ev} (he:e∈h.evs):∃kn:Nat,1≤kn∧kn≤6∧e.kind=(kn:Int):=by
 obtain ⟨k1,k2,_⟩:=zb3 (zdt (zaw.1 hc) _ he)
 exact ⟨e.kind.toNat,by omega,by omega,by omega⟩
theorem yju (h:Hist) (la:Lim 4611686018427387904 h) (hc:u3 h=0) (a:Nat) (ha:a < h.evs.length) (rc rl rk rg:Nat) (M:List ((Int×Int)×List Int)) (hM:zmb h M) (W:List Res) {kn:Nat} (h1:1≤kn) (h6:kn≤6) (hk:h.evs[a].kind=(kn:Int)):y0 Tryz.prog (ybg kn) [.agg (rwP h rc rl rk rg),iv (a:Int)] (rgR rg M::rkS h rk::zau h rl::rcR h rc:: .glob 2 156 y2:: .glob 4 305 y3:: .glob 5 308 y1:: .glob 3 246 w9::W) (fun r h'=>∃M',zmb h M'∧h'=rgR rg M'::rkS h rk::zau h rl::rcR h rc:: .glob 2 156 y2:: .glob 4 305 y3:: .glob 5 308 y1:: .glob 3 246 w9::W∧r=zhg (v7 h h.evs[a] a)):=by
 have no:h.evs[a].kind≠3→h.evs[a].kind≠4→y0 Tryz.prog (.fn (.func 302) [] []) [.agg (rwP h rc rl rk rg),iv (a:Int)] (rgR rg M::rkS h rk::zau h rl::rcR h rc:: .glob 2 156 y2:: .glob 4 305 y3:: .glob 5 308 y1:: .glob 3 246 w9::W) (fun r h'=>∃M',zmb h M'∧h'=rgR rg M'::rkS h rk::zau h rl::rcR h rc:: .glob 2 156 y2:: .glob 4 305 y3:: .glob 5 308 y1:: .glob 3 246 w9::W∧r=zhg (v7 h h.evs[a] a)):=fun n3 n4=>
  y0.of_fun ((zxf h rc rl rk rg (a:Int) (rgR rg M::rkS h rk::zau h rl::rcR h rc:: .glob 2 156 y2:: .glob 4 305 y3:: .glob 5 308 y1:: .glob 3 246 w9::W)).mono fun _ _ q=>⟨M,hM,q.1,by rw [q.2,v7,if_neg n3,if_neg n4]⟩)
 match kn,h1,h6 with
 |1,_,_=>exact no (by omega) (by omega)
 |2,_,_=>exact no (by omega) (by omega)
 |3,_,_=>exact y0.of_fun ((yjw h la hc a ha hk rc rl rk rg M W).mono fun _ _ q=>⟨M,hM,q.1,by rw [q.2,v7,if_pos (show h.evs[a].kind=3 from hk)]⟩)
 |4,_,_=>exact y0.of_fun ((yjv h la hc a ha hk rc rl rk rg M hM W).mono fun _ _ ⟨M',q1,q2,q3⟩=>⟨M',q1,q2,by rw [q3,v7,if_neg (by omega),if_pos (show h.evs[a].kind=4 from hk)]⟩)
 |5,_,_=>exact no (by omega) (by omega)
 |6,_,_=>exact no (by omega) (by omega)
 |n+7,_,h6=>omega
theorem yjx (h:Hist) (x r:Int) (h0:0≤x) (h1:x < h.os.length) (r1:1≤r) (r2:r≤5000) (e:Ev) (a:Nat) (bp be ba:Nat) (rc rl rk rg:Nat) (M:List ((Int×Int)×List Int)) (rO:Nat) (oK:Obj) (hK:KO oK) (W:List Res):y8 Tryz.prog 135 [iv x,iv r,pZ bp,pZ be,pZ ba] (.box be 60 (evR e):: .box ba 3 [iv (a:Int)]:: .box bp 119 (rwP h rc rl rk rg)::rgR rg M::rkS h rk::zau h rl::rcR h rc:: .glob 2 156 y2:: .glob 4 305 y3:: .glob 5 308 y1:: .glob 3 246 w9:: .glob 1 175 k8:: .glob 0 171 [mpv rO]:: .obj rO oK::W) (fun r_ h'=>h'= .box be 60 (evR e):: .box ba 3 [iv (a:Int)]:: .box bp 119 (rwP h rc rl rk rg)::rgR rg M::rkS h rk::zau h rl::rcR h rc:: .glob 2 156 y2:: .glob 4 305 y3:: .glob 5 308 y1:: .glob 3 246 w9:: .glob 1 175 k8:: .glob 0 171 [mpv rO]:: .obj rO oK::W∧r_= .tup [.agg (j5 (zvv h e a x r)),bv (zod h e x r)]):=by
 refine z6 Tryz.func135 rfl rfl rfl ?_
 refine rn ?_;refine z7 rfl (y6 rfl fun b7=> ?_)
 refine q1 ?_;refine j6 (zan ?_)
 refine w8 ?_;refine w8 (y7 ?_)
 refine q1 ?_;refine q1 ?_;refine q1 ?_;refine q1 ?_;refine qq rfl rfl (zbb rfl rfl h0 (ztz h h0 h1)) ?_
 refine rn ?_;refine z8 rfl (fun hc17=> ?_) (fun hc17=> ?_)
 ·have hr:r > ((za4 h x).length:Int):=by have q:=oT hc17;rw [oM] at q;exact q
  refine rn ?_;exact zd0 (.cons _ _ _ _ (.agg _ _ _ _ _ _ _ rfl inferInstance inferInstance inferInstance rfl) (.cons _ _ _ _ (.tmp _ _ rfl) .nil)) (.drop [_] _ _) ⟨rfl,by rw [zvv,zod,if_pos hr,if_pos hr];rfl⟩
 ·have hr:¬r > ((za4 h x).length:Int):=by have q:=oF hc17;rw [oM] at q;exact q
  have hk:(r - 1).toNat < (za4 h x).length:=by omega
  have rr:((za4 h x).map zbo)[(r - 1).toNat]? =some (zbo (zib h x r)):=by rw [zib,List.getElem?_map,List.getElem?_eq_getElem hk];rfl
  refine za0 ?_;refine zan ?_;refine w8 (y7 ?_)
  refine q1 ?_;refine q1 ?_;refine q1 ?_;refine qq rfl rfl (zbb rfl rfl h0 (ztz h h0 h1)) ?_
  refine q1 ?_;refine q1 ?_;refine qq rfl rfl (zc5 rfl rfl rfl (by omega)) ?_
  refine qq rfl rfl (zbb rfl rfl (by omega) rr) ?_
  refine rn ?_;refine zeu 23 [(b7,41,_)] rfl (List.perm_append_comm (l₁:= [_])) ?_
  refine dq rfl rfl qrA ?_;refine dq rfl rfl qrA ?_;refine dq rfl rfl qrA ?_;refine dq rfl rfl qrA ?_;refine dq rfl rfl qrA ?_;refine dq rfl rfl qrA ?_;refine dq rfl rfl (yb2 (k:=e.kind) hK rfl rfl) ?_
  refine dq rfl rfl qrA ?_;refine dq rfl rfl qrA ?_;refine dq rfl rfl qrA ?_;refine dq rfl rfl qrA ?_;refine dq rfl rfl qrA ?_;refine dq rfl rfl (zcz (out:= [iv (zib h x r),iv x]) rfl (by rfl)) ?_
  refine dq rfl rfl (zgy (zbt (enc:=zav) (k:=(zib h x r,x)) 0 rfl rfl) (show iv _=iv (zg8 h (zib h x r) x) from congrArg iv (zs4 _ _ _))) ?_
  refine dq rfl rfl qrA ?_;refine dq rfl rfl qrA ?_;refine dq rfl rfl qrA ?_;refine dq rfl rfl (zac (out:=j5 ⟨e.t,zib h x r,zsf e.kind,a,zg8 h (zib h x r) x,x,e.p⟩) rfl (by rfl)) ?_
  refine rn ?_;refine dw 0 rfl rfl rfl rfl rfl (Nat.le_of_ble_eq_true rfl) ?_
  refine rn2 ?_;show zb7 _ _ _ _ _ _ ⟨_,.box b7 41 (j5 ⟨e.t,zib h x r,zsf e.kind,a,zg8 h (zib h x r) x,x,e.p⟩):: .box be 60 (evR e):: .box ba 3 [iv (a:Int)]:: .box bp 119 (rwP h rc rl rk rg)::rgR rg M::rkS h rk::zau h rl::rcR h rc:: .glob 2 156 y2:: .glob 4 305 y3:: .glob 5 308 y1:: .glob 3 246 w9:: .glob 1 175 k8:: .glob 0 171 [mpv rO]:: .obj rO oK::W,_⟩
  refine rn ?_;exact zd0 (.cons _ _ _ _ (.agg _ _ _ _ _ _ _ rfl inferInstance inferInstance inferInstance rfl) (.cons _ _ _ _ (.tmp _ _ rfl) .nil)) (.drop [_] _ _) ⟨rfl,by rw [zvv,zod,if_neg hr,if_neg hr];rfl⟩
theorem zti (h:Hist) (a:Nat) (rc rl rk rg:Nat) (W:List Res):y8 Tryz.prog 88 [.agg (rwP h rc rl rk rg),iv (a:Int)] W (fun r h'=>∃ba bp,h'= .box ba 3 [iv (a:Int)]:: .box bp 119 (rwP h rc rl rk rg)::W∧r= .fn (.func 134) [] [pZ bp,pZ ba]):=by
 refine z6 Tryz.func88 rfl rfl rfl ?_
 refine rn ?_;refine z7 rfl (w7 rfl rfl rfl fun b2=> ?_)
 refine z7 rfl (w7 rfl rfl rfl fun b3=> ?_)
 refine rn ?_;exact zal rfl (.refl _ _) ⟨_,_,rfl,rfl⟩
theorem zth {σ:Type} (h:Hist) (la:Lim 4611686018427387904 h) (hc:u3 h=0) (a:Nat) (ha:a < h.evs.length) (y:AV) (bp ba:Nat) (rc rl rk rg:Nat) (M0:List ((Int×Int)×List Int)) (hM0:zmb h M0) (rO:Nat) (oK:Obj) (hK:KO oK) (p:List Conf→σ→Prop) (q:σ→Prop) (I:List Conf→σ→List Res) (X:σ→List Res) (x0:σ) (hp0:p [] x0) (hy:∀pre d rest x M,zbh h h.evs[a] a=pre++d::rest→p pre x→zmb h M→y0 Tryz.prog y [.agg (j5 d)] (.box ba 3 [iv (a:Int)]:: .box bp 119 (rwP h rc rl rk rg)::rgR rg M::rkS h rk::zau h rl::rcR h rc:: .glob 2 156 y2:: .glob 4 305 y3:: .glob 5 308 y1:: .glob 3 246 w9:: .glob 1 175 k8:: .glob 0 171 [mpv rO]:: .obj rO oK::I pre x) (fun r h'=>∃x',(r=bv true∧p (pre++ [d]) x'∧h'= .box ba 3 [iv (a:Int)]:: .box bp 119 (rwP h rc rl rk rg)::rgR rg M::rkS h rk::zau h rl::rcR h rc:: .glob 2 156 y2:: .glob 4 305 y3:: .glob 5 308 y1:: .glob 3 246 w9:: .glob 1 175 k8:: .glob 0 171 [mpv rO]:: .obj rO oK::I (pre++ [d]) x')∨(r=bv false∧q x'∧h'= .box ba 3 [iv (a:Int)]:: .box bp 119 (rwP h rc rl rk rg)::rgR rg M::rkS h rk::zau h rl::rcR h rc:: .glob 2 156 y2:: .glob 4 305 y3:: .glob 5 308 y1:: .glob 3 246 w9:: .glob 1 175 k8:: .glob 0 171 [mpv rO]:: .obj rO oK::X x'))):y8 Tryz.prog 134 [y,pZ bp,pZ ba] (.box ba 3 [iv (a:Int)]:: .box bp 119 (rwP h rc rl rk rg)::rgR rg M0::rkS h rk::zau h rl::rcR h rc:: .glob 2 156 y2:: .glob 4 305 y3:: .glob 5 308 y1:: .glob 3 246 w9:: .glob 1 175 k8:: .glob 0 171 [mpv rO]:: .obj rO oK::I [] x0) (fun r h'=>∃x M,zmb h M∧((p (zbh h h.evs[a] a) x∧h'= .box ba 3 [iv (a:Int)]:: .box bp 119 (rwP h rc rl rk rg)::rgR rg M::rkS h rk::zau h rl::rcR h rc:: .glob 2 156 y2:: .glob 4 305 y3:: .glob 5 308 y1:: .glob 3 246 w9:: .glob 1 175 k8:: .glob 0 171 [mpv rO]:: .obj rO oK::I (zbh h h.evs[a] a) x)∨(q x∧h'= .box ba 3 [iv (a:Int)]:: .box bp 119 (rwP h rc rl rk rg)::rgR rg M::rkS h rk::zau h rl::rcR h rc:: .glob 2 156 y2:: .glob 4 305 y3:: .glob 5 308 y1:: .glob 3 246 w9:: .glob 1 175 k8:: .glob 0 171 [mpv rO]:: .obj rO oK::X x))):=by
 refine z6 Tryz.func134 rfl rfl rfl ?_
 have ra:=zcb (f:=evR) ha
 have hok:=seen_ok hc (List.getElem_mem ha) a
 have hol:=hok.1
 obtain ⟨kn,k1,k6,hkn⟩:=yli hc (List.getElem_mem ha)
 refine w8 (y7 ?_)
 refine q1 ?_;refine q1 ?_;refine q1 ?_;refine q1 ?_;refine qq rfl rfl (zao rfl rfl ra) ?_
 refine rn ?_;refine z7 rfl (y6 rfl fun b4=> ?_)
 first|refine z7 rfl (j8 rfl rfl rfl ?_)|refine z7 rfl (zap rfl rfl rfl rfl (Nat.le_of_ble_eq_true rfl) ?_)
 refine j6 (zan ?_)
 refine w8 ?_;refine w8 (y7 ?_)
 refine q1 ?_;refine q1 ?_;refine q1 ?_;refine q1 ?_;refine qq rfl rfl (zbt (enc:=intK) (k:=h.evs[a].t) false rfl rfl) ?_
 refine rn ?_;refine z8 rfl (fun hc23=> ?_) (fun hc23=> ?_)
 ·have hm:zhs h.evs h.evs[a].t 5=false:=by rw [←zgb];simpa using hc23
  refine rn ?_;exact zd0 .nil (.drop [_] _ _) ⟨x0,M0,hM0,.inl ⟨by rw [zy8 a hm];exact hp0,by rw [zy8 a hm]⟩⟩
 ·have hm:zhs h.evs h.evs[a].t 5=true:=by rw [←zgb];simpa using hc23
  refine za0 ?_;refine rn0 ?_;refine w8 (y7 ?_)
  refine rn0 ?_;refine w8 ?_;refine zgu 9 [6] [7] (fun he=>∃M,he= .box b4 60 (evR h.evs[a]):: .box ba 3 [iv (a:Int)]:: .box bp 119 (rwP h rc rl rk rg)::rgR rg M::rkS h rk::zau h rl::rcR h rc:: .glob 2 156 y2:: .glob 4 305 y3:: .glob 5 308 y1:: .glob 3 246 w9:: .glob 1 175 k8:: .glob 0 171 [mpv rO]:: .obj rO oK::I [] x0) rfl rfl ⟨_,rfl⟩ ?_
  refine jq rfl (fun he hC=>by obtain ⟨M,rfl⟩:=hC <;> exact qrA) ?_
  refine jq rfl (fun he hC=>by obtain ⟨M,rfl⟩:=hC <;> exact (by exact zgy (zae rfl rfl) (show iv _=iv (kn:Nat) from congrArg iv hkn))) ?_
  refine jq rfl (fun he hC=>by obtain ⟨M,rfl⟩:=hC <;> exact (by exact zai rfl rfl (by show kn < 7;omega))) ?_
  refine jq rfl (fun he hC=>by obtain ⟨M,rfl⟩:=hC <;> exact (by exact zae rfl (show k8[0+kn * 1]? =some (ybg kn) by rw [Nat.zero_add,Nat.mul_one];exact ybf k6))) ?_
  refine jq rfl (fun he hC=>by obtain ⟨M,rfl⟩:=hC <;> exact qrA) ?_
  refine jq rfl (fun he hC=>by obtain ⟨M,rfl⟩:=hC <;> exact qrA) ?_
  refine je rfl ?_;refine je rfl ?_;refine jq rfl (fun he hC=>by obtain ⟨M,rfl⟩:=hC <;> exact qrA) ?_
  refine yaq ?_;refine jce rfl fun u=> ?_
  refine v6 rfl rfl (y0.fr3 (yju h la hc a ha rc rl rk rg M0 hM0 (.glob 1 175 k8:: .glob 0 171 [mpv rO]:: .obj rO oK::I [] x0) k1 k6 hkn)) rfl ?_
  rintro _ _ ⟨_,rfl,M,hM,rfl,rfl⟩
  refine ⟨_,_,rfl,⟨_,rfl⟩,?_⟩
  refine jcn ?_;refine lq rfl rfl (by exact qrA) ?_
  refine ln ?_;refine rn ?_;refine zgi (v7 h h.evs[a] a).length (fun i (x:σ)=>p (((v7 h h.evs[a] a).take i).flatMap (rwF h h.evs[a] a)) x) (fun i x=>⟨[(33,iv i),(0,y),(5,.fn (.func 135) [] [pZ bp,pZ b4,pZ ba]),(31,zhg (v7 h h.evs[a] a)),(32,iv ((v7 h h.evs[a] a).map znx).length)],.box b4 60 (evR h.evs[a]):: .box ba 3 [iv (a:Int)]:: .box bp 119 (rwP h rc rl rk rg)::rgR rg M::rkS h rk::zau h rl::rcR h rc:: .glob 2 156 y2:: .glob 4 305 y3:: .glob 5 308 y1:: .glob 3 246 w9:: .glob 1 175 k8:: .glob 0 171 [mpv rO]:: .obj rO oK::I (((v7 h h.evs[a] a).take i).flatMap (rwF h h.evs[a] a)) x,[]⟩) x0 hp0 es ?_
  intro i x li zi
  refine rn ?_;refine z8 rfl (fun hc34=> ?_) (fun hc34=> ?_)
  ·have hi:=zd2 hc34
   have ri:=zcb (f:=znx) hi
   obtain ⟨⟨o0,o1⟩,ol,orr⟩:=hok.2 _ (List.getElem_mem hi)
   refine rn ?_;refine z7 rfl (y6 rfl fun b7=> ?_)
   refine rn ?_;refine zgi (v7 h h.evs[a] a)[i].2.length (fun j (x:σ)=>p ((((v7 h h.evs[a] a).take i).flatMap (rwF h h.evs[a] a))++((v7 h h.evs[a] a)[i].2.take j).filterMap (zdn h h.evs[a] (zex h.evs[a]) a (v7 h h.evs[a] a)[i].1)) x) (fun j x=>⟨[(40,iv j),(0,y),(5,.fn (.func 135) [] [pZ bp,pZ b4,pZ ba]),(7,pZ b7),(31,zhg (v7 h h.evs[a] a)),(32,iv ((v7 h h.evs[a] a).map znx).length),(33,iv i),(38,zb5 (v7 h h.evs[a] a)[i].2),(39,iv ((v7 h h.evs[a] a)[i].2.map zbo).length)],.box b7 177 (znx (v7 h h.evs[a] a)[i]):: .box b4 60 (evR h.evs[a]):: .box ba 3 [iv (a:Int)]:: .box bp 119 (rwP h rc rl rk rg)::rgR rg M::rkS h rk::zau h rl::rcR h rc:: .glob 2 156 y2:: .glob 4 305 y3:: .glob 5 308 y1:: .glob 3 246 w9:: .glob 1 175 k8:: .glob 0 171 [mpv rO]:: .obj rO oK::I ((((v7 h h.evs[a] a).take i).flatMap (rwF h h.evs[a] a))++((v7 h h.evs[a] a)[i].2.take j).filterMap (zdn h h.evs[a] (zex h.evs[a]) a (v7 h h.evs[a] a)[i].1)) x,[]⟩) x (by simpa using zi) (by simpa using eA) ?_
   intro j x lj zj
   refine rn ?_;refine z8 rfl (fun hc41=> ?_) (fun hc41=> ?_)
   ·have hj:=zd2 hc41
    have rj:=zcb (f:=zbo) hj
    obtain ⟨u1,u2⟩:=orr _ (List.getElem_mem hj)
    refine rn ?_;refine qv rfl rfl (y4 rfl rfl (y0.qt (y0.of_acall (fs:= []) (cs:= [pZ bp,pZ b4,pZ ba]) (yjx h (v7 h h.evs[a] a)[i].1 (v7 h h.evs[a] a)[i].2[j] o0 o1 u1 u2 h.evs[a] a bp b4 ba rc rl rk rg M rO oK hK (I ((((v7 h h.evs[a] a).take i).flatMap (rwF h h.evs[a] a))++((v7 h h.evs[a] a)[i].2.take j).filterMap (zdn h h.evs[a] (zex h.evs[a]) a (v7 h h.evs[a] a)[i].1)) x))) (List.perm_append_comm (l₁:= [_])))) ?_
    refine rn ?_;refine z7 rfl (y6 rfl fun b10=> ?_)
    refine rn ?_;refine u4 (fun hg10_1=> ?_) (fun hg10_1=> ?_)
    ·refine q1 ?_;refine q1 ?_;obtain ⟨rest,hL⟩:=yj3 hm hi hj (yet hg10_1)
     refine z7 rfl (v6 rfl rfl (y0.fr3 (hy ((((v7 h h.evs[a] a).take i).flatMap (rwF h h.evs[a] a))++((v7 h h.evs[a] a)[i].2.take j).filterMap (zdn h h.evs[a] (zex h.evs[a]) a (v7 h h.evs[a] a)[i].1)) _ rest x M hL zj hM)) rfl ?_)
     rintro _ _ ⟨_,rfl,x',⟨rfl,hp',rfl⟩|⟨rfl,hq',rfl⟩⟩
     ·refine rn ?_;refine z8 rfl (fun hc58=> ?_) (fun hc58=> ?_)
      ·first|cases hc58|exact absurd hc58 (by decide)|(exfalso;simp_all;done)
      ·refine rn ?_;first|exact ⟨hj,x',by rw [ym6 hj hg10_1];exact hp',by rw [ym6 hj hg10_1];exact eA⟩|exact ⟨hj,x,by rw [ym7 hj hg10_1];exact zj,by rw [ym7 hj hg10_1];exact eA⟩
     ·refine rn ?_;refine z8 rfl (fun hc58=> ?_) (fun hc58=> ?_)
      ·refine rn ?_;exact zd0 .nil (.drop [_,_,_] _ _) ⟨x',M,hM,.inr ⟨hq',rfl⟩⟩
      ·first|cases hc58|exact absurd hc58 (by decide)|(exfalso;simp_all;done)
    ·refine rn ?_;refine zq5 rfl ?_;refine rn ?_;first|exact ⟨hj,x',by rw [ym6 hj hg10_1];exact hp',by rw [ym6 hj hg10_1];exact eA⟩|exact ⟨hj,x,by rw [ym7 hj hg10_1];exact zj,by rw [ym7 hj hg10_1];exact eA⟩
   ·have qj:=zd4 hc41 lj
    refine rn ?_;exact ⟨hi,x,by rw [←yei hi qj];exact zj,by rw [←yei hi qj];exact eA⟩
  ·have qi:=zd4 hc34 li
   refine rn ?_;exact zeq .nil (.drop [_] _ _) ⟨x,M,hM,.inl ⟨by rw [zsm a hm];rw [qi,List.take_length] at zi;exact zi,by rw [zsm a hm,qi,List.take_length]⟩⟩
end Go.Proofs
