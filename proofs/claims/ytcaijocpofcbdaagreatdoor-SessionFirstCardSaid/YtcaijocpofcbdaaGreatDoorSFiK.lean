/- The walks of the reference 26: at, asks, Guard, between, Each. Conditions: none. -/
import Derived.Test.YtcaijocpofcbdaaGreatDoorSFiJ
set_option linter.unusedSectionVars false
set_option linter.unusedSimpArgs false
set_option linter.unusedVariables false
set_option maxRecDepth 10000
namespace Go.Proofs
open Go Go.Ab
attribute [local irreducible] QR QV OE zcw aw zdw zc3 zb7 za6 thn zg2 zes jch zf8
open Go.H
theorem zqn {h:Hist} (hc:j8 h=0) {x:Int} (h0:0≤x) (h1:x < h.os.length) (v:Ver):zos h x v=((zvb h x v).getD 0,(zvb h x v).isSome):=by
 have hs:=zdt.1 hc
 rw [zvb,zy4 hs v h0 h1 _ (Nat.le_refl _) h1,zos,←yg3 hs h0 h1]
 by_cases hv:v=⟨0,0⟩
 ·rw [if_pos hv,if_pos hv];rfl
 ·rw [if_neg hv,if_neg hv]
  have e:zb1 (rkQ h x v) 0 (zfv h x)=zs0 h x v:=rfl
  rw [e]
  by_cases q:zs0 h x v ≥ 0
  ·rw [if_pos q,if_pos q];rfl
  ·rw [if_neg q,if_neg q];rfl
def kdR (rd:Bool):Int:=bif rd then 3 else 2
def zez (h:Hist) (x:Int) (rd:Bool) (e:Ev):Option Int:=if e.o=x∧e.kind=kdR rd then zvb h x e.v else none
theorem zms {h:Hist} {x:Int} {rd:Bool} {e:Ev} (hn:¬(e.o=x∧e.kind=kdR rd)):zez h x rd e=none:=if_neg hn
theorem zua {h:Hist} {x:Int} {rd:Bool} {e:Ev} (hy:e.o=x∧e.kind=kdR rd):zez h x rd e=zvb h x e.v:=if_pos hy
def rdA (g:Int):Bool:=g==2||g==8
def rdB (g:Int):Bool:=g==1||g==2
theorem yoc (g:Int):kdA g=kdR (rdA g):=by
 unfold kdA kdR rdA
 by_cases h1:g=2
 ·subst h1;rfl
 ·by_cases h2:g=8
  ·subst h2;rfl
  ·have e1:(g==2)=false:=by simpa using h1
   have e2:(g==8)=false:=by simpa using h2
   rw [if_neg (by omega),e1,e2];rfl
theorem yob (g:Int):kdB g=kdR (rdB g):=by
 unfold kdB kdR rdB
 by_cases h1:g=1
 ·subst h1;rfl
 ·by_cases h2:g=2
  ·subst h2;rfl
  ·have e1:(g==1)=false:=by simpa using h1
   have e2:(g==2)=false:=by simpa using h2
   rw [if_neg (by omega),e1,e2];rfl
theorem yc7 {a b c d:Bool} (h1:a=c) (h2:b=d):zeq [bv a,bv b]= .tup [bv c,bv d]:=by rw [h1,h2];rfl
def zx4 (h:Hist) (t kd x:Int) (k:Nat):List Acc:=(zpw h t kd k).filter fun a=>a.o==x
theorem yck {h:Hist} {t x:Int} {rd:Bool} {k:Nat} {r:Int} (hk:k < h.evs.length) (ht:h.evs[k].t=t) (hr:zez h x rd h.evs[k]=some r):zx4 h t (kdR rd) x (k+1)=zx4 h t (kdR rd) x k++ [⟨x,r,k⟩]:=by
 rw [zez] at hr
 split at hr
 ·rename_i q
  rw [zx4,zh4 hk,List.filter_append,ycl ht q.2 (by rw [q.1];exact hr),q.1]
  simp [zx4]
 ·cases hr
theorem yht {h:Hist} {t x:Int} {rd:Bool} {k:Nat} (hk:k < h.evs.length) (hn:h.evs[k].t≠t∨zez h x rd h.evs[k]=none):zx4 h t (kdR rd) x (k+1)=zx4 h t (kdR rd) x k:=by
 have:(zmx h t (kdR rd) k h.evs[k]).filter (fun a=>a.o==x)= []:=by
  rw [List.filter_eq_nil_iff]
  intro a ha hx
  obtain ⟨e1,e2,e3,e4,e5⟩:=zwg ha
  have hx:a.o=x:=by simpa using hx
  rcases hn with hn|hn
  ·exact hn e1
  ·rw [zua ⟨by rw [←e3,hx],e2⟩,←hx,e3,e5] at hn;cases hn
 rw [zx4,zh4 hk,List.filter_append,this,List.append_nil];rfl
def hF (g t1 t2 x:Int) (a b:Acc):Option Brch:=if b.r < a.r then some ⟨g,t1,t2,x,a.a,b.a⟩ else none
def bG (h:Hist) (g t1 t2 x:Int) (i:Nat):List Brch:=(zx4 h t1 (kdR (rdA g)) x i).flatMap fun a=>(zx4 h t2 (kdR (rdB g)) x h.evs.length).filterMap (hF g t1 t2 x a)
def zsb (h:Hist) (g t1 t2:Int) (k:Nat):List Brch:=(upR k).flatMap fun x=>bG h g t1 t2 x h.evs.length
theorem ypl (h:Hist) (g t1 t2:Int) (k:Nat):zsb h g t1 t2 (k+1)=zsb h g t1 t2 k++bG h g t1 t2 k h.evs.length:=by
 rw [zsb,zye,List.flatMap_append];simp [zsb]
theorem ys6 {h:Hist} {g t1 t2 x r:Int} {i:Nat} (hi:i < h.evs.length) (ht:h.evs[i].t=t1) (hr:zez h x (rdA g) h.evs[i]=some r):bG h g t1 t2 x (i+1)=bG h g t1 t2 x i++(zx4 h t2 (kdR (rdB g)) x h.evs.length).filterMap (hF g t1 t2 x ⟨x,r,i⟩):=by
 rw [bG,yck hi ht hr,List.flatMap_append];simp [bG]
theorem yr9 {h:Hist} {g t1 t2 x:Int} {i:Nat} (hi:i < h.evs.length) (hn:h.evs[i].t≠t1∨zez h x (rdA g) h.evs[i]=none):bG h g t1 t2 x (i+1)=bG h g t1 t2 x i:=by
 rw [bG,yht hi hn];rfl
def bJ (h:Hist) (g t1 t2 x:Int) (a:Acc) (j:Nat):List Brch:=(zx4 h t2 (kdR (rdB g)) x j).filterMap (hF g t1 t2 x a)
theorem ys4 {h:Hist} {g t1 t2 x r:Int} {a:Acc} {j:Nat} (hj:j < h.evs.length) (ht:h.evs[j].t=t2) (hr:zez h x (rdB g) h.evs[j]=some r) (hlt:r < a.r):bJ h g t1 t2 x a (j+1)=bJ h g t1 t2 x a j++ [⟨g,t1,t2,x,a.a,j⟩]:=by
 rw [bJ,yck hj ht hr,List.filterMap_append];simp [bJ,hF,hlt]
theorem ys5 {h:Hist} {g t1 t2 x r:Int} {a:Acc} {j:Nat} (hj:j < h.evs.length) (ht:h.evs[j].t=t2) (hr:zez h x (rdB g) h.evs[j]=some r) (hlt:¬r < a.r):bJ h g t1 t2 x a (j+1)=bJ h g t1 t2 x a j:=by
 rw [bJ,yck hj ht hr,List.filterMap_append];simp [bJ,hF,hlt]
theorem yr8 {h:Hist} {g t1 t2 x:Int} {a:Acc} {j:Nat} (hj:j < h.evs.length) (hn:h.evs[j].t≠t2∨zez h x (rdB g) h.evs[j]=none):bJ h g t1 t2 x a (j+1)=bJ h g t1 t2 x a j:=by
 rw [bJ,yht hj hn];rfl
theorem yf2 (h:Hist) (g t1 t2:Int):zsb h g t1 t2 h.os.length=ypj h.os.length g t1 t2 (zpv h t1 (kdA g)) (zpv h t2 (kdB g)):=by
 rw [zsb,ypj,yoc,yob];rfl
theorem zph {α β:Type} {f:α→List β} {c:Nat}:∀{l:List α},(∀a∈l,(f a).length≤c)→(l.flatMap f).length≤l.length * c
 | [],_=>by simp
 |a::l,h=>by
  have h1:=zph (l:=l) fun x hx=>h x (by simp [hx])
  have h2:=h a (by simp)
  rw [List.flatMap_cons,List.length_append,List.length_cons,Nat.succ_mul];omega
theorem zpx (h:Hist) (t kd x:Int) (k:Nat):(zx4 h t kd x k).length≤k:=Nat.le_trans (List.length_filter_le _ _) (ze6 h t kd k)
theorem ypm (h:Hist) (g t1 t2 x:Int) (a:Acc) (j:Nat):(bJ h g t1 t2 x a j).length≤j:=Nat.le_trans (List.length_filterMap_le _ _) (zpx _ _ _ _ _)
theorem yhi (h:Hist) (g t1 t2 x:Int) (i:Nat):(bG h g t1 t2 x i).length≤i * h.evs.length:=by
 refine Nat.le_trans (zph (c:=h.evs.length) fun a _=>Nat.le_trans (List.length_filterMap_le _ _) (zpx _ _ _ _ _)) ?_
 exact Nat.mul_le_mul_right _ (zpx _ _ _ _ _)
theorem yf1 (h:Hist) (g t1 t2:Int) (k:Nat):(zsb h g t1 t2 k).length≤k * (h.evs.length * h.evs.length):=by
 refine Nat.le_trans (zph (c:=h.evs.length * h.evs.length) fun x _=>yhi _ _ _ _ _ _) ?_
 rw [upR,List.length_map,List.length_range];exact Nat.le_refl _
theorem yhj {h:Hist} (hE:h.evs.length≤70) (hc:j8 h=0) {g t1 t2 x:Int} {k i j:Nat} {a:Acc} (hk:k≤h.os.length) (hi:i≤h.evs.length) (hj:j≤h.evs.length):(zsb h g t1 t2 k++bG h g t1 t2 x i++bJ h g t1 t2 x a j).length≤15000000:=by
 have lA:=zg9 hc
 have lO:=lA.os;have lE:=hE
 have e1:h.evs.length * h.evs.length≤70 * 70:=Nat.mul_le_mul lE lE
 have e2:k * (h.evs.length * h.evs.length)≤3000 * (70 * 70):=Nat.mul_le_mul (by omega) e1
 have e3:i * h.evs.length≤70 * 70:=Nat.mul_le_mul (by omega) lE
 have h1:=yf1 h g t1 t2 k
 have h2:=yhi h g t1 t2 x i
 have h3:=ypm h g t1 t2 x a j
 rw [List.length_append,List.length_append];omega
theorem yb3 {h:Hist} (hE:h.evs.length≤70) (hc:j8 h=0) (g t1 t2:Int):(zsb h g t1 t2 h.os.length).length≤15000000:=by
 have:=yhj hE hc (g:=g) (t1:=t1) (t2:=t2) (x:=0) (a:=⟨0,0,0⟩) (k:=h.os.length) (i:=0) (j:=0) (Nat.le_refl _) (Nat.zero_le _) (Nat.zero_le _)
 rw [List.length_append,List.length_append] at this;omega
def eR (h:Hist) (g:Int) (l:List Int) (t2:Int) (i:Nat):List Brch:=(l.take i).flatMap fun t1=>zsb h g t1 t2 h.os.length
theorem ys3 {h:Hist} {g:Int} {l:List Int} {t2:Int} {i:Nat} (hi:i < l.length):eR h g l t2 (i+1)=eR h g l t2 i++zsb h g l[i] t2 h.os.length:=by
 rw [eR,List.take_succ_eq_append_getElem hi,List.flatMap_append];simp [eR]
def eL (h:Hist) (g:Int) (l:List Int):Nat→List Brch
 |0=> []
 |k+1=>eL h g l k++(match l[k]? with|some t2=>eR h g (l.take k) t2 (l.take k).length|none=> [])
theorem yr6 {h:Hist} {g:Int} {l:List Int} {k:Nat} (hk:k < l.length):eL h g l (k+1)=eL h g l k++eR h g (l.take k) l[k] (l.take k).length:=by rw [eL,List.getElem?_eq_getElem hk]
theorem ybi (h:Hist) (g:Int) (l:List Int):∀k,eL h g l k=zmi h.os.length g (l.map (doi h g)) k
 |0=>rfl
 |k+1=>by
  rw [eL,zmi,ybi h g l k,List.getElem?_map]
  cases l[k]? with
  |none=>rfl
  |some t2=>
   simp only [Option.map_some]
   rw [eR,List.take_length,←List.map_take,List.flatMap_map]
   congr 1
   exact zc2 fun t1 _=>yf2 h g t1 t2
theorem yhb (h:Hist) (s g:Int):eL h g (zaw h.evs s) (zaw h.evs s).length=eaS h s g:=by rw [ybi,eaS,ycu,List.length_map]
theorem yg9 {h:Hist} (hE:h.evs.length≤70) (hc:j8 h=0) (g:Int) (l:List Int) (t2:Int) (i:Nat):(eR h g l t2 i).length≤i * 15000000:=by
 refine Nat.le_trans (zph (c:=15000000) fun t1 _=>yb3 hE hc g t1 t2) ?_
 exact Nat.mul_le_mul_right _ (by rw [List.length_take];exact Nat.min_le_left _ _)
theorem yha {h:Hist} (hE:h.evs.length≤70) (hc:j8 h=0) (g:Int) (l:List Int):∀k,k≤l.length→(eL h g l k).length≤k * (l.length * 15000000)
 |0,_=>by simp [eL]
 |k+1,hk=>by
  have h1:=yha hE hc g l k (by omega)
  have h2:=yg9 hE hc g (l.take k) l[k] (l.take k).length
  have h3:(l.take k).length * 15000000≤l.length * 15000000:=Nat.mul_le_mul_right _ (by rw [List.length_take];omega)
  rw [yr6 hk,List.length_append,Nat.succ_mul];omega
theorem yhc {h:Hist} (hE:h.evs.length≤70) (hc:j8 h=0) (g:Int) {l:List Int} (hl:l.length≤70) {k i:Nat} (t2:Int) (hk:k≤l.length) (hi:i≤70):(eL h g l k++eR h g (l.take k) t2 i).length≤80000000000:=by
 have h1:=yha hE hc g l k hk
 have h2:=yg9 hE hc g (l.take k) t2 i
 have h3:k * (l.length * 15000000)≤70 * (70 * 15000000):=Nat.mul_le_mul (by omega) (Nat.mul_le_mul_right _ hl)
 rw [List.length_append];omega
theorem ybh {h:Hist} (hE:h.evs.length≤70) (hc:j8 h=0) (s g:Int):(eaS h s g).length≤80000000000:=by
 have lL:=zlb h s
 have lE:=hE
 have:=yhc hE hc g (l:=zaw h.evs s) (by omega) (k:=(zaw h.evs s).length) (i:=0) 0 (Nat.le_refl _) (by omega)
 rw [yhb,List.length_append] at this;omega
abbrev yb0 (l:List Brch):AV:= .list false 6 (l.map zch)
set_option maxHeartbeats 4000000 in
theorem ym1 (h:Hist) (la:Lim 3000 h) (hc:j8 h=0) (hE:h.evs.length≤70) (i x:Nat) (hi:i < h.evs.length) (hx:x < h.os.length):x4 Tryz.prog 115 [.agg (x5 h),iv (i:Int),iv (x:Int),bv true] [] (fun r h'=>h'= []∧r= .tup [iv ((zez h x true h.evs[i]).getD 0),bv (zez h x true h.evs[i]).isSome]):=by
 refine z6 Tryz.func115 rfl rfl rfl ?_
 refine rn ?_;refine z8 rfl (x9 rfl rfl rfl fun b4=> ?_)
 refine q1 ?_;refine q1 ?_;refine u4 (j9 ?_)
 refine x6 (y5 ?_)
 refine q1 ?_;refine q1 ?_;refine q1 ?_;refine qq rfl rfl (zcl rfl rfl (zad (f:=evR) hi)) ?_
 refine rn ?_;refine z8 rfl (y7 rfl fun b10=> ?_)
 refine rn ?_;refine y8 (fun hg2_4=> ?_) (fun hg2_4=> ?_)
 ·refine rn ?_;refine z7 rfl (fun hc35=> ?_) (fun hc35=> ?_)
  ·have hn:¬(h.evs[i].o=(x:Int)∧h.evs[i].kind=kdR true):=by
    intro qq
    have q1:h.evs[i].kind=3:=qq.2
    first|(have w:=hg2_4;rw [qq.1] at w;simp at w;done)|(have w:=hg2_11;rw [q1] at w;simp at w;done)|(have w:=hc35;rw [q1] at w;simp at w;done)
   refine rn ?_;refine rq 2 ?_
   exact ⟨rfl,by rw [zms hn];rfl⟩
  ·first|cases hc35|exact absurd hc35 (by decide)|(exfalso;simp_all;done)
 ·refine q1 ?_;refine q1 ?_;refine q1 ?_;refine q1 ?_;refine qq rfl rfl (ziz rfl rfl) ?_
  refine rn ?_;refine y8 (fun hg2_11=> ?_) (fun hg2_11=> ?_)
  ·refine rn ?_;refine z7 rfl (fun hc35=> ?_) (fun hc35=> ?_)
   ·have hn:¬(h.evs[i].o=(x:Int)∧h.evs[i].kind=kdR true):=by
     intro qq
     have q1:h.evs[i].kind=3:=qq.2
     first|(have w:=hg2_4;rw [qq.1] at w;simp at w;done)|(have w:=hg2_11;rw [q1] at w;simp at w;done)|(have w:=hc35;rw [q1] at w;simp at w;done)
    refine rn ?_;refine rq 2 ?_
    exact ⟨rfl,by rw [zms hn];rfl⟩
   ·first|cases hc35|exact absurd hc35 (by decide)|(exfalso;simp_all;done)
  ·refine rn ?_;refine z7 rfl (fun hc35=> ?_) (fun hc35=> ?_)
   ·first|cases hc35|exact absurd hc35 (by decide)|(exfalso;simp_all;done)
   ·have hyy:h.evs[i].o=(x:Int)∧h.evs[i].kind=kdR true:=⟨by simpa using hg2_4,by simpa [kdR] using hg2_11⟩
    refine rn ?_;refine qv rfl rfl (y4 rfl rfl (v7 ((zqq h (la.mono (by decide)) (x:Int) h.evs[i].v).mono fun _ _ q=>⟨q.1,by rw [q.2,zqn hc (by omega) (by omega),←zua hyy]⟩) (Sbs.refl _))) ?_
    refine rn ?_;refine rq 2 ?_
    exact ⟨rfl,rfl⟩
set_option maxHeartbeats 4000000 in
theorem ym2 (h:Hist) (la:Lim 3000 h) (hc:j8 h=0) (hE:h.evs.length≤70) (i x:Nat) (hi:i < h.evs.length) (hx:x < h.os.length):x4 Tryz.prog 115 [.agg (x5 h),iv (i:Int),iv (x:Int),bv false] [] (fun r h'=>h'= []∧r= .tup [iv ((zez h x false h.evs[i]).getD 0),bv (zez h x false h.evs[i]).isSome]):=by
 refine z6 Tryz.func115 rfl rfl rfl ?_
 refine rn ?_;refine z8 rfl (x9 rfl rfl rfl fun b4=> ?_)
 refine q1 ?_;refine q1 ?_;refine u4 (j9 ?_)
 refine x6 (y5 ?_)
 refine q1 ?_;refine q1 ?_;refine q1 ?_;refine qq rfl rfl (zcl rfl rfl (zad (f:=evR) hi)) ?_
 refine rn ?_;refine z8 rfl (y7 rfl fun b10=> ?_)
 refine rn ?_;refine y8 (fun hg2_4=> ?_) (fun hg2_4=> ?_)
 ·refine rn ?_;refine z7 rfl (fun hc35=> ?_) (fun hc35=> ?_)
  ·have hn:¬(h.evs[i].o=(x:Int)∧h.evs[i].kind=kdR false):=by
    intro qq
    have q1:h.evs[i].kind=2:=qq.2
    first|(have w:=hg2_4;rw [qq.1] at w;simp at w;done)|(have w:=hg2_11;rw [q1] at w;simp at w;done)|(have w:=hc35;rw [q1] at w;simp at w;done)
   refine rn ?_;refine rq 2 ?_
   exact ⟨rfl,by rw [zms hn];rfl⟩
  ·first|cases hc35|exact absurd hc35 (by decide)|(exfalso;simp_all;done)
 ·refine q1 ?_;refine q1 ?_;refine q1 ?_;refine q1 ?_;refine qq rfl rfl (ziz rfl rfl) ?_
  refine rn ?_;refine y8 (fun hg2_11=> ?_) (fun hg2_11=> ?_)
  ·refine rn ?_;refine z7 rfl (fun hc35=> ?_) (fun hc35=> ?_)
   ·have hn:¬(h.evs[i].o=(x:Int)∧h.evs[i].kind=kdR false):=by
     intro qq
     have q1:h.evs[i].kind=2:=qq.2
     first|(have w:=hg2_4;rw [qq.1] at w;simp at w;done)|(have w:=hg2_11;rw [q1] at w;simp at w;done)|(have w:=hc35;rw [q1] at w;simp at w;done)
    refine rn ?_;refine rq 2 ?_
    exact ⟨rfl,by rw [zms hn];rfl⟩
   ·first|cases hc35|exact absurd hc35 (by decide)|(exfalso;simp_all;done)
  ·refine rn ?_;refine z7 rfl (fun hc35=> ?_) (fun hc35=> ?_)
   ·have hn:¬(h.evs[i].o=(x:Int)∧h.evs[i].kind=kdR false):=by
     intro qq
     have q1:h.evs[i].kind=2:=qq.2
     first|(have w:=hg2_4;rw [qq.1] at w;simp at w;done)|(have w:=hg2_11;rw [q1] at w;simp at w;done)|(have w:=hc35;rw [q1] at w;simp at w;done)
    refine rn ?_;refine rq 2 ?_
    exact ⟨rfl,by rw [zms hn];rfl⟩
   ·have hyy:h.evs[i].o=(x:Int)∧h.evs[i].kind=kdR false:=⟨by simpa using hg2_4,by simpa [kdR] using hc35⟩
    refine rn ?_;refine qv rfl rfl (y4 rfl rfl (v7 ((zqq h (la.mono (by decide)) (x:Int) h.evs[i].v).mono fun _ _ q=>⟨q.1,by rw [q.2,zqn hc (by omega) (by omega),←zua hyy]⟩) (Sbs.refl _))) ?_
    refine rn ?_;refine rq 2 ?_
    exact ⟨rfl,rfl⟩
theorem zzg (h:Hist) (la:Lim 3000 h) (hc:j8 h=0) (hE:h.evs.length≤70) (i x:Nat) (hi:i < h.evs.length) (hx:x < h.os.length) (rd:Bool):x4 Tryz.prog 115 [.agg (x5 h),iv (i:Int),iv (x:Int),bv rd] [] (fun r h'=>h'= []∧r= .tup [iv ((zez h x rd h.evs[i]).getD 0),bv (zez h x rd h.evs[i]).isSome]):=by
 cases rd
 ·exact ym2 h la hc hE i x hi hx
 ·exact ym1 h la hc hE i x hi hx
theorem zzh (g:Int):x4 Tryz.prog 114 [iv g] [] (fun r h'=>h'= []∧r= .tup [bv (rdA g),bv (rdB g)]):=by
 refine z6 Tryz.func114 rfl rfl rfl ?_
 refine rn ?_;refine y8 (fun hg1_2=> ?_) (fun hg1_2=> ?_)
 ·refine rn ?_;refine y8 (fun hg1_8=> ?_) (fun hg1_8=> ?_)
  ·refine rn ?_;refine rq 0 ?_
   exact ⟨rfl,yc7 (by simp only [rdA,hg1_2,Bool.true_or,Bool.false_or]) (by simp only [rdB,hg1_8,Bool.true_or,Bool.false_or])⟩
  ·refine rn ?_;refine rq 0 ?_
   exact ⟨rfl,yc7 (by simp only [rdA,hg1_2,Bool.true_or,Bool.false_or]) (by simp only [rdB,hg1_8,Bool.true_or,Bool.false_or])⟩
 ·refine rn ?_;refine y8 (fun hg1_8=> ?_) (fun hg1_8=> ?_)
  ·refine rn ?_;refine rq 0 ?_
   exact ⟨rfl,yc7 (by simp only [rdA,hg1_2,Bool.true_or,Bool.false_or]) (by simp only [rdB,hg1_8,Bool.true_or,Bool.false_or])⟩
  ·refine rn ?_;refine rq 0 ?_
   exact ⟨rfl,yc7 (by simp only [rdA,hg1_2,Bool.true_or,Bool.false_or]) (by simp only [rdB,hg1_8,Bool.true_or,Bool.false_or])⟩
theorem zwx (g:Int):x4 Tryz.prog 18 [iv g] [] (fun r h'=>h'= []∧r=bv (g==1||g==2||g==4||g==8)):=by
 refine z6 Tryz.func18 rfl rfl rfl ?_
 refine rn ?_;refine y8 (fun hg1_2=> ?_) (fun hg1_2=> ?_)
 ·refine rn ?_;refine rq 0 ?_
  exact ⟨rfl,congrArg bv (by simp_all)⟩
 ·refine rn ?_;refine y8 (fun hg1_6=> ?_) (fun hg1_6=> ?_)
  ·refine rn ?_;refine rq 0 ?_
   exact ⟨rfl,congrArg bv (by simp_all)⟩
  ·refine rn ?_;refine y8 (fun hg1_10=> ?_) (fun hg1_10=> ?_)
   ·refine rn ?_;refine rq 0 ?_
    exact ⟨rfl,congrArg bv (by simp_all)⟩
   ·refine rn ?_;refine rq 0 ?_
    exact ⟨rfl,congrArg bv (by simp_all)⟩
set_option maxHeartbeats 8000000 in
theorem zzf (h:Hist) (la:Lim 3000 h) (hc:j8 h=0) (hE:h.evs.length≤70) (g t1 t2:Int):x4 Tryz.prog 61 [.agg (x5 h),iv g,iv t1,iv t2] [] (fun r h'=>∃v:SV,h'= [.row v.v 6 36 ((zsb h g t1 t2 h.os.length).map zch)]∧r= .v v.v):=by
 refine z6 Tryz.func61 rfl rfl rfl ?_
 have lO:=la.os
 have lE:=la.evs
 refine rn ?_;refine z8 rfl (x9 rfl rfl rfl fun b4=> ?_)
 refine rn ?_;refine qv rfl rfl (y4 rfl rfl (v7 (zzh g) (Sbs.refl _))) ?_
 refine rn ?_;refine zee h.os.length (fun x v=>⟨[(29,iv x),(9,.v v.v),(1,iv g),(2,iv t1),(3,iv t2),(4,pZ b4),(10,bv (rdA g)),(11,bv (rdB g)),(28,iv (h.os.map ze0).length)],.row v.v 6 36 ((zsb h g t1 t2 x).map zch):: .box b4 28 (x5 h):: [],[]⟩) ⟨none,0,0⟩ (v6 (zaj 6 36) es) ?_
 intro x v lx
 refine rn ?_;refine z7 rfl (fun hc30=> ?_) (fun hc30=> ?_)
 ·have hx:x < h.os.length:=by have q:=of_decide_eq_true hc30;rw [List.length_map] at q;omega
  refine rn ?_;refine zee h.evs.length (fun i v=>⟨[(35,iv i),(9,.v v.v),(1,iv g),(2,iv t1),(3,iv t2),(4,pZ b4),(10,bv (rdA g)),(11,bv (rdB g)),(12,iv x),(28,iv (h.os.map ze0).length),(29,iv x),(33,zmw h.evs),(34,iv (h.evs.map evR).length)],.row v.v 6 36 ((zsb h g t1 t2 x++bG h g t1 t2 x i).map zch):: .box b4 28 (x5 h):: [],[]⟩) v (by rw [show bG h g t1 t2 x 0= [] from rfl,List.append_nil];exact es) ?_
  intro i v li
  refine rn ?_;refine z7 rfl (fun hc36=> ?_) (fun hc36=> ?_)
  ·have hi:=zao hc36
   have ri:=zad (f:=evR) hi
   refine rn ?_;refine z8 rfl (y7 rfl fun b14=> ?_)
   refine rn ?_;refine qv rfl rfl (y4 rfl rfl (v7 (zzg h la hc hE i x hi hx (rdA g)) (Sbs.refl _))) ?_
   refine rn ?_;refine y8 (fun hg10_4=> ?_) (fun hg10_4=> ?_)
   ·refine rn ?_;refine zdb rfl ?_;have hn:h.evs[i].t≠t1∨(zez h x (rdA g) h.evs[i])=none:=by
     first|(have w:=hg10_4;exact .inl (by simpa using w))|(have w:=hc55;exact .inr (by simpa using w))
    refine rn ?_;exact ⟨hi,v,by rw [yr9 hi hn];exact eA⟩
   ·refine rn ?_;refine z7 rfl (fun hc55=> ?_) (fun hc55=> ?_)
    ·have hn:h.evs[i].t≠t1∨(zez h x (rdA g) h.evs[i])=none:=by
      first|(have w:=hg10_4;exact .inl (by simpa using w))|(have w:=hc55;exact .inr (by simpa using w))
     refine rn ?_;exact ⟨hi,v,by rw [yr9 hi hn];exact eA⟩
    ·have ht1:h.evs[i].t=t1:=by simpa using hg10_4
     obtain ⟨r1,hr1⟩:∃r,(zez h x (rdA g) h.evs[i])=some r:=Option.isSome_iff_exists.1 (by simpa using hc55)
     rw [hr1,Option.getD_some,Option.isSome_some]
     refine rn ?_;refine zee h.evs.length (fun j v=>⟨[(59,iv j),(9,.v v.v),(1,iv g),(2,iv t1),(3,iv t2),(4,pZ b4),(10,bv (rdA g)),(11,bv (rdB g)),(12,iv x),(13,iv i),(15,iv r1),(28,iv (h.os.map ze0).length),(29,iv x),(33,zmw h.evs),(34,iv (h.evs.map evR).length),(35,iv i),(57,zmw h.evs),(58,iv (h.evs.map evR).length)],.row v.v 6 36 ((zsb h g t1 t2 x++bG h g t1 t2 x i++bJ h g t1 t2 x ⟨x,r1,i⟩ j).map zch):: .box b14 66 (evR h.evs[i]):: .box b4 28 (x5 h):: [],[]⟩) v (by rw [show bJ h g t1 t2 x ⟨x,r1,i⟩ 0= [] from rfl,List.append_nil];exact v6 (za0 (pt1 _ _ _)) es) ?_
     intro j v lj
     refine rn ?_;refine z7 rfl (fun hc60=> ?_) (fun hc60=> ?_)
     ·have hj:=zao hc60
      have rj:=zad (f:=evR) hj
      refine rn ?_;refine z8 rfl (y7 rfl fun b18=> ?_)
      refine rn ?_;refine qv rfl rfl (y4 rfl rfl (v7 (zzg h la hc hE j x hj hx (rdB g)) (Sbs.refl _))) ?_
      refine rn ?_;refine y8 (fun hg15_4=> ?_) (fun hg15_4=> ?_)
      ·refine rn ?_;refine y8 (fun hg15_7=> ?_) (fun hg15_7=> ?_)
       ·refine rn ?_;refine z7 rfl (fun hc83=> ?_) (fun hc83=> ?_)
        ·have ht2:h.evs[j].t=t2:=by simpa using hg15_4
         obtain ⟨r2,hr2⟩:∃r,(zez h x (rdB g) h.evs[j])=some r:=Option.isSome_iff_exists.1 hg15_7
         have hlt:r2 < r1:=by have w:=of_decide_eq_true hc83;rw [hr2] at w;exact w
         refine y5 ?_;refine q1 ?_;refine q1 ?_;refine q1 ?_;refine q1 ?_;refine q1 ?_;refine q1 ?_;refine q1 ?_;refine qq rfl rfl (zae (out:= [iv g,iv t1,iv t2,iv x,iv i,iv j]) rfl (by rfl)) ?_
         refine qv rfl rfl (q8 rfl rfl) ?_
         refine z8 rfl (j5 rfl rfl (by simp only [List.length_map,List.length_cons,List.length_nil];have:=yhj hE hc (g:=g) (t1:=t1) (t2:=t2) (x:=x) (a:=⟨x,r1,i⟩) (k:=x) (i:=i) (j:=j) (by omega) (by omega) (by omega);omega) rfl (fun s93=> ?_) (fun r hr=>by rw [List.mem_singleton.1 hr];rfl))
         refine zaf s93 fun sv hsv=> ?_
         subst hsv
         refine rn ?_;exact ⟨hj,sv,by rw [ys4 hj ht2 hr2 hlt,←List.append_assoc];simp only [List.map_append];exact eA⟩
        ·skip
         refine rn ?_;have ht2:h.evs[j].t=t2:=by simpa using hg15_4
         obtain ⟨r2,hr2⟩:∃r,(zez h x (rdB g) h.evs[j])=some r:=Option.isSome_iff_exists.1 hg15_7
         have hlt:¬r2 < r1:=by have w:=of_decide_eq_false hc83;rw [hr2] at w;exact w
         exact ⟨hj,v,by rw [ys5 hj ht2 hr2 hlt];exact eA⟩
       ·refine rn ?_;refine zew rfl ?_;skip
        refine rn ?_;have hn2:(zez h x (rdB g) h.evs[j])=none:=by have w:=hg15_7;simpa using w
        exact ⟨hj,v,by rw [yr8 hj (.inr hn2)];exact eA⟩
      ·refine rn ?_;refine zew rfl ?_;skip
       refine rn ?_;have hn2:h.evs[j].t≠t2:=by simpa using hg15_4
       exact ⟨hj,v,by rw [yr8 hj (.inl hn2)];exact eA⟩
     ·have qj:=zap hc60 lj
      subst qj
      refine rn ?_;exact ⟨hi,v,by rw [ys6 hi ht1 hr1,←List.append_assoc];exact eD 1⟩
  ·have qi:=zap hc36 li
   subst qi
   refine rn ?_;exact ⟨hx,v,by rw [ypl];exact eA⟩
 ·have qx:x=h.os.length:=by have q:=of_decide_eq_false hc30;rw [List.length_map] at q;omega
  refine rn ?_;exact u7 rfl (.trans (.perm (pt1 _ _ _) _) (.drop [_] _ _)) ⟨v,by rw [qx],rfl⟩
theorem yd1 (h:Hist) (la:Lim 3000 h) (hc:j8 h=0) (hE:h.evs.length≤70) (g t1 t2:Int):x4 Tryz.prog 61 [.agg (x5 h),iv g,iv t1,iv t2] [] (fun r h'=>h'= []∧r=yb0 (zsb h g t1 t2 h.os.length)):=(zzf h la hc hE g t1 t2).ventR (by rintro _ _ ⟨v,rfl,rfl⟩;exact ⟨_,_,zc7,rfl,rfl⟩)
set_option maxHeartbeats 8000000 in
theorem zw1 (h:Hist) (la:Lim 3000 h) (hc:j8 h=0) (hE:h.evs.length≤70) (s g:Int):x4 Tryz.prog 20 [.agg (x5 h),iv s,iv g] [] (fun r h'=>∃v:SV,h'= [.row v.v 6 36 ((eaS h s g).map zch)]∧r= .v v.v):=by
 refine z6 Tryz.func20 rfl rfl rfl ?_
 have lE:=la.evs
 have lL:=zlb h s
 have lL3:(zaw h.evs s).length≤70:=by omega
 refine rn ?_;refine z8 rfl (x9 rfl rfl rfl fun b3=> ?_)
 refine rn ?_;refine qv rfl rfl (y4 rfl rfl (v7 (zza h (la.mono (by decide)) s) (Sbs.refl _))) ?_
 refine rn ?_;refine zee (zaw h.evs s).length (fun k v=>⟨[(18,iv k),(7,.v v.v),(2,iv g),(3,pZ b3),(8,zca (zaw h.evs s)),(16,zca (zaw h.evs s)),(17,iv ((zaw h.evs s).map zal).length)],.row v.v 6 36 ((eL h g (zaw h.evs s) k).map zch):: .box b3 28 (x5 h):: [],[]⟩) ⟨none,0,0⟩ (v6 (zaj 6 36) es) ?_
 intro k v lk
 refine rn ?_;refine z7 rfl (fun hc19=> ?_) (fun hc19=> ?_)
 ·have hk:=zao hc19
  have rk:=zad (f:=zal) hk
  refine zab ?_;refine j9 ?_;refine x6 ?_;refine zan ?_;refine x6 (y5 ?_)
  refine q1 ?_;refine q1 ?_;refine q1 ?_;refine q1 ?_;refine q1 ?_;refine u4 (j9 ?_)
  refine x6 (y5 ?_)
  refine q1 ?_;refine q1 ?_;refine qq rfl rfl (za4 (k:=k) rfl rfl (by rw [List.length_map];omega)) ?_
  rw [←List.map_take]
  refine rn ?_;refine zee ((zaw h.evs s).take k).length (fun i v=>⟨[(27,iv i),(7,.v v.v),(2,iv g),(3,pZ b3),(8,zca (zaw h.evs s)),(10,iv (zaw h.evs s)[k]),(16,zca (zaw h.evs s)),(17,iv ((zaw h.evs s).map zal).length),(18,iv k),(25,zca ((zaw h.evs s).take k)),(26,iv (((zaw h.evs s).take k).map zal).length)],.row v.v 6 36 ((eL h g (zaw h.evs s) k++eR h g ((zaw h.evs s).take k) (zaw h.evs s)[k] i).map zch):: .box b3 28 (x5 h):: [],[]⟩) v (by rw [show eR h g ((zaw h.evs s).take k) (zaw h.evs s)[k] 0= [] by simp [eR],List.append_nil];exact es) ?_
  intro i v li
  refine rn ?_;refine z7 rfl (fun hc28=> ?_) (fun hc28=> ?_)
  ·have hi:=zao hc28
   have ri:=zad (f:=zal) hi
   have htl:=List.length_take_le k (zaw h.evs s)
   refine rn ?_;refine qv rfl rfl (y4 rfl rfl (v7 (yd1 h la hc hE g ((zaw h.evs s).take k)[i] (zaw h.evs s)[k]) (Sbs.refl _))) ?_
   refine z8 rfl (j5 rfl rfl (by have q1:=yhc hE hc g lL3 (k:=k) (i:=i) (zaw h.evs s)[k] (by omega) (by omega);have q2:=yb3 hE hc g ((zaw h.evs s).take k)[i] (zaw h.evs s)[k];simp only [List.length_map];omega) rfl (fun s37=> ?_) (yfx _))
   refine zaf s37 fun sv hsv=> ?_
   subst hsv
   refine rn ?_;exact ⟨hi,sv,by rw [ys3 hi,←List.append_assoc];simp only [List.map_append];exact eA⟩
  ·have qi:=zap hc28 li
   refine rn ?_;exact ⟨hk,v,by rw [yr6 hk,qi];exact eA⟩
 ·have qk:=zap hc19 lk
  refine rn ?_;exact u7 rfl (.trans (.perm (pt1 _ _ _) _) (.drop [_] _ _)) ⟨v,by rw [←yhb,qk],rfl⟩
theorem zqr (h:Hist) (la:Lim 3000 h) (hc:j8 h=0) (hE:h.evs.length≤70) (s g:Int):x4 Tryz.prog 20 [.agg (x5 h),iv s,iv g] [] (fun r h'=>h'= []∧r=yb0 (eaS h s g)):=(zw1 h la hc hE s g).ventR (by rintro _ _ ⟨v,rfl,rfl⟩;exact ⟨_,_,zc7,rfl,rfl⟩)
def isG (g:Int):Bool:=g==1||g==2||g==4||g==8
abbrev yg6:(Int×Int)→(Int×Int)→Bool:=fun a b=>a==b
theorem zl3 (a b:Int×Int):(([a.1,a.2]:List Int)== [b.1,b.2])=(a==b):=by
 rw [Bool.eq_iff_iff]
 obtain ⟨a1,a2⟩:=a
 obtain ⟨b1,b2⟩:=b
 simp
def prK (h:Hist) (s g:Int) (k:Nat):List (Int×Int):=zer yg6 (((eaS h s g).take k).map prB)
theorem yjs {h:Hist} {s g:Int} {k:Nat} (hk:k < (eaS h s g).length):prK h s g (k+1)=zer yg6 (((eaS h s g).take k).map prB++ [prB (eaS h s g)[k]]):=by
 rw [prK,List.take_succ_eq_append_getElem hk,List.map_append];rfl
theorem ynl {h:Hist} {s g:Int} {k:Nat} (hk:k < (eaS h s g).length) (h0:(prK h s g k).length=0):prK h s g (k+1)=prK h s g k++ [prB (eaS h s g)[k]]:=by rw [yjs hk];exact ykj h0
theorem ynk {h:Hist} {s g:Int} {k:Nat} {z:Int×Int} (hk:k < (eaS h s g).length) (hz:(prK h s g k)[(prK h s g k).length - 1]? =some z) (hn:(z==prB (eaS h s g)[k])=false):prK h s g (k+1)=prK h s g k++ [prB (eaS h s g)[k]]:=by
 rw [yjs hk,znt hz,if_neg];rfl
 have hn:z≠prB (eaS h s g)[k]:=by simpa using hn
 simp [yg6,Ne.symm hn]
theorem yqz {h:Hist} {s g:Int} {k:Nat} {z:Int×Int} (hk:k < (eaS h s g).length) (hz:(prK h s g k)[(prK h s g k).length - 1]? =some z) (hn:(z==prB (eaS h s g)[k])=true):prK h s g (k+1)=prK h s g k:=by
 have hn:z=prB (eaS h s g)[k]:=by simpa using hn
 rw [yjs hk,znt hz,if_pos (by rw [hn];simp [yg6]),List.append_nil];rfl
theorem yjt (h:Hist) (s g:Int) (k:Nat):(prK h s g k).length≤(eaS h s g).length:=by
 refine Nat.le_trans (zq9 _) ?_
 rw [List.length_map,List.length_take];exact Nat.min_le_right _ _
theorem yjv {l:List (Int×Int)} (h:(((l.map zjo).length:Int)==0)=false):l.length≠0:=by
 intro e;rw [List.length_map,e] at h;cases h
theorem ynm {l:List (Int×Int)} (h:(((l.map zjo).length:Int)==0)=true):l.length=0:=by
 rw [List.length_map] at h
 have:(l.length:Int)=0:=by simpa using h
 omega
theorem yef {l:List (Int×Int)} {z:Int×Int} (h:(((l.map zjo).length:Int)==0)=false) (hz:l.getD (l.length - 1) (0,0)=z):l[l.length - 1]? =some z:=by
 have:=yjv h
 rw [←hz];exact getD_some (by omega) _
set_option maxHeartbeats 4000000 in
theorem zsz (h:Hist) (la:Lim 3000 h) (hc:j8 h=0) (hE:h.evs.length≤70) (s g:Int):x4 Tryz.prog 19 [.agg (x5 h),iv s,iv g] [] (fun r h'=>∃v:SV,h'= [.row v.v 2 34 ((zer yg6 ((eaS h s g).map prB)).map zjo)]∧r= .v v.v):=by
 refine z6 Tryz.func19 rfl rfl rfl ?_
 have bl:=ybh hE hc s g
 refine rn ?_;refine z8 rfl (x9 rfl rfl rfl fun b3=> ?_)
 refine rn ?_;refine qv rfl rfl (y4 rfl rfl (v7 (zqr h la hc hE s g) (Sbs.refl _))) ?_
 refine rn ?_;refine zee (eaS h s g).length (fun k v=>⟨[(17,iv k),(7,.v v.v),(15,yb0 (eaS h s g)),(16,iv ((eaS h s g).map zch).length)],.row v.v 2 34 (((prK h s g k)).map zjo):: .box b3 28 (x5 h):: [],[]⟩) ⟨none,0,0⟩ (v6 (zaj 2 34) es) ?_
 intro k v lk
 refine rn ?_;refine z7 rfl (fun hc18=> ?_) (fun hc18=> ?_)
 ·have hk:=zao hc18
  have rk:=zad (f:=zch) hk
  refine rn ?_;refine z8 rfl (y7 rfl fun b9=> ?_)
  first|refine z8 rfl (zai rfl rfl rfl ?_)|refine z8 rfl (zba rfl rfl rfl rfl (Nat.le_of_ble_eq_true rfl) ?_)
  refine u4 (j9 ?_)
  refine x6 (y5 ?_)
  refine q1 ?_;refine q1 ?_;refine q1 ?_;refine q1 ?_;refine qq rfl rfl (zc9 (out:= [iv (eaS h s g)[k].e,iv (eaS h s g)[k].l]) rfl (by rfl)) ?_
  refine z8 rfl (y7 rfl fun b10=> ?_)
  refine rn0 ?_;refine x6 (y5 ?_)
  refine rn0 ?_;refine x6 ?_;obtain ⟨z,hz0⟩:∃z,(prK h s g k).getD ((prK h s g k).length - 1) (0,0)=z:=⟨_,rfl⟩
  obtain ⟨pb,hpb⟩:∃pb,prB (eaS h s g)[k]=pb:=⟨_,rfl⟩
  have hpk:=yjt h s g k
  have hpl:(((prK h s g k)).map zjo).length=((prK h s g k)).length:=List.length_map ..
  refine j3 9 rfl ?_
  refine rn ?_;refine zd7 (fun hg7_2=> ?_) (fun hg7_2=> ?_)
  ·skip
   refine rn ?_;refine zdb rfl ?_;have hw:(prK h s g (k+1))=(prK h s g k)++ [prB (eaS h s g)[k]]:=by
    first|exact ynl hk (ynm hg7_2)|exact ynk hk (yef hg7_2 hz0) (by rw [←zl3];exact zo0 hc38)
   refine rn ?_;refine qv rfl rfl (q8 rfl rfl) ?_
   refine z8 rfl (j5 rfl rfl (by simp only [List.length_map,List.length_cons,List.length_nil];omega) rfl (fun s42=> ?_) (fun r hr=>by rw [List.mem_singleton.1 hr];rfl))
   refine zaf s42 fun sv hsv=> ?_
   subst hsv
   refine rn ?_;exact ⟨hk,sv,by rw [hw,List.map_append];exact eA⟩
  ·skip
   refine dq rfl rfl qrA ?_;refine dq rfl rfl qrA ?_;refine dq rfl rfl (zbl (k7 rfl rfl rfl (by omega)) (show iv _=iv (((prK h s g k).length - 1:Nat):Int) from congrArg iv (by have h1:=yjv hg7_2;rw [List.length_map];omega))) ?_
   refine dq rfl rfl (v8 (k:=(prK h s g k).length - 1) rfl rfl (by have h1:=yjv hg7_2;rw [List.length_map];omega)) ?_
   refine dq rfl rfl (u6 (row:=zjo z) rfl (zb6 (yef hg7_2 hz0)) rfl) ?_
   refine rn2 ?_;refine qq rfl rfl (zk2 rfl rfl rfl rfl) ?_
   refine rn ?_;refine z7 rfl (fun hc38=> ?_) (fun hc38=> ?_)
   ·have hw:(prK h s g (k+1))=(prK h s g k)++ [prB (eaS h s g)[k]]:=by
     first|exact ynl hk (ynm hg7_2)|exact ynk hk (yef hg7_2 hz0) (by rw [←zl3];exact zo0 hc38)
    refine rn ?_;refine qv rfl rfl (q8 rfl rfl) ?_
    refine z8 rfl (j5 rfl rfl (by simp only [List.length_map,List.length_cons,List.length_nil];omega) rfl (fun s42=> ?_) (fun r hr=>by rw [List.mem_singleton.1 hr];rfl))
    refine zaf s42 fun sv hsv=> ?_
    subst hsv
    refine rn ?_;exact ⟨hk,sv,by rw [hw,List.map_append];exact eA⟩
   ·have hw:(prK h s g (k+1))=(prK h s g k):=yqz hk (yef hg7_2 hz0) (by rw [←zl3];exact zq1 hc38)
    refine rn ?_;exact ⟨hk,v,by rw [hw];exact eA⟩
 ·have qk:=zap hc18 lk
  refine rn ?_;exact u7 rfl (.trans (.perm (pt1 _ _ _) _) (.drop [_] _ _)) ⟨v,by rw [qk,prK,List.take_length],rfl⟩
theorem zwu (h:Hist) (la:Lim 3000 h) (hc:j8 h=0) (hE:h.evs.length≤70) (s g:Int):x4 Tryz.prog 19 [.agg (x5 h),iv s,iv g] [] (fun r h'=>h'= []∧r=zox (zer yg6 ((eaS h s g).map prB))):=(zsz h la hc hE s g).ventR (by rintro _ _ ⟨v,rfl,rfl⟩;exact ⟨_,_,zc7,rfl,rfl⟩)
theorem zwt (h:Hist) (s:Int):x4 Tryz.prog 17 [.agg (x5 h),iv s] [] (fun r h'=>h'= []∧r=bv (isB s h.ss.length)):=by
 refine z6 Tryz.func17 rfl rfl rfl ?_
 refine rn ?_;refine z8 rfl (x9 rfl rfl rfl fun b2=> ?_)
 refine rn ?_;refine qv rfl rfl (y4 rfl rfl (v7 (zhq _ _) (Sbs.refl _))) ?_
 refine rn ?_;refine rq 1 ?_
 exact ⟨rfl,by rw [List.length_map];rfl⟩
def nmR (n:NV) (h:Hist) (L:List Res):List Res:= .row n.vT.v 1 9 (h.ts.map ze0):: .row n.vS.v 1 9 (h.ss.map ze0):: .row n.vO.v 1 9 (h.os.map ze0):: .row n.vP.v 1 9 (h.ps.map ze0)::L
theorem zxe (l:List Ev):(l.map evR).take (min (l.map evR).length 60)=(l.take 60).map evR:=by
 rw [List.length_map,←List.map_take,Nat.min_comm,←List.take_take,List.take_length]
def zrq (e:Ev):List AV:= [iv e.kind,iv e.t,iv e.s,iv e.l,iv e.o,iv e.v.t,iv e.v.k,iv e.p,.v (.slice none 0 0)]
theorem yla {α:Type} [DecidableEq α] {l m:List α} {k:Nat} (h1:k < l.length) (h2:k < m.length) (h:l.take k=m.take k) (e:l[k]=m[k]):l.take (k+1)=m.take (k+1):=by
 rw [List.take_succ_eq_append_getElem h1,List.take_succ_eq_append_getElem h2,h,e]
theorem yq4 {α:Type} {l m:List α} {k:Nat} (h1:k < l.length) (h2:k < m.length) (e:l[k]≠m[k]):l≠m:=fun q=>e (by subst q;rfl)
set_option maxHeartbeats 4000000 in
theorem ynn (h:Hist) (la:Big h):x4 Tryz.prog 13 [.agg (x5 h)] [] (fun r h'=>∃(sE sO:SV) (O:List (SV×H.Ord)),O.map (·.2)=h.ords∧h'= .row sE.v 9 66 ((h.evs.take 60).map evR):: .row sO.v 2 99 (O.map zxh)::otR 3 O∧r= .agg [zcz h.ts,zcz h.ss,zcz h.os,zcz h.ps,.v sE.v,.v sO.v,zo4 h.mats,zsh h.wants]):=by
 refine z6 Tryz.func13 rfl rfl rfl ?_
 refine rn ?_;refine z8 rfl (x9 rfl rfl rfl fun b1=> ?_)
 refine z8 rfl (y7 rfl fun b2=> ?_)
 refine rn ?_;refine zwa 12 rfl ?_
 refine mq rfl rfl qrA ?_;refine mq rfl rfl qrA ?_;refine mq rfl rfl qrA ?_;refine mq rfl rfl qrA ?_;refine mq rfl rfl qrA ?_;refine mq rfl rfl (yjo (h.evs.map evR).length 60 rfl rfl) ?_
 refine mq rfl rfl (zs4 (rows':=(h.evs.take 60).map evR) rfl rfl (Nat.min_le_left _ _) (zxe h.evs)) ?_
 refine ykc (yl6 9 66 ((h.evs.take 60).map evR)) rfl rfl rfl (zz3 (y3.of_fun (zxs _ (by rw [List.length_map,List.length_take];omega) (ygt _)))) ?_
 refine rn ?_;refine ykc (yl6 2 99 (h.ords.map zdg)) rfl rfl rfl (zz3 (y3.of_fun (zr1 _ (by rw [List.length_map];have:=la.ords;omega) (yj0 _)))) ?_
 refine rn ?_;refine yr3 ⟨.refl _,?_⟩
 refine rn ?_;refine ztj fun s11=> ?_
 refine rn ?_;refine ztj fun s14=> ?_
 refine rn0 ?_;refine x6 ?_;refine x6 ?_;refine zgl (za0 ((pt2 _ _ _ _).trans (.cons _ ((pt2 _ _ _ _).trans (.cons _ (pt1 _ _ _)))))) ?_
 refine rn ?_;refine u9 (fun x:Nat×List (SV×H.Ord)=>x.1≤h.ords.length∧x.2.map (·.2)=h.ords.take x.1) (fun x=>⟨[(20,iv x.1),(19,iv (h.ords.map zdg).length),(1,pZ b1),(2,pZ b2)],.box b2 28 ykw:: .box b1 28 [zcz h.ts,zcz h.ss,zcz h.os,zcz h.ps,.v s11.v,.v s14.v,zo4 h.mats,zsh h.wants]:: .row s11.v 9 66 ((h.evs.take 60).map evR):: .row s14.v 2 99 (x.2.map zxh++(h.ords.drop x.1).map zdg)::otR 3 x.2,[]⟩) (fun x=>h.ords.length - x.1) (0,[]) ⟨by omega,rfl⟩
  (w7 (.cons _ _ _ rfl (.cons _ _ _ rfl (.cons _ _ _ rfl (.cons _ _ _ rfl (.nil)))))) ?_
 rintro ⟨k,x⟩ ⟨hk,hx⟩
 simp only at hk hx
 have hxl:=yeq hx hk
 refine rn ?_;refine z7 rfl (fun hc21=> ?_) (fun hc21=> ?_)
 ·have hk2:k < h.ords.length:=by have q:=of_decide_eq_true hc21;rw [List.length_map] at q;omega
  obtain ⟨e,he⟩:∃e,e=h.ords[k]:=⟨_,rfl⟩
  have hd:=List.drop_eq_getElem_cons hk2
  rw [←he] at hd
  have hrow:(x.map zxh++(h.ords.drop k).map zdg)[k]? =some (zdg e):=yka hxl hd
  have hmem:e∈h.ords:=by rw [he];exact List.getElem_mem hk2
  have hle:=la.lim.ords
  have hk3:k < (x.map zxh++(h.ords.drop k).map zdg).length:=by rw [yj9 hxl hk];exact hk2
  refine rn ?_;refine zwa 10 rfl ?_
  refine mq rfl rfl qrA ?_;refine mq rfl rfl qrA ?_;refine mq rfl rfl qrA ?_;refine mq rfl rfl qrA ?_;refine mq rfl rfl qrA ?_;refine mq rfl rfl qrA ?_;refine mq rfl rfl (v8 rfl rfl hk3) ?_
  refine mq rfl rfl qrA ?_;refine mq rfl rfl (zhy rfl hrow rfl) ?_
  refine ykc (yl6 1 3 (e.ts.map zal)) rfl rfl rfl (zz3 (y3.of_fun (zki _ (by rw [List.length_map];have:=(la.ordts e hmem);omega) (zjq _)))) ?_
  refine yr3 ⟨.refl _,?_⟩
  refine rn ?_;refine ztj fun s32=> ?_
  refine rn2 ?_;refine qq rfl rfl (v8 rfl rfl hk3) ?_
  refine rn ?_;refine z8 rfl (zby rfl rfl rfl hrow rfl (Nat.le_of_ble_eq_true rfl) ?_)
  refine rn ?_;have hset:=yj8 (f:=zxh) (g:=zdg) (a:=(s32,e)) (r:=(zdg e).take 1++ [.v s32.v]++(zdg e).drop (1+1)) hxl hd rfl
  have htl:otR 3 (x++ [(s32,e)])=otR 3 x++ [.row s32.v 1 3 (e.ts.map zal)]:=by simp [otR]
  exact ⟨(k+1,x++ [(s32,e)]),⟨by omega,yep hx hk2 he⟩,by simp only [htl];exact v6 (za0 (zep [_] _)) (by rw [←hset];exact (w7 (.cons _ _ _ rfl (.cons _ _ _ rfl (.cons _ _ _ rfl (.cons _ _ _ rfl (.nil))))))),by simp only;omega⟩
 ·obtain rfl:k=h.ords.length:=by
   have q:=of_decide_eq_false hc21
   rw [List.length_map] at q
   omega
  rw [List.take_length] at hx
  rw [List.drop_length,List.map_nil,List.append_nil]
  refine rn ?_;exact zgj (.cons _ _ _ _ (.agg _ _ _ _ _ _ _ rfl inferInstance inferInstance inferInstance rfl) .nil) (.drop [_,_] _ _) ⟨s11,s14,x,hx,rfl,rfl⟩
theorem yjx (h:Hist) (la:Big h):x4 Tryz.prog 13 [.agg (x5 h)] [] (fun r h'=>h'= []∧r= .agg (x5 (zax h))):=
 (ynn h la).ventR (by
  rintro _ _ ⟨sE,sO,O,hO,rfl,rfl⟩
  exact ⟨_,_,zxf [] sE.v sO.v (zax h) O 66 99 3 _ hO (by simp [zax]) (by simp) (fun r hr=>by simp [hr]),rfl,rfl⟩)
theorem ylb {a b:Nat} (h:((a:Int) !=(b:Int))=false):a=b:=Int.ofNat.inj (by simpa using h)
theorem zv0 {f g:Bool} (l m:List (Int×Int)) (hl:l.length≤4611686018427387904) (hm:m.length≤4611686018427387904):x4 Tryz.prog 21 [.list f 2 (l.map zjo),.list g 2 (m.map zjo)] [] (fun r h'=>h'= []∧r=bv (decide (l=m))):=by
 refine z6 Tryz.func21 rfl rfl rfl ?_
 refine rn ?_;refine z7 rfl (fun hc10=> ?_) (fun hc10=> ?_)
 ·have hne:l.length≠m.length:=by have w:=hc10;intro e;rw [List.length_map,List.length_map,e] at w;simp at w
  refine rn ?_;refine rq 0 ?_
  exact ⟨rfl,by rw [decide_eq_false (fun e=>hne (by rw [e]))];rfl⟩
 ·have hlm:l.length=m.length:=by have w:=hc10;rw [List.length_map,List.length_map] at w;exact ylb w
  refine rn ?_;refine zci (l.length) (fun k:Nat=>l.take k=m.take k) (fun k=> [(13,iv k)]) [(0,_),(1,_),(12,_)] rfl ?_
  intro k lk zk
  refine rn ?_;refine z7 rfl (fun hc14=> ?_) (fun hc14=> ?_)
  ·have hk:=zao hc14
   have rk:=zad (f:=zjo) hk
   have hk2:k < m.length:=by omega
   have rk2:=zad (f:=zjo) hk2
   refine rn ?_;refine j3 8 rfl ?_
   refine dq rfl rfl qrA ?_;refine dq rfl rfl qrA ?_;refine dq rfl rfl (zcl rfl rfl rk) ?_
   refine dq rfl rfl qrA ?_;refine dq rfl rfl qrA ?_;refine dq rfl rfl qrA ?_;refine dq rfl rfl (zcl rfl rfl rk2) ?_
   refine rn2 ?_;refine qq rfl rfl (zk2 rfl rfl rfl rfl) ?_
   refine rn ?_;refine z7 rfl (fun hc24=> ?_) (fun hc24=> ?_)
   ·have hne:l[k]≠m[k]:=fun e=>by have w:=zo0 hc24;rw [zl3,e] at w;simp at w
    refine rn ?_;refine rq 0 ?_
    exact ⟨rfl,by rw [decide_eq_false (yq4 hk hk2 hne)];rfl⟩
   ·have heq:l[k]=m[k]:=by have w:=zq1 hc24;rw [zl3] at w;simpa using w
    refine rn ?_;exact ⟨hk,yla hk hk2 zk heq,eA⟩
  ·have qk:=zap hc14 lk
   refine rn ?_;refine rq 0 ?_
   exact ⟨rfl,by rw [decide_eq_true (by have w:=zk;rw [qk,List.take_length,hlm,List.take_length] at w;exact w)];rfl⟩
set_option maxHeartbeats 4000000 in
theorem zk0 (s:SV) (l es:List Ev) (t:Int) (b1:Nat) (hl:l.length≤1000) (he:es.length≤1000):x4 Tryz.prog 105 [iv t,.list true 9 (es.map zrq),pZ b1] [.row s.v 9 66 ((l).map zrq),.box b1 28 [.list true 1 [[sv (wT 48)],[sv (wT 49)],[sv (wT 50)],[sv (wT 51)]],.list true 1 [[sv zkk]],.list true 1 [[sv bxx]],.v (.slice none 0 0),.v s.v,.v (.slice none 0 0),.v (.slice none 0 0),.v (.slice none 0 0)]] (fun r h'=>∃s':SV,h'= [.row s'.v 9 66 ((dsE l t es).map zrq),.box b1 28 [.list true 1 [[sv (wT 48)],[sv (wT 49)],[sv (wT 50)],[sv (wT 51)]],.list true 1 [[sv zkk]],.list true 1 [[sv bxx]],.v (.slice none 0 0),.v s'.v,.v (.slice none 0 0),.v (.slice none 0 0),.v (.slice none 0 0)]]∧r= .tup []):=by
 refine z6 Tryz.func105 rfl rfl rfl ?_
 refine x6 (y5 ?_)
 refine q1 ?_;refine q1 ?_;refine q1 ?_;refine qq rfl rfl (zae (out:=zrq (yrn t)) rfl (by rfl)) ?_
 refine qv rfl rfl (q8 rfl rfl) ?_
 refine z8 rfl (j5 rfl rfl (by simp only [List.length_map,List.length_append,List.length_cons,List.length_nil,List.length_take];omega) rfl (fun s12=> ?_) (fun r hr=>by rw [List.mem_singleton.1 hr];rfl))
 refine zaf s12 fun sw hsw=> ?_
 subst hsw
 refine rn ?_;refine zee es.length (fun k s=>⟨[(16,iv k),(0,iv t),(2,pZ b1),(14,.list true 9 (es.map zrq)),(15,iv (es.map zrq).length)],.row s.v 9 66 ((l++ [yrn t]++(es.take k).map (ymo t)).map zrq):: .box b1 28 [.list true 1 [[sv (wT 48)],[sv (wT 49)],[sv (wT 50)],[sv (wT 51)]],.list true 1 [[sv zkk]],.list true 1 [[sv bxx]],.v (.slice none 0 0),.v s.v,.v (.slice none 0 0),.v (.slice none 0 0),.v (.slice none 0 0)]:: [],[]⟩) sw (by simp only [List.take_zero,List.map_nil,List.append_nil,List.map_append];exact Go.Ab.es) ?_
 intro k s lk
 refine rn ?_;refine z7 rfl (fun hc17=> ?_) (fun hc17=> ?_)
 ·have hk:=zao hc17
  have rk:=zad (f:=zrq) hk
  refine rn ?_;refine z8 rfl (y7 rfl fun b6=> ?_)
  refine rn ?_;refine qv rfl rfl (q8 rfl rfl) ?_
  refine z8 rfl (j5 rfl rfl (by simp only [List.length_map,List.length_append,List.length_cons,List.length_nil,List.length_take];omega) rfl (fun s26=> ?_) (fun r hr=>by rw [List.mem_singleton.1 hr];rfl))
  refine zaf s26 fun sw hsw=> ?_
  subst hsw
  refine rn ?_;exact ⟨hk,sw,by rw [List.take_succ_eq_append_getElem hk];simp only [List.map_append,←List.append_assoc];exact eA⟩
 ·have qk:=zap hc17 lk
  refine zhb ?_;refine zgs ?_;refine zgs ?_;refine zdr ?_;refine j9 ?_;refine y5 ?_;refine q1 ?_;refine q1 ?_;refine q1 ?_;refine qq rfl rfl (zae (out:=zrq (yr5 t)) rfl (by rfl)) ?_
  refine qv rfl rfl (q8 rfl rfl) ?_
  refine z8 rfl (j5 rfl rfl (by simp only [List.length_map,List.length_append,List.length_cons,List.length_nil,List.length_take];omega) rfl (fun s34=> ?_) (fun r hr=>by rw [List.mem_singleton.1 hr];rfl))
  refine zaf s34 fun sw hsw=> ?_
  subst hsw
  refine rn ?_;refine ygo ?_;exact ⟨sw,by rw [dsE];rw [qk,List.take_length];simp only [List.map_append];rfl,rfl⟩
set_option maxHeartbeats 8000000 in
theorem ydl  :x4 Tryz.prog 52 [] [] (fun r h'=>∃s:SV,h'= [.row s.v 9 66 ((seE).map zrq)]∧r= .agg [.list true 1 [[sv (wT 48)],[sv (wT 49)],[sv (wT 50)],[sv (wT 51)]],.list true 1 [[sv zkk]],.list true 1 [[sv bxx]],.v (.slice none 0 0),.v s.v,.list true 2 [[iv 0,.list true 1 [[iv 3],[iv 0]]]],.v (.slice none 0 0),.v (.slice none 0 0)]):=by
 refine z6 Tryz.func52 rfl rfl rfl ?_
 refine rn ?_;refine z8 rfl (y7 rfl fun b0=> ?_)
 refine rn ?_;refine qv rfl rfl (q8 rfl rfl) ?_
 refine qv rfl rfl (q8 rfl rfl) ?_
 refine qv rfl rfl (q8 rfl rfl) ?_
 refine rn ?_;refine z8 rfl (y7 rfl fun b1=> ?_)
 refine rn0 ?_;refine x6 (y5 ?_)
 refine rn0 ?_;refine x6 ?_;refine zgl (s':=⟨[(0,pZ b0),(1,pZ b1),(2,.fn (.func 105) [] [pZ b1])],.row (⟨none,0,0⟩:SV).v 9 66 ((([]:List Ev)).map zrq):: .box b1 28 [.list true 1 [[sv (wT 48)],[sv (wT 49)],[sv (wT 50)],[sv (wT 51)]],.list true 1 [[sv zkk]],.list true 1 [[sv bxx]],.v (.slice none 0 0),.v (⟨none,0,0⟩:SV).v,.v (.slice none 0 0),.v (.slice none 0 0),.v (.slice none 0 0)]:: .box b0 28 ykw:: [],[]⟩) (v6 (zaj 9 66) es) ?_
 refine y5 ?_;refine q1 ?_;refine qq rfl rfl (zae (out:= [iv 0,iv 1]) rfl (by rfl)) ?_
 refine qq rfl rfl (zae (out:=zrq (seW 0 1)) rfl (by rfl)) ?_
 refine qv rfl rfl (q8 rfl rfl) ?_
 refine z8 rfl (w8 rfl rfl (y3.fr (y3.of_acall (fs:= []) (cs:= [pZ b1]) (zk0 ⟨none,0,0⟩ (([]:List Ev)) [seW 0 1] 0 b1 (by decide) (by decide))) (.refl _)) rfl ?_)
 rintro _ _ ⟨_,rfl,s1,rfl,rfl⟩
 refine u4 (j9 ?_)
 refine x6 (y5 ?_)
 refine q1 ?_;refine qq rfl rfl (zae (out:=zrq (seR 0 0)) rfl (by rfl)) ?_
 refine qv rfl rfl (q8 rfl rfl) ?_
 refine z8 rfl (w8 rfl rfl (y3.fr (y3.of_acall (fs:= []) (cs:= [pZ b1]) (zk0 s1 (dsE [] 0 [seW 0 1]) [seR 0 0] 1 b1 (by decide) (by decide))) (.refl _)) rfl ?_)
 rintro _ _ ⟨_,rfl,s2,rfl,rfl⟩
 refine u4 (j9 ?_)
 refine x6 (y5 ?_)
 refine q1 ?_;refine qq rfl rfl (zae (out:= [iv 0,iv 1]) rfl (by rfl)) ?_
 refine qq rfl rfl (zae (out:=zrq (seR 0 1)) rfl (by rfl)) ?_
 refine qv rfl rfl (q8 rfl rfl) ?_
 refine z8 rfl (w8 rfl rfl (y3.fr (y3.of_acall (fs:= []) (cs:= [pZ b1]) (zk0 s2 (dsE (dsE [] 0 [seW 0 1]) 1 [seR 0 0]) [seR 0 1] 2 b1 (by decide) (by decide))) (.refl _)) rfl ?_)
 rintro _ _ ⟨_,rfl,s3,rfl,rfl⟩
 refine u4 (j9 ?_)
 refine x6 (y5 ?_)
 refine q1 ?_;refine qq rfl rfl (zae (out:=zrq (seR 0 0)) rfl (by rfl)) ?_
 refine qq rfl rfl (zae (out:= [iv 3,iv 1]) rfl (by rfl)) ?_
 refine qq rfl rfl (zae (out:=zrq (seW 3 1)) rfl (by rfl)) ?_
 refine qv rfl rfl (q8 rfl rfl) ?_
 refine z8 rfl (w8 rfl rfl (y3.fr (y3.of_acall (fs:= []) (cs:= [pZ b1]) (zk0 s3 (dsE (dsE (dsE [] 0 [seW 0 1]) 1 [seR 0 0]) 2 [seR 0 1]) [seR 0 0,seW 3 1] 3 b1 (by decide) (by decide))) (.refl _)) rfl ?_)
 rintro _ _ ⟨_,rfl,s4,rfl,rfl⟩
 refine rn0 ?_;refine x6 ?_;show aw _ _ _ _ _ ⟨_,.row s4.v 9 66 ((seE).map zrq):: .box b1 28 [.list true 1 [[sv (wT 48)],[sv (wT 49)],[sv (wT 50)],[sv (wT 51)]],.list true 1 [[sv zkk]],.list true 1 [[sv bxx]],.v (.slice none 0 0),.v s4.v,.v (.slice none 0 0),.v (.slice none 0 0),.v (.slice none 0 0)]:: .box b0 28 ykw:: [],_⟩
 refine rn ?_;refine qv rfl rfl (q8 rfl rfl) ?_
 refine qq rfl rfl (zae (out:= [iv 0,.list true 1 [[iv 3],[iv 0]]]) rfl (by rfl)) ?_
 refine qv rfl rfl (q8 rfl rfl) ?_
 refine rn ?_;exact zgj (.cons _ _ _ _ (.agg _ _ _ _ _ _ _ rfl inferInstance inferInstance inferInstance rfl) .nil) (.trans (.perm ((pt1 _ _ _).trans (.cons _ (pt1 _ _ _))) _) (.drop [_,_] _ _)) ⟨s4,rfl,rfl⟩
theorem zom:x4 Tryz.prog 52 [] [] (fun r h'=>h'= []∧r= .agg (x5 seH)):=
 ydl.ventR (by
  rintro _ _ ⟨s,rfl,rfl⟩
  exact ⟨_,_,.trans (zb3 [.list true 1 [[sv (wT 48)],[sv (wT 49)],[sv (wT 50)],[sv (wT 51)]],.list true 1 [[sv zkk]],.list true 1 [[sv bxx]],.v (.slice none 0 0)] [.list true 2 [[iv 0,.list true 1 [[iv 3],[iv 0]]]],.v (.slice none 0 0),.v (.slice none 0 0)]) (.le (Sb.aggs (bs:=x5 seH) (by exact ⟨.unfull,.unfull,.unfull,.nil _ _,(.lists (by simp [seE,dsE]) ⟨⟨.refl _,.refl _,.refl _,.refl _,.refl _,.refl _,.refl _,.refl _,.nil _ _,trivial⟩,⟨.refl _,.refl _,.refl _,.refl _,.refl _,.refl _,.refl _,.refl _,.nil _ _,trivial⟩,⟨.refl _,.refl _,.refl _,.refl _,.refl _,.refl _,.refl _,.refl _,.nil _ _,trivial⟩,⟨.refl _,.refl _,.refl _,.refl _,.refl _,.refl _,.refl _,.refl _,.nil _ _,trivial⟩,⟨.refl _,.refl _,.refl _,.refl _,.refl _,.refl _,.refl _,.refl _,.nil _ _,trivial⟩,⟨.refl _,.refl _,.refl _,.refl _,.refl _,.refl _,.refl _,.refl _,.nil _ _,trivial⟩,⟨.refl _,.refl _,.refl _,.refl _,.refl _,.refl _,.refl _,.refl _,.nil _ _,trivial⟩,⟨.refl _,.refl _,.refl _,.refl _,.refl _,.refl _,.refl _,.refl _,.nil _ _,trivial⟩,⟨.refl _,.refl _,.refl _,.refl _,.refl _,.refl _,.refl _,.refl _,.nil _ _,trivial⟩,⟨.refl _,.refl _,.refl _,.refl _,.refl _,.refl _,.refl _,.refl _,.nil _ _,trivial⟩,⟨.refl _,.refl _,.refl _,.refl _,.refl _,.refl _,.refl _,.refl _,.nil _ _,trivial⟩,⟨.refl _,.refl _,.refl _,.refl _,.refl _,.refl _,.refl _,.refl _,.nil _ _,trivial⟩,⟨.refl _,.refl _,.refl _,.refl _,.refl _,.refl _,.refl _,.refl _,.nil _ _,trivial⟩,trivial⟩),(.lists (by simp) ⟨⟨.refl _,.unfull,trivial⟩,trivial⟩),.nil _ _,.nil _ _,trivial⟩)).le),rfl,rfl⟩)
theorem ye4:Lim 4611686018427387904 seH:=⟨by decide,by decide,by decide,by decide,by decide,by decide,by decide,by decide,by decide,by decide,by decide⟩
theorem zoo:zdh seH 0=0:=zxw zu6 (by decide)
theorem zu5:zdh seH 1=2:=zxx zu6 (by decide)
theorem zu7 (g:Int) (hg:¬zpe g < 0):zgh seH 0 g=0:=(zii zoo hg).1
theorem ysm:seB seH 0 2= [⟨2,2,3,0,7,10⟩]:=by rw [zwn (k:=1) (zu7 2 (by decide)) (by decide)];decide+kernel
theorem ysk:(seB seH 0 1).map prB= [(0,1),(0,3)]:=by rw [zwn (k:=0) (zu7 1 (by decide)) (by decide)];decide+kernel
theorem ysl:haO seH 0=0:=by rw [haO,if_pos zoo];decide+kernel
theorem yms:zgh seH 1 2=2:=by rw [(zij (g:=2) (show zdh seH 1≠0 by rw [zu5];decide)).1,zu5]
theorem sA1:x4 Tryz.prog 15 [.agg (x5 seH),iv 0,iv 2] (.glob 0 117 w9:: .glob 3 148 x7:: .glob 5 276 x8:: .glob 6 279 x3:: .glob 2 197 j4:: []) (fun r h'=>h'= .glob 0 117 w9:: .glob 3 148 x7:: .glob 5 276 x8:: .glob 6 279 x3:: .glob 2 197 j4:: []∧r= .tup [.agg (zch ⟨2,2,3,0,7,10⟩),bv true,iv 0]):=(zon seH ye4 0 2).mono fun _ _ q=>⟨q.1,by rw [q.2,ysm,zu7 2 (by decide)];rfl⟩
theorem sA2:x4 Tryz.prog 16 [.agg (x5 seH),iv 0,iv 1] (.glob 0 117 w9:: .glob 3 148 x7:: .glob 5 276 x8:: .glob 6 279 x3:: .glob 2 197 j4:: []) (fun r h'=>h'= .glob 0 117 w9:: .glob 3 148 x7:: .glob 5 276 x8:: .glob 6 279 x3:: .glob 2 197 j4:: []∧r= .tup [zox [(0,1),(0,3)],iv 0]):=(zu3 seH ye4 0 1).mono fun _ _ q=>⟨q.1,by rw [q.2,ysk,zu7 1 (by decide)]⟩
theorem sA3:x4 Tryz.prog 24 [.agg (x5 seH),iv 0] (.glob 0 117 w9:: .glob 3 148 x7:: .glob 5 276 x8:: .glob 6 279 x3:: .glob 2 197 j4:: []) (fun r h'=>h'= .glob 0 117 w9:: .glob 3 148 x7:: .glob 5 276 x8:: .glob 6 279 x3:: .glob 2 197 j4:: []∧r= .tup [iv 0,iv 0]):=(ymr seH ye4 0).mono fun _ _ q=>⟨q.1,by rw [q.2,ysl,zoo]⟩
theorem sA4:x4 Tryz.prog 15 [.agg (x5 seH),iv 1,iv 2] (.glob 0 117 w9:: .glob 3 148 x7:: .glob 5 276 x8:: .glob 6 279 x3:: .glob 2 197 j4:: []) (fun r h'=>h'= .glob 0 117 w9:: .glob 3 148 x7:: .glob 5 276 x8:: .glob 6 279 x3:: .glob 2 197 j4:: []∧r= .tup [.agg (zch br0),bv false,iv 2]):=(zon seH ye4 1 2).mono fun _ _ q=>⟨q.1,by rw [q.2,zyy (by rw [yms];decide),yms];rfl⟩
theorem sEq {f g:Bool}:x4 Tryz.prog 21 [.list f 2 ([(0,1),(0,3)].map zjo),.list g 2 ([(0,1),(0,3)].map zjo)] [] (fun r h'=>h'= []∧r=bv true):=(zv0 [(0,1),(0,3)] [(0,1),(0,3)] (by decide) (by decide)).mono fun _ _ q=>⟨q.1,by rw [q.2,decide_eq_true rfl]⟩
set_option maxHeartbeats 4000000 in
theorem yh4  :x4 Tryz.prog 12 [] (.glob 0 117 w9:: .glob 3 148 x7:: .glob 5 276 x8:: .glob 6 279 x3:: .glob 2 197 j4:: []) (fun r h'=>h'= .glob 0 117 w9:: .glob 3 148 x7:: .glob 5 276 x8:: .glob 6 279 x3:: .glob 2 197 j4:: []∧r=bv true):=by
 refine z6 Tryz.func12 rfl rfl rfl ?_
 refine rn ?_;refine qv rfl rfl (y4 rfl rfl (y3.pure (R:=fun r=>r= .agg (x5 seH)) (y3.of_fun zom))) ?_
 refine qv rfl rfl (y4 rfl rfl (y3.qt (y3.of_fun sA1) (.refl _))) ?_
 refine rn ?_;refine z8 rfl (y7 rfl fun b1=> ?_)
 refine rn ?_;refine qv rfl rfl (y4 rfl rfl (y3.pure (R:=fun r=>r= .agg (x5 seH)) (y3.of_fun zom))) ?_
 refine qv rfl rfl (y4 rfl rfl (y3.qt (y3.of_fun sA2) ((pt1 _ _ _).trans (.cons _ ((pt1 _ _ _).trans (.cons _ ((pt1 _ _ _).trans (.cons _ ((pt1 _ _ _).trans (.cons _ (pt1 _ _ _))))))))))) ?_
 refine rn ?_;refine qv rfl rfl (y4 rfl rfl (y3.pure (R:=fun r=>r= .agg (x5 seH)) (y3.of_fun zom))) ?_
 refine qv rfl rfl (y4 rfl rfl (y3.qt (y3.of_fun sA3) ((pt1 _ _ _).trans (.cons _ ((pt1 _ _ _).trans (.cons _ ((pt1 _ _ _).trans (.cons _ ((pt1 _ _ _).trans (.cons _ (pt1 _ _ _))))))))))) ?_
 refine rn ?_;refine qv rfl rfl (y4 rfl rfl (y3.pure (R:=fun r=>r= .agg (x5 seH)) (y3.of_fun zom))) ?_
 refine qv rfl rfl (y4 rfl rfl (y3.qt (y3.of_fun sA4) ((pt1 _ _ _).trans (.cons _ ((pt1 _ _ _).trans (.cons _ ((pt1 _ _ _).trans (.cons _ ((pt1 _ _ _).trans (.cons _ (pt1 _ _ _))))))))))) ?_
 refine rn ?_;refine z8 rfl (y7 rfl fun b8=> ?_)
 first|refine z8 rfl (zai rfl rfl rfl ?_)|refine z8 rfl (zba rfl rfl rfl rfl (Nat.le_of_ble_eq_true rfl) ?_)
 refine q1 ?_;refine q1 ?_;refine u4 (j9 ?_)
 refine x6 (y5 ?_)
 refine q1 ?_;refine q1 ?_;refine q1 ?_;refine q1 ?_;refine q1 ?_;refine q1 ?_;refine q1 ?_;refine q1 ?_;refine q1 ?_;refine q1 ?_;refine q1 ?_;refine q1 ?_;refine q1 ?_;refine q1 ?_;refine q1 ?_;refine q1 ?_;refine q1 ?_;refine q1 ?_;refine q1 ?_;refine q1 ?_;refine q1 ?_;refine q1 ?_;refine q1 ?_;refine q1 ?_;refine q1 ?_;refine q1 ?_;refine q1 ?_;refine q1 ?_;refine q1 ?_;refine q1 ?_;refine q1 ?_;refine q1 ?_;refine q1 ?_;refine qq rfl rfl (zc9 (out:= [iv 0,iv 1]) rfl (by rfl)) ?_
 refine qq rfl rfl (zc9 (out:= [iv 0,iv 3]) rfl (by rfl)) ?_
 refine qv rfl rfl (q8 rfl rfl) ?_
 refine qv rfl rfl (y4 rfl rfl (y3.pure (R:=fun r=>r=bv true) (y3.of_fun sEq))) ?_
 refine rn ?_;refine rq 2 ?_
 exact ⟨rfl,rfl⟩
theorem yk2 (h:Hist) (t:Int) {k:Nat} (hk:k < 4):zds k (zt1 h t)=zp1 h.os.length (zpv h t (kdA (zh1 k))):=by
 rcases (by omega:k=0∨k=1∨k=2∨k=3) with rfl|rfl|rfl|rfl <;> rfl
theorem yim (h:Hist) (t:Int) {k:Nat} (hk:k < 4):zhf k (zt1 h t)=zp1 h.os.length (zpv h t (kdB (zh1 k))):=by
 rcases (by omega:k=0∨k=1∨k=2∨k=3) with rfl|rfl|rfl|rfl <;> rfl
theorem yln (h:Hist) (t1 t2:Int) {k:Nat} (hk:k < 4):zkm k (zt1 h t1) (zt1 h t2)=yfz h.os.length (zh1 k) t1 t2 (zpv h t1 (kdA (zh1 k))) (zpv h t2 (kdB (zh1 k))):=by
 rw [zkm,yk2 h t1 hk,yim h t2 hk];rfl
theorem yb2 (h:Hist) (s:Int) {k:Nat} (hk:k < 4):∀j,brW k (k9 h s) j=brL h.os.length (zh1 k) (ycu h s (zh1 k)) j
 |0=>rfl
 |j+1=>by
  rw [brW,brL,yb2 h s hk j,k9,ycu,List.getElem?_map,List.getElem?_map]
  cases (zaw h.evs s)[j]? with
  |none=>rfl
  |some t2=>
   simp only [Option.map_some]
   rw [←List.map_take,←List.map_take,List.filterMap_map,List.filterMap_map]
   congr 1
   refine zlg fun t1 _=> ?_
   simp only [Function.comp,hdW]
   rw [yln h t1 t2 hk];rfl
theorem ylj (h:Hist) (s:Int) {k:Nat} (hk:k < 4):brW k (k9 h s) (k9 h s).length=brS h s (zh1 k):=by
 rw [yb2 h s hk,brS,k9,ycu,List.length_map,List.length_map]
theorem zsp {h:Hist} {s g:Int} (he:zgh h s g=0):seB h s g=brS h s g:=by
 obtain ⟨_,_,k,hk,_,eB,eG⟩:=zuc he
 rw [zwn he eG,ylj h s hk,eB]
theorem yav {n m:Int}:isB n m=true ↔ 0≤n∧n < m:=by unfold isB;simp
theorem yag {h:Hist} (hc:j8 h≠0) (s:Int):zdh h s=j8 h:=ylu hc
theorem yaf {h:Hist} (hc:j8 h=0) {s:Int} (hb:isB s h.ss.length=true):zdh h s=0:=zxw hc (yav.1 hb)
theorem yah {h:Hist} (hc:j8 h=0) {s:Int} (hb:isB s h.ss.length=false):zdh h s=2:=zxx hc fun q=>by rw [yav.2 q] at hb;cases hb
theorem yg4 {g:Int}:zpe g < 0 ↔ isG g=false:=by
 unfold zpe isG
 by_cases h1:g=1
 ·subst h1;decide
 by_cases h2:g=2
 ·subst h2;decide
 by_cases h3:g=4
 ·subst h3;decide
 by_cases h4:g=8
 ·subst h4;decide
 simp [h1,h2,h3,h4]
theorem yho {h:Hist} (hc:j8 h≠0) (s g:Int):zgh h s g=j8 h:=by
 rw [(zij (g:=g) (show zdh h s≠0 by rw [yag hc];exact hc)).1,yag hc]
theorem yhq {h:Hist} (hc:j8 h=0) {s:Int} (hb:isB s h.ss.length=false) (g:Int):zgh h s g=2:=by
 rw [(zij (g:=g) (show zdh h s≠0 by rw [yah hc hb];decide)).1,yah hc hb]
theorem yhp {h:Hist} (hc:j8 h=0) {s:Int} (hb:isB s h.ss.length=true) {g:Int} (hg:isG g=false):zgh h s g=2:=(zmu (yaf hc hb) (yg4.2 hg)).1
theorem ypp {h:Hist} (hc:j8 h=0) {s:Int} (hb:isB s h.ss.length=true) {g:Int} (hg:isG g=true):zgh h s g=0:=(zii (yaf hc hb) fun q=>by rw [yg4.1 q] at hg;cases hg).1
theorem zix {f g:Bool} (l m:List ByteArray) (hl:l.length≤4611686018427387904) (hm:m.length≤4611686018427387904):x4 Tryz.prog 62 [.list f 1 (l.map ze0),.list g 1 (m.map ze0)] [] (fun r h'=>h'= []∧r=bv (decide (l=m))):=
 (ydz l m hl hm).mono (fun r h' q=>⟨q.1,by rw [q.2,zg4 zup]⟩)
theorem zlz {f g:Bool} (l m:List Int) (hl:l.length≤4611686018427387904) (hm:m.length≤4611686018427387904):x4 Tryz.prog 64 [.list f 1 (l.map zal),.list g 1 (m.map zal)] [] (fun r h'=>h'= []∧r=bv (decide (l=m))):=
 (zwv l m hl hm).mono (fun r h' q=>⟨q.1,by rw [q.2,zg4 zpb]⟩)
theorem zzc (a b:Ev) (ha:a.scan.length≤4611686018427387904) (hb:b.scan.length≤4611686018427387904):x4 Tryz.prog 63 [.agg (evR a),.agg (evR b)] [] (fun r h'=>h'= []∧r=bv (decide (a=b))):=
 (ze3 a b ha hb).mono (fun r h' q=>⟨q.1,by rw [q.2,ztz]⟩)
theorem zcr {a b:Hist} (h:a≠b):zsr a b=false:=by
 cases q:zsr a b with
 |false=>rfl
 |true=>exact absurd ((zlw a b).1 q) h
theorem yiy {a b:Hist} (h:a=b):zsr a b=true:=(zlw a b).2 h
set_option maxHeartbeats 4000000 in
theorem yja (a b:Hist) (la:Lim 4611686018427387904 a) (lb:Lim 4611686018427387904 b):x4 Tryz.prog 22 [.agg (x5 a),.agg (x5 b)] [] (fun r h'=>h'= []∧r=bv (zsr a b)):=by
 refine z6 Tryz.func22 rfl rfl rfl ?_
 refine rn ?_;refine z8 rfl (x9 rfl rfl rfl fun b2=> ?_)
 refine z8 rfl (x9 rfl rfl rfl fun b3=> ?_)
 refine rn ?_;refine qv rfl rfl (y4 rfl rfl (v7 (zix a.ts b.ts la.ts lb.ts) (Sbs.refl _))) ?_
 refine rn ?_;refine y8 (fun hg1_6=> ?_) (fun hg1_6=> ?_)
 ·refine rn ?_;refine zdb rfl ?_;refine rn ?_;exact u7 rfl (.drop [_,_] _ _) ⟨rfl,congrArg bv (Eq.symm (zcr fun q=>by subst q;simp_all))⟩
 ·refine rn ?_;refine qv rfl rfl (y4 rfl rfl (v7 (zix a.ss b.ss la.ss lb.ss) (Sbs.refl _))) ?_
  refine rn ?_;refine y8 (fun hg1_14=> ?_) (fun hg1_14=> ?_)
  ·refine rn ?_;refine zdb rfl ?_;refine rn ?_;exact u7 rfl (.drop [_,_] _ _) ⟨rfl,congrArg bv (Eq.symm (zcr fun q=>by subst q;simp_all))⟩
  ·refine rn ?_;refine qv rfl rfl (y4 rfl rfl (v7 (zix a.os b.os la.os lb.os) (Sbs.refl _))) ?_
   refine rn ?_;refine y8 (fun hg1_22=> ?_) (fun hg1_22=> ?_)
   ·refine rn ?_;refine zdb rfl ?_;refine rn ?_;exact u7 rfl (.drop [_,_] _ _) ⟨rfl,congrArg bv (Eq.symm (zcr fun q=>by subst q;simp_all))⟩
   ·refine rn ?_;refine qv rfl rfl (y4 rfl rfl (v7 (zix a.ps b.ps la.ps lb.ps) (Sbs.refl _))) ?_
    refine rn ?_;refine y8 (fun hg1_30=> ?_) (fun hg1_30=> ?_)
    ·refine rn ?_;refine zdb rfl ?_;refine rn ?_;exact u7 rfl (.drop [_,_] _ _) ⟨rfl,congrArg bv (Eq.symm (zcr fun q=>by subst q;simp_all))⟩
    ·refine rn ?_;refine y8 (fun hg1_39=> ?_) (fun hg1_39=> ?_)
     ·refine rn ?_;refine zdb rfl ?_;refine rn ?_;exact u7 rfl (.drop [_,_] _ _) ⟨rfl,congrArg bv (Eq.symm (zcr fun q=>by subst q;simp_all))⟩
     ·refine rn ?_;refine y8 (fun hg1_48=> ?_) (fun hg1_48=> ?_)
      ·refine rn ?_;refine zdb rfl ?_;refine rn ?_;exact u7 rfl (.drop [_,_] _ _) ⟨rfl,congrArg bv (Eq.symm (zcr fun q=>by subst q;simp_all))⟩
      ·refine rn ?_;refine y8 (fun hg1_57=> ?_) (fun hg1_57=> ?_)
       ·refine rn ?_;refine zdb rfl ?_;refine rn ?_;exact u7 rfl (.drop [_,_] _ _) ⟨rfl,congrArg bv (Eq.symm (zcr fun q=>by subst q;simp_all))⟩
       ·refine rn ?_;refine z7 rfl (fun hc78=> ?_) (fun hc78=> ?_)
        ·refine rn ?_;exact u7 rfl (.drop [_,_] _ _) ⟨rfl,congrArg bv (Eq.symm (zcr fun q=>by subst q;simp_all))⟩
        ·have Ets:a.ts=b.ts:=by simp_all
         have Ess:a.ss=b.ss:=by simp_all
         have Eos:a.os=b.os:=by simp_all
         have Eps:a.ps=b.ps:=by simp_all
         have Levs:a.evs.length=b.evs.length:=by simp at *;omega
         have Lords:a.ords.length=b.ords.length:=by simp at *;omega
         have Lmats:a.mats.length=b.mats.length:=by simp at *;omega
         have Lwants:a.wants.length=b.wants.length:=by simp at *;omega
         refine rn ?_;refine u9 (fun k:Nat=>k≤a.evs.length∧a.evs.take k=b.evs.take k) (fun k=>⟨[(82,iv k),(81,iv (a.evs.map evR).length),(2,pZ b2),(3,pZ b3)],[.box b3 28 (x5 b),.box b2 28 (x5 a)],[]⟩) (fun k=>a.evs.length - k) 0 ⟨Nat.zero_le _,by simp⟩
          (w7 (.cons _ _ _ rfl (.cons _ _ _ rfl (.cons _ _ _ rfl (.cons _ _ _ rfl (.nil)))))) ?_
         rintro k ⟨hk,ht⟩
         refine rn ?_;refine z7 rfl (fun hc83=> ?_) (fun hc83=> ?_)
         ·have hbig:=la.evs
          have hk2:k < a.evs.length:=by simpa using hc83
          have hk3:k < b.evs.length:=by omega
          obtain ⟨x,hx0⟩:∃x,x=a.evs[k]:=⟨_,rfl⟩
          obtain ⟨y,hy0⟩:∃y,y=b.evs[k]:=⟨_,rfl⟩
          have hrow1:(a.evs.map evR)[k]? =some (evR x):=by rw [hx0];simp [hk2]
          have hrow2:(b.evs.map evR)[k]? =some (evR y):=by rw [hy0];simp [hk3]
          refine rn ?_;refine j3 10 rfl ?_
          refine rn ?_;refine qv rfl rfl (y4 rfl rfl (v7 (zzc x y (la.scans _ (by rw [hx0];exact List.getElem_mem _)) (lb.scans _ (by rw [hy0];exact List.getElem_mem _))) (Sbs.refl _))) ?_
          refine rn ?_;refine z7 rfl (fun hc96=> ?_) (fun hc96=> ?_)
          ·have hne:x≠y:=by clear hx0 hy0 hrow1 hrow2 ht;intro q;subst q;simp_all
           refine rn ?_;exact u7 rfl (.drop [_,_] _ _) ⟨rfl,congrArg bv (Eq.symm (zcr fun q=>by subst q;exact hne (hx0.trans hy0.symm)))⟩
          ·have hxy:x=y:=by simpa using hc96
           refine rn ?_;exact ⟨k+1,⟨by omega,by rw [List.take_succ_eq_append_getElem hk2,List.take_succ_eq_append_getElem hk3,ht,←hx0,←hy0,hxy]⟩,(w7 (.cons _ _ _ rfl (.cons _ _ _ rfl (.cons _ _ _ rfl (.cons _ _ _ rfl (.nil)))))),by omega⟩
         ·have hk2:¬k < a.evs.length:=by simpa using hc83
          have Eevs:a.evs=b.evs:=by
           have hk3:k=a.evs.length:=by omega
           rw [hk3,List.take_length] at ht
           rw [ht,Levs,List.take_length]
          clear ht hk
          refine rn ?_;refine u9 (fun k:Nat=>k≤a.ords.length∧a.ords.take k=b.ords.take k) (fun k=>⟨[(101,iv k),(100,iv (a.ords.map zdg).length),(99,zxg a.ords),(2,pZ b2),(3,pZ b3)],[.box b3 28 (x5 b),.box b2 28 (x5 a)],[]⟩) (fun k=>a.ords.length - k) 0 ⟨Nat.zero_le _,by simp⟩
           (w7 (.cons _ _ _ rfl (.cons _ _ _ rfl (.cons _ _ _ rfl (.cons _ _ _ rfl (.cons _ _ _ rfl (.nil))))))) ?_
          rintro k ⟨hk,ht⟩
          refine rn ?_;refine z7 rfl (fun hc102=> ?_) (fun hc102=> ?_)
          ·have hbig:=la.ords
           have hk2:k < a.ords.length:=by simpa using hc102
           have hk3:k < b.ords.length:=by omega
           obtain ⟨x,hx0⟩:∃x,x=a.ords[k]:=⟨_,rfl⟩
           obtain ⟨y,hy0⟩:∃y,y=b.ords[k]:=⟨_,rfl⟩
           have hrow1:(a.ords.map zdg)[k]? =some (zdg x):=by rw [hx0];simp [hk2]
           have hrow2:(b.ords.map zdg)[k]? =some (zdg y):=by rw [hy0];simp [hk3]
           refine rn ?_;refine z8 rfl (y7 rfl fun b7=> ?_)
           refine rn ?_;refine z8 rfl (y7 rfl fun b8=> ?_)
           refine rn ?_;refine y8 (fun hg13_5=> ?_) (fun hg13_5=> ?_)
           ·refine rn ?_;refine zdb rfl ?_;have hne:x≠y:=by clear hx0 hy0 hrow1 hrow2 ht;intro q;subst q;simp_all
            refine rn ?_;exact u7 rfl (.drop [_,_,_,_] _ _) ⟨rfl,congrArg bv (Eq.symm (zcr fun q=>by subst q;exact hne (hx0.trans hy0.symm)))⟩
           ·refine rn ?_;refine qv rfl rfl (y4 rfl rfl (v7 (zlz x.ts y.ts (la.ordts _ (by rw [hx0];exact List.getElem_mem _)) (lb.ordts _ (by rw [hy0];exact List.getElem_mem _))) (Sbs.refl _))) ?_
            refine rn ?_;refine z7 rfl (fun hc123=> ?_) (fun hc123=> ?_)
            ·have hne:x≠y:=by clear hx0 hy0 hrow1 hrow2 ht;intro q;subst q;simp_all
             refine rn ?_;exact u7 rfl (.drop [_,_,_,_] _ _) ⟨rfl,congrArg bv (Eq.symm (zcr fun q=>by subst q;exact hne (hx0.trans hy0.symm)))⟩
            ·have hxy:x=y:=by clear hx0 hy0 hrow1 hrow2 ht;cases x;cases y;simp_all
             refine rn ?_;exact ⟨k+1,⟨by omega,by rw [List.take_succ_eq_append_getElem hk2,List.take_succ_eq_append_getElem hk3,ht,←hx0,←hy0,hxy]⟩,(v6 (zco (h1:= [_,_])) (w7 (.cons _ _ _ rfl (.cons _ _ _ rfl (.cons _ _ _ rfl (.cons _ _ _ rfl (.cons _ _ _ rfl (.nil)))))))),by omega⟩
          ·have hk2:¬k < a.ords.length:=by simpa using hc102
           have Eords:a.ords=b.ords:=by
            have hk3:k=a.ords.length:=by omega
            rw [hk3,List.take_length] at ht
            rw [ht,Lords,List.take_length]
           clear ht hk
           refine rn ?_;refine u9 (fun k:Nat=>k≤a.mats.length∧a.mats.take k=b.mats.take k) (fun k=>⟨[(128,iv k),(127,iv (a.mats.map zey).length),(126,zo4 a.mats),(2,pZ b2),(3,pZ b3)],[.box b3 28 (x5 b),.box b2 28 (x5 a)],[]⟩) (fun k=>a.mats.length - k) 0 ⟨Nat.zero_le _,by simp⟩
            (w7 (.cons _ _ _ rfl (.cons _ _ _ rfl (.cons _ _ _ rfl (.cons _ _ _ rfl (.cons _ _ _ rfl (.nil))))))) ?_
           rintro k ⟨hk,ht⟩
           refine rn ?_;refine z7 rfl (fun hc129=> ?_) (fun hc129=> ?_)
           ·have hbig:=la.mats
            have hk2:k < a.mats.length:=by simpa using hc129
            have hk3:k < b.mats.length:=by omega
            obtain ⟨x,hx0⟩:∃x,x=a.mats[k]:=⟨_,rfl⟩
            obtain ⟨y,hy0⟩:∃y,y=b.mats[k]:=⟨_,rfl⟩
            have hrow1:(a.mats.map zey)[k]? =some (zey x):=by rw [hx0];simp [hk2]
            have hrow2:(b.mats.map zey)[k]? =some (zey y):=by rw [hy0];simp [hk3]
            refine rn ?_;refine z8 rfl (y7 rfl fun b10=> ?_)
            refine rn ?_;refine z8 rfl (y7 rfl fun b11=> ?_)
            refine rn ?_;refine y8 (fun hg20_5=> ?_) (fun hg20_5=> ?_)
            ·refine rn ?_;refine zdb rfl ?_;have hne:x≠y:=by clear hx0 hy0 hrow1 hrow2 ht;intro q;subst q;simp_all
             refine rn ?_;exact u7 rfl (.drop [_,_,_,_] _ _) ⟨rfl,congrArg bv (Eq.symm (zcr fun q=>by subst q;exact hne (hx0.trans hy0.symm)))⟩
            ·refine rn ?_;refine y8 (fun hg20_12=> ?_) (fun hg20_12=> ?_)
             ·refine rn ?_;refine zdb rfl ?_;have hne:x≠y:=by clear hx0 hy0 hrow1 hrow2 ht;intro q;subst q;simp_all
              refine rn ?_;exact u7 rfl (.drop [_,_,_,_] _ _) ⟨rfl,congrArg bv (Eq.symm (zcr fun q=>by subst q;exact hne (hx0.trans hy0.symm)))⟩
             ·refine rn ?_;refine y8 (fun hg20_19=> ?_) (fun hg20_19=> ?_)
              ·refine rn ?_;refine zdb rfl ?_;have hne:x≠y:=by clear hx0 hy0 hrow1 hrow2 ht;intro q;subst q;simp_all
               refine rn ?_;exact u7 rfl (.drop [_,_,_,_] _ _) ⟨rfl,congrArg bv (Eq.symm (zcr fun q=>by subst q;exact hne (hx0.trans hy0.symm)))⟩
              ·refine rn ?_;refine qv rfl rfl (y4 rfl rfl (v7 (zlz x.ts y.ts (la.matts _ (by rw [hx0];exact List.getElem_mem _)) (lb.matts _ (by rw [hy0];exact List.getElem_mem _))) (Sbs.refl _))) ?_
               refine rn ?_;refine z7 rfl (fun hc164=> ?_) (fun hc164=> ?_)
               ·have hne:x≠y:=by clear hx0 hy0 hrow1 hrow2 ht;intro q;subst q;simp_all
                refine rn ?_;exact u7 rfl (.drop [_,_,_,_] _ _) ⟨rfl,congrArg bv (Eq.symm (zcr fun q=>by subst q;exact hne (hx0.trans hy0.symm)))⟩
               ·have hxy:x=y:=by clear hx0 hy0 hrow1 hrow2 ht;cases x;cases y;simp_all
                refine rn ?_;exact ⟨k+1,⟨by omega,by rw [List.take_succ_eq_append_getElem hk2,List.take_succ_eq_append_getElem hk3,ht,←hx0,←hy0,hxy]⟩,(v6 (zco (h1:= [_,_])) (w7 (.cons _ _ _ rfl (.cons _ _ _ rfl (.cons _ _ _ rfl (.cons _ _ _ rfl (.cons _ _ _ rfl (.nil)))))))),by omega⟩
           ·have hk2:¬k < a.mats.length:=by simpa using hc129
            have Emats:a.mats=b.mats:=by
             have hk3:k=a.mats.length:=by omega
             rw [hk3,List.take_length] at ht
             rw [ht,Lmats,List.take_length]
            clear ht hk
            refine rn ?_;refine u9 (fun k:Nat=>k≤a.wants.length∧a.wants.take k=b.wants.take k) (fun k=>⟨[(169,iv k),(168,iv (a.wants.map ze8).length),(2,pZ b2),(3,pZ b3)],[.box b3 28 (x5 b),.box b2 28 (x5 a)],[]⟩) (fun k=>a.wants.length - k) 0 ⟨Nat.zero_le _,by simp⟩
             (w7 (.cons _ _ _ rfl (.cons _ _ _ rfl (.cons _ _ _ rfl (.cons _ _ _ rfl (.nil)))))) ?_
            rintro k ⟨hk,ht⟩
            refine rn ?_;refine z7 rfl (fun hc170=> ?_) (fun hc170=> ?_)
            ·have hbig:=la.wants
             have hk2:k < a.wants.length:=by simpa using hc170
             have hk3:k < b.wants.length:=by omega
             obtain ⟨x,hx0⟩:∃x,x=a.wants[k]:=⟨_,rfl⟩
             obtain ⟨y,hy0⟩:∃y,y=b.wants[k]:=⟨_,rfl⟩
             have hrow1:(a.wants.map ze8)[k]? =some (ze8 x):=by rw [hx0];simp [hk2]
             have hrow2:(b.wants.map ze8)[k]? =some (ze8 y):=by rw [hy0];simp [hk3]
             refine rn ?_;refine j3 10 rfl ?_
             refine rn ?_;refine z7 rfl (fun hc182=> ?_) (fun hc182=> ?_)
             ·have hne:x≠y:=by clear hx0 hy0 hrow1 hrow2 ht;intro q;subst q;simp_all
              refine rn ?_;exact u7 rfl (.drop [_,_] _ _) ⟨rfl,congrArg bv (Eq.symm (zcr fun q=>by subst q;exact hne (hx0.trans hy0.symm)))⟩
             ·have hxy:x=y:=by clear hx0 hy0 hrow1 hrow2 ht;cases x;cases y;simp_all
              refine rn ?_;exact ⟨k+1,⟨by omega,by rw [List.take_succ_eq_append_getElem hk2,List.take_succ_eq_append_getElem hk3,ht,←hx0,←hy0,hxy]⟩,(w7 (.cons _ _ _ rfl (.cons _ _ _ rfl (.cons _ _ _ rfl (.cons _ _ _ rfl (.nil)))))),by omega⟩
            ·have hk2:¬k < a.wants.length:=by simpa using hc170
             have Ewants:a.wants=b.wants:=by
              have hk3:k=a.wants.length:=by omega
              rw [hk3,List.take_length] at ht
              rw [ht,Lwants,List.take_length]
             clear ht hk
             refine rn ?_;exact u7 rfl (.drop [_,_] _ _) ⟨rfl,congrArg bv (Eq.symm (yiy (by cases a;cases b;simp_all)))⟩
theorem yox {h:Hist} {s g n:Int} (he:zgh h s g=n) (hn:n≠0):(seB h s g).map prB= []∧(seB h s g).head?.getD br0=br0∧(seB h s g).head?.isSome=false∧zgh h s g=n:=by
 rw [zyy (by rw [he];exact hn)];exact ⟨rfl,rfl,rfl,he⟩
theorem ys1 {h:Hist} (hs:za1 h=true) {s g:Int} (he:zgh h s g=0) (hz:eaS h s g= []):(seB h s g).map prB=zer yg6 ((eaS h s g).map prB)∧(seB h s g).head?.getD br0=br0∧(seB h s g).head?.isSome=false∧zgh h s g=0:=by
 rw [zsp he]
 exact ⟨zmq hs s g,by rw [zjc,hz];rfl,by rw [zjc,hz];rfl,he⟩
theorem ys2 {h:Hist} (hs:za1 h=true) {s g:Int} (he:zgh h s g=0) (hz:0 < (eaS h s g).length):(seB h s g).map prB=zer yg6 ((eaS h s g).map prB)∧(seB h s g).head?.getD br0=(eaS h s g)[0]∧(seB h s g).head?.isSome=true∧zgh h s g=0:=by
 rw [zsp he]
 have e:(eaS h s g).head? =some (eaS h s g)[0]:=by rw [List.head?_eq_getElem?,List.getElem?_eq_getElem hz]
 exact ⟨zmq hs s g,by rw [zjc,e];rfl,by rw [zjc,e];rfl,he⟩
theorem yix {h:Hist} (hE:h.evs.length≤70) {s g:Int}:((seB h s g).map prB).length≤4611686018427387904:=by
 by_cases he:zgh h s g=0
 ·by_cases hc:j8 h=0
  ·rw [zsp he,zmq (zdt.1 hc)]
   have h1:=ybh hE hc s g
   have h2:=zq9 (q:=fun a b:Int×Int=>a==b) ((eaS h s g).map prB)
   rw [List.length_map] at h2;omega
  ·rw [yho hc] at he;exact absurd he hc
 ·rw [zyy he];exact Nat.zero_le _
theorem yrq {f g:Bool} (l:List (Int×Int)) (hl:l.length≤4611686018427387904):x4 Tryz.prog 21 [.list f 2 (l.map zjo),.list g 2 (l.map zjo)] [] (fun r h'=>h'= []∧r=bv true):=(zv0 l l hl hl).mono fun _ _ q=>⟨q.1,by rw [q.2,decide_eq_true rfl]⟩
theorem ygn (h:Hist) (la:Lim 4611686018427387904 h):x4 Tryz.prog 22 [.agg (x5 h),.agg (x5 h)] [] (fun r h'=>h'= []∧r=bv true):=(yja h h la la).mono fun _ _ q=>⟨q.1,by rw [q.2,zwp]⟩
set_option maxHeartbeats 4000000 in
theorem zqj (x:Hist) (ps:List (Int×Int)) (lb:Big x) (hp:ps.length≤4611686018427387904):x4 Tryz.prog 3 [.agg (x5 x),zox ps] (.glob 0 117 w9:: .glob 3 148 x7:: .glob 5 276 x8:: .glob 6 279 x3:: .glob 2 197 j4:: []) (fun r h'=>h'= .glob 0 117 w9:: .glob 3 148 x7:: .glob 5 276 x8:: .glob 6 279 x3:: .glob 2 197 j4:: []∧r=bv true):=by
 refine z6 Tryz.func3 rfl rfl rfl ?_
 refine rn ?_;refine z8 rfl (x9 rfl rfl rfl fun b2=> ?_)
 refine rn ?_;refine qv rfl rfl (y4 rfl rfl (y3.qt (y3.of_fun yh4) ((pt1 _ _ _).trans (.cons _ ((pt1 _ _ _).trans (.cons _ ((pt1 _ _ _).trans (.cons _ ((pt1 _ _ _).trans (.cons _ (pt1 _ _ _))))))))))) ?_
 refine rn ?_;refine z7 rfl (fun hc20=> ?_) (fun hc20=> ?_)
 ·exact absurd hc20 (by decide)
 ·refine rn ?_;refine qv rfl rfl (y4 rfl rfl (v7 (yjx x lb) (Sbs.refl _))) ?_
  refine z8 rfl (y7 rfl fun b5=> ?_)
  refine rn ?_;refine qv rfl rfl (y4 rfl rfl (v7 (zw2 (zax x) (zfs lb.lim)) (Sbs.refl _))) ?_
  refine rn ?_;refine zci (ps.length) (fun i:Nat=>True) (fun i=> [(27,iv i)]) [(2,_),(5,_),(6,_),(25,_),(26,_)] trivial ?_
  intro i li _
  refine rn ?_;refine z7 rfl (fun hc28=> ?_) (fun hc28=> ?_)
  ·have hi:=zao hc28
   have ri:=zad (f:=zjo) hi
   obtain ⟨a,b,rp⟩:∃a b,ps[i]=(a,b):=⟨_,_,rfl⟩
   rw [rp,show zjo (a,b)= [iv a,iv b] from rfl] at ri
   refine rn ?_;refine z8 rfl (y7 rfl fun b8=> ?_)
   refine rn ?_;refine z7 rfl (fun hc33=> ?_) (fun hc33=> ?_)
   ·refine rn ?_;refine j3 3 rfl ?_
    refine rn ?_;refine dv rfl rfl (by exact y4 rfl rfl (v7 (yjx x lb) (Sbs.refl _))) ?_
    refine rn ?_;refine qv rfl rfl (y4 rfl rfl (v7 (ygn (zax x) (zfs lb.lim)) (Sbs.refl _))) ?_
    refine rn ?_;first|(refine rq 2 ?_;exact ⟨rfl,rfl⟩)|(refine rq 3 ?_;exact ⟨rfl,rfl⟩)
   ·refine zab ?_;refine j9 ?_;refine x6 (y5 ?_)
    refine q1 ?_;refine qq rfl rfl (q7 (i:=0) rfl rfl (by omega)) ?_
    refine q1 ?_;refine qq rfl rfl (q7 (i:=1) rfl rfl (by omega)) ?_
    refine rn ?_;refine qv rfl rfl (y4 rfl rfl (y3.qt (y3.of_fun (zon (zax x) (zfs lb.lim) a b)) ((pt3 _ _ _ _ _).trans (.cons _ ((pt3 _ _ _ _ _).trans (.cons _ ((pt3 _ _ _ _ _).trans (.cons _ ((pt3 _ _ _ _ _).trans (.cons _ (pt3 _ _ _ _ _))))))))))) ?_
    refine rn ?_;refine z8 rfl (y7 rfl fun b9=> ?_)
    first|refine z8 rfl (zai rfl rfl rfl ?_)|refine z8 rfl (zba rfl rfl rfl rfl (Nat.le_of_ble_eq_true rfl) ?_)
    refine q1 ?_;refine q1 ?_;refine u4 (j9 ?_)
    refine x6 (y5 ?_)
    refine q1 ?_;refine qq rfl rfl (q7 (i:=0) rfl rfl (by omega)) ?_
    refine q1 ?_;refine qq rfl rfl (q7 (i:=1) rfl rfl (by omega)) ?_
    refine rn ?_;refine qv rfl rfl (y4 rfl rfl (y3.qt (y3.of_fun (zu3 (zax x) (zfs lb.lim) a b)) ((pt4 _ _ _ _ _ _).trans (.cons _ ((pt4 _ _ _ _ _ _).trans (.cons _ ((pt4 _ _ _ _ _ _).trans (.cons _ ((pt4 _ _ _ _ _ _).trans (.cons _ (pt4 _ _ _ _ _ _))))))))))) ?_
    refine rn ?_;refine z8 rfl (y7 rfl fun b14=> ?_)
    refine u4 (j9 ?_)
    refine x6 (y5 ?_)
    refine qq rfl rfl (zou (fun w O v hr=>Sb.rel (Sb.nil false 2) hr) (zqz rfl)) ?_
    refine rn0 ?_;refine x6 (y5 ?_)
    refine rn0 ?_;refine zgm (⟨[(9,pZ b9),(10,bv (seB (zax x) a b).head?.isSome),(11,iv (zgh (zax x) a b)),(12,zox ((seB (zax x) a b).map prB)),(13,iv (zgh (zax x) a b)),(14,pZ b14),(15,zox ((seB (zax x) a b).map prB)),(16,bv (seB (zax x) a b).head?.isSome),(17,iv (zgh (zax x) a b)),(2,pZ b2),(5,pZ b5),(6,iv (j8 (zax x))),(25,zox ps),(26,iv (ps.map zjo).length),(27,iv i)],.box b14 36 (zch ((seB (zax x) a b).head?.getD br0)):: .box b9 36 (zch ((seB (zax x) a b).head?.getD br0)):: .box b8 34 [iv a,iv b]:: .box b5 28 (x5 (zax x)):: .box b2 28 (x5 x):: .glob 0 117 w9:: .glob 3 148 x7:: .glob 5 276 x8:: .glob 6 279 x3:: .glob 2 197 j4:: [],[]⟩) ?_ ?_
    ·refine rn ?_;refine z7 rfl (fun hc55=> ?_) (fun hc55=> ?_)
     ·have hc:j8 (zax x)=0:=eq_of_beq hc55
      have hs:=zdt.1 hc
      refine x6 (y5 ?_)
      refine q1 ?_;refine u4 (j9 ?_)
      refine x6 (y5 ?_)
      refine q1 ?_;refine qq rfl rfl (q7 (i:=0) rfl rfl (by omega)) ?_
      refine rn ?_;refine qv rfl rfl (y4 rfl rfl (v7 (zwt (zax x) a) (Sbs.refl _))) ?_
      refine rn ?_;refine y8 (fun hg16_4=> ?_) (fun hg16_4=> ?_)
      ·refine qq rfl rfl (q7 (i:=1) rfl rfl (by omega)) ?_
       refine rn ?_;refine qv rfl rfl (y4 rfl rfl (v7 (zwx b) (Sbs.refl _))) ?_
       refine rn ?_;refine z7 rfl (fun hc64=> ?_) (fun hc64=> ?_)
       ·first
        |have he:=ypp hc hg16_4 (show isG b=true from hc64)
        |skip
        refine x6 (y5 ?_)
        refine q1 ?_;refine qq rfl rfl (q7 (i:=0) rfl rfl (by omega)) ?_
        refine q1 ?_;refine qq rfl rfl (q7 (i:=1) rfl rfl (by omega)) ?_
        refine rn ?_;refine qv rfl rfl (y4 rfl rfl (v7 (zwu (zax x) ((zg9 hc).mono (by decide):Lim 3000 (zax x)) hc (Nat.le_trans (zjp x) (by decide)) a b) (Sbs.refl _))) ?_
        refine q1 ?_;refine q1 ?_;refine u4 (j9 ?_)
        refine x6 (y5 ?_)
        refine q1 ?_;refine qq rfl rfl (q7 (i:=0) rfl rfl (by omega)) ?_
        refine q1 ?_;refine qq rfl rfl (q7 (i:=1) rfl rfl (by omega)) ?_
        refine rn ?_;refine qv rfl rfl (y4 rfl rfl (v7 (zqr (zax x) ((zg9 hc).mono (by decide):Lim 3000 (zax x)) hc (Nat.le_trans (zjp x) (by decide)) a b) (Sbs.refl _))) ?_
        refine rn ?_;refine z7 rfl (fun hc79=> ?_) (fun hc79=> ?_)
        ·have hz:0 < (eaS (zax x) a b).length:=by simpa using hc79
         have r0:=zad (f:=zch) hz
         have hq:=ys2 hs he hz
         refine rn ?_;rw [hq.1,hq.2.1,hq.2.2.1,hq.2.2.2]
         exact eA
        ·have hz:eaS (zax x) a b= []:=by simpa using hc79
         have hq:=ys1 hs he hz
         refine rn ?_;rw [hq.1,hq.2.1,hq.2.2.1,hq.2.2.2]
         exact eA
       ·first
        |have hq:=yox (yhp hc hg16_4 (show isG b=false from hc64)) (by decide)
        |have hq:=yox (yhq hc hg16_4 b) (by decide)
        refine rn ?_;rw [hq.1,hq.2.1,hq.2.2.1,hq.2.2.2]
        exact eA
      ·refine rn ?_;refine z7 rfl (fun hc64=> ?_) (fun hc64=> ?_)
       ·first|cases hc64|exact absurd hc64 (by decide)|(exfalso;simp_all;done)
       ·first
        |have hq:=yox (yhp hc hg16_4 (show isG b=false from hc64)) (by decide)
        |have hq:=yox (yhq hc hg16_4 b) (by decide)
        refine rn ?_;rw [hq.1,hq.2.1,hq.2.2.1,hq.2.2.2]
        exact eA
     ·have hc:j8 (zax x)≠0:=by simpa using hc55
      have hq:=yox (yho hc a b) hc
      refine rn ?_;rw [hq.1,hq.2.1,hq.2.2.1,hq.2.2.2]
      exact eA
    ·refine x6 (y5 ?_)
     refine q1 ?_;refine q1 ?_;refine qq rfl rfl (zj8 (c:=false) rfl rfl (congrArg some (bne_self_eq_false _))) ?_
     refine q1 ?_;refine q1 ?_;refine q1 ?_;refine qq rfl rfl (zj8 (c:=false) rfl rfl (congrArg some (bne_self_eq_false _))) ?_
     refine q1 ?_;refine q1 ?_;refine q1 ?_;refine q1 ?_;refine qq rfl rfl (ygp (c:=false) (zk2 rfl rfl rfl rfl) (by simp)) ?_
     refine q1 ?_;refine q1 ?_;refine q1 ?_;refine q1 ?_;refine qq rfl rfl (ygp (c:=false) (ziz rfl rfl) (by simp)) ?_
     refine rn ?_;refine qv rfl rfl (y4 rfl rfl (v7 (yrq ((seB (zax x) a b).map prB) (yix (Nat.le_trans (zjp x) (by decide)))) (Sbs.refl _))) ?_
     refine rn ?_;refine z7 rfl (fun hc106=> ?_) (fun hc106=> ?_)
     ·exact absurd hc106 (by decide)
     ·refine rn ?_;exact ⟨hi,trivial,eA⟩
  ·have qi:=zap hc28 li
   refine rn ?_;refine j3 3 rfl ?_
   refine rn ?_;refine dv rfl rfl (by exact y4 rfl rfl (v7 (yjx x lb) (Sbs.refl _))) ?_
   refine rn ?_;refine qv rfl rfl (y4 rfl rfl (v7 (ygn (zax x) (zfs lb.lim)) (Sbs.refl _))) ?_
   refine rn ?_;first|(refine rq 2 ?_;exact ⟨rfl,rfl⟩)|(refine rq 3 ?_;exact ⟨rfl,rfl⟩)
end Go.Proofs
