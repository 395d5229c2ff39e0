/- The walk of wr's of. Conditions: none. -/
import Derived.Test.YtfmcbdjnmlcacaaGreatDoorWBaH
set_option maxHeartbeats 4000000
set_option linter.unusedSectionVars false
set_option linter.unusedSimpArgs false
set_option linter.unusedVariables false
set_option maxRecDepth 10000
namespace Go.Proofs
open Go Go.Ab
attribute [local irreducible] QR QV OE zb8 aw zch zcv za4 zbx thn zeg zdc jch zef
open Go.H
def zh6 (h:Hist) (x:Int) (l:List Int) (m:List ((Int×Int)×Int)):List ((Int×Int)×Int):=l.foldl (fun m t=>zcq (t,x) (zcd h t x) m) m
theorem yb5 {h:Hist} {x:Int} {l:List Int} {k:Nat} {m:List ((Int×Int)×Int)} (hk:k < l.length):zh6 h x (l.take (k+1)) m=zcq (l[k],x) (zcd h l[k] x) (zh6 h x (l.take k) m):=by
 rw [zh6,List.take_succ_eq_append_getElem hk,List.foldl_append];rfl
def zzt (h:Hist):Nat→List ((Int×Int)×Int)
 |0=> []
 |n+1=>zh6 h n (zaj h n) (zzt h n)
theorem ykf (h:Hist) (n:Nat):zzt h (n+1)=zh6 h n ((zaj h n).take (zaj h n).length) (zzt h n):=by rw [List.take_length];rfl
theorem zm1 {h:Hist} {x:Int}:∀(l:List Int) (m:List ((Int×Int)×Int)),(∀p v,zap p m=some v→v=zcd h p.1 p.2)→∀p v,zap p (zh6 h x l m)=some v→v=zcd h p.1 p.2
 | [],_,hm=>hm
 |t::l,m,hm=>zm1 l (zcq (t,x) (zcd h t x) m) fun p v e=>by
  rw [zbl] at e
  split at e
  ·rename_i q;injection e with e;rw [←e,←q]
  ·exact hm p v e
theorem ztk (h:Hist):∀n p v,zap p (zzt h n)=some v→v=zcd h p.1 p.2
 |0,p,v,e=>by cases e
 |n+1,p,v,e=>zm1 _ _ (ztk h n) p v e
theorem zhf {h:Hist} {x:Int} {p:Int×Int}:∀(l:List Int) (m:List ((Int×Int)×Int)),(zap p m).isSome=true→(zap p (zh6 h x l m)).isSome=true
 | [],_,hm=>hm
 |t::l,m,hm=>zhf l _ (by
  rw [zbl]
  by_cases q:(t,x)=p
  ·rw [if_pos q];rfl
  ·rw [if_neg q];exact hm)
theorem zm2 {h:Hist} {x t:Int}:∀(l:List Int) (m:List ((Int×Int)×Int)),t∈l→(zap (t,x) (zh6 h x l m)).isSome=true
 | [],_,hm=>by cases hm
 |a::l,m,hm=>by
  rcases List.mem_cons.1 hm with rfl|hm
  ·exact zhf l _ (by rw [zbl,if_pos rfl];rfl)
  ·exact zm2 l _ hm
theorem zpo {h:Hist} {x:Nat} {t:Int} (ht:t∈zaj h x):∀n,x < n→(zap (t,(x:Int)) (zzt h n)).isSome=true
 |n+1,hx=>by
  by_cases e:x=n
  ·subst e;exact zm2 _ _ ht
  ·exact zhf _ _ (zpo ht n (by omega))
theorem yg2 {h:Hist} {x t:Int} (h0:0≤x) (h1:x < h.os.length) (ht:t∈zaj h x):(zap (t,x) (zzt h h.os.length)).getD 0=zcd h t x:=by
 obtain ⟨n,rfl⟩:∃n:Nat,x=(n:Int):=⟨x.toNat,by omega⟩
 have:=zpo ht h.os.length (by omega)
 cases hq:zap (t,(n:Int)) (zzt h h.os.length) with
 |none=>rw [hq] at this;cases this
 |some v=>exact ztk h _ _ _ hq
abbrev zcx (h:Hist) (rf:Nat):Res:= .map rf (j8 zag (zar iv (zzt h h.os.length)))
abbrev wrP (h:Hist) (rd rf rk rg:Nat):List AV:=y9 h++ [mpv rd,ydr h,mpv rf,mpv rk,mpv rg]
instance:Chk3 Tryz.prog 70:=⟨fun e w a b c=>by kernel_rfl⟩
theorem ybw (h:Hist) (la:Lim 4611686018427387904 h) (hc:q6 h=0) (t x:Int):y8 Tryz.prog 121 [.agg (y9 h),iv t,iv x] (.glob 2 156 y2:: .glob 4 305 y3:: .glob 5 308 z8:: .glob 3 246 w6:: []) (fun r h'=>h'= .glob 2 156 y2:: .glob 4 305 y3:: .glob 5 308 z8:: .glob 3 246 w6:: []∧r= .tup [.agg (yc5 (zgn h x t)),iv (zcd h t x),bv (zlz h.evs t x).isSome]):=(ygo h la t x).mono fun _ _ q=>⟨q.1,by rw [q.2,yhy,if_pos hc];rfl⟩
theorem ylq (h:Hist) (la:Lim 4611686018427387904 h):y8 Tryz.prog 111 [.agg (y9 h)] (.glob 2 156 y2:: .glob 4 305 y3:: .glob 5 308 z8:: .glob 3 246 w6:: []) (fun r h'=>(q6 h=0∧∃bl rd rf rk rg,h'= .box bl 202 (wrP h rd rf rk rg)::rgR rg []::rkS h rk::zcx h rf::rcR h rd:: .glob 2 156 y2:: .glob 4 305 y3:: .glob 5 308 z8:: .glob 3 246 w6:: []∧r= .tup [pZ bl,iv 0])∨(q6 h≠0∧h'= .glob 2 156 y2:: .glob 4 305 y3:: .glob 5 308 z8:: .glob 3 246 w6:: []∧r= .tup [.v (.pointer none),iv (q6 h)])):=by
 refine z6 Tryz.func111 rfl rfl rfl ?_
 refine rn ?_;refine z7 rfl (w7 rfl rfl rfl fun b1=> ?_)
 refine rn ?_;refine qv rfl rfl (y4 rfl rfl (y1.qt (y1.of_fun (zx1 h la)) ((pt1 _ _ _).trans (.cons _ ((pt1 _ _ _).trans (.cons _ ((pt1 _ _ _).trans (.cons _ (pt1 _ _ _))))))))) ?_
 refine rn ?_;refine y0 rfl (fun hc23=> ?_) (fun hc23=> ?_)
 ·have hc:=nzT hc23
  refine rn ?_;exact zbk rfl rfl (.drop [_] _ _) (.inr ⟨hc,rfl,rfl⟩)
 ·have hc:=nzF hc23
  have hts:onE (q6 h) (zcm h.evs)=(zcm h.evs):=by rw [hc,onE,if_pos rfl]
  rw [hts]
  have hs:=za0.1 hc
  have lA:=zdk hc
  have lO:=lA.os
  have lE:=lA.evs
  have bC:=Nat.le_trans (zyr h.evs) lA.evs
  refine rn ?_;refine z7 rfl (zab (enc:=intK) rfl fun b26=> ?_)
  refine z7 rfl (zab (enc:=zag) rfl fun b27=> ?_)
  refine z7 rfl (zab (enc:=zcr) rfl fun b28=> ?_)
  refine z7 rfl (zab (enc:=zag) rfl fun b29=> ?_)
  refine qq rfl rfl (u9 (out:=y9 h++ [mpv b26,.v (.slice none 0 0),mpv b27,mpv b28,mpv b29]) rfl (by rfl)) ?_
  refine z7 rfl (w7 rfl rfl rfl fun b31=> ?_)
  refine rn ?_;refine zbn (zcm h.evs).length (fun _=>True) (fun k=>⟨[(34,iv k),(1,pZ b1),(6,pZ b31),(32,za5 (zcm h.evs)),(33,iv ((zcm h.evs).map za9).length)],.box b31 202 (y9 h++ [mpv b26,.v (.slice none 0 0),mpv b27,mpv b28,mpv b29]):: .map b29 (j8 zag (zar za5 [])):: .map b28 (j8 zcr (zar iv [])):: .map b27 (j8 zag (zar iv [])):: .map b26 (j8 intK (zar bv (dnM ((zcm h.evs).take k)))):: .box b1 28 (y9 h):: .glob 2 156 y2:: .glob 4 305 y3:: .glob 5 308 z8:: .glob 3 246 w6:: [],[]⟩) trivial es ?_
  intro k lk _
  refine rn ?_;refine y0 rfl (fun hc35=> ?_) (fun hc35=> ?_)
  ·have hk:=zdb hc35
   have rk:=zbs (f:=za9) hk
   refine rn ?_;refine z7 rfl (j7 (g:=bv) (enc:=intK) (k:=(zcm h.evs)[k]) (v:=true) rfl rfl rfl ?_)
   refine rn ?_;exact ⟨hk,trivial,by rw [ykt hk];exact eA⟩
  ·have qk:=zdd hc35 lk
   rw [qk,List.take_length]
   refine rn ?_;refine zlv h.os.length (fun k s=>⟨[(47,iv k),(1,pZ b1),(6,pZ b31),(46,iv (h.os.map zfn).length)],.row s.v 1 29 (((upR k).map (zaj h)).map yan):: .box b31 202 (y9 h++ [mpv b26,.v s.v,mpv b27,mpv b28,mpv b29]):: .map b29 (j8 zag (zar za5 [])):: .map b28 (j8 zcr (zar iv (rkM h k))):: .map b27 (j8 zag (zar iv (zzt h k))):: .map b26 (j8 intK (zar bv (dnM (zcm h.evs)))):: .box b1 28 (y9 h):: .glob 2 156 y2:: .glob 4 305 y3:: .glob 5 308 z8:: .glob 3 246 w6:: [],[]⟩) ⟨none,0,0⟩ (v6 (zaz 1 29) es) ?_
   intro k s lk
   refine rn ?_;refine y0 rfl (fun hc48=> ?_) (fun hc48=> ?_)
   ·have hk:k < h.os.length:=by have q:=oT hc48;rw [oM] at q;omega
    have k0:(0:Int)≤(k:Int):=by omega
    have k1:(k:Int) < h.os.length:=by omega
    have hb:=zla hc k0 k1
    refine rn ?_;refine qv rfl rfl (y4 rfl rfl (y1.qt (y1.of_fun (ydn h la hc k k0 k1)) ((pt7 _ _ _ _ _ _ _ _ _).trans (.cons _ ((pt7 _ _ _ _ _ _ _ _ _).trans (.cons _ ((pt7 _ _ _ _ _ _ _ _ _).trans (.cons _ (pt7 _ _ _ _ _ _ _ _ _))))))))) ?_
    refine rn ?_;refine qv rfl rfl (w8 rfl rfl) ?_
    refine z7 rfl (j6 rfl rfl (by simp only [oM,upR,List.length_range,List.length_cons,List.length_nil];omega) rfl (fun s63=> ?_) (fun r hr=>by rw [List.mem_singleton.1 hr];rfl))
    refine zal s63 fun sv hsv=> ?_
    subst hsv
    refine q1 ?_;refine q1 ?_;first|refine z7 rfl (u7 rfl rfl rfl ?_)|refine z7 rfl (zad rfl rfl rfl rfl (Nat.le_of_ble_eq_true rfl) ?_)
    refine u4 (zai ?_)
    refine w9 (y6 ?_)
    refine q1 ?_;refine q1 ?_;refine q1 ?_;refine q1 ?_;refine q1 ?_;refine qq rfl rfl (u9 (out:= [iv k,iv 0,iv 0]) rfl (by rfl)) ?_
    refine z7 rfl (j7 (g:=iv) (enc:=zcr) (k:=((k:Int),(0:Int),(0:Int))) (v:=(0:Int)) rfl rfl rfl ?_)
    refine rn ?_;refine zbn (zaj h k).length (fun _=>True) (fun j=>⟨[(74,iv j),(1,pZ b1),(6,pZ b31),(9,iv k),(46,iv (h.os.map zfn).length),(47,iv k),(72,za5 (zaj h k)),(73,iv ((zaj h k).map za9).length)],.row sv.v 1 29 (((upR k).map (zaj h)).map yan++ [yan (zaj h k)]):: .box b31 202 (y9 h++ [mpv b26,.v sv.v,mpv b27,mpv b28,mpv b29]):: .map b29 (j8 zag (zar za5 [])):: .map b28 (j8 zcr (zar iv (zem h k 0 ((zaj h k).take j) (zcq (zop k ⟨0,0⟩) 0 (rkM h k))))):: .map b27 (j8 zag (zar iv (zh6 h k ((zaj h k).take j) (zzt h k)))):: .map b26 (j8 intK (zar bv (dnM (zcm h.evs)))):: .box b1 28 (y9 h):: .glob 2 156 y2:: .glob 4 305 y3:: .glob 5 308 z8:: .glob 3 246 w6:: [],[]⟩) trivial es ?_
    intro j lj _
    refine rn ?_;refine y0 rfl (fun hc75=> ?_) (fun hc75=> ?_)
    ·have hj:=zdb hc75
     have rj:=zbs (f:=za9) hj
     refine rn ?_;refine qv rfl rfl (y4 rfl rfl (y1.qt (y1.of_fun (ybw h la hc (zaj h k)[j] k)) ((pt7 _ _ _ _ _ _ _ _ _).trans (.cons _ ((pt7 _ _ _ _ _ _ _ _ _).trans (.cons _ ((pt7 _ _ _ _ _ _ _ _ _).trans (.cons _ (pt7 _ _ _ _ _ _ _ _ _))))))))) ?_
     refine rn ?_;refine z7 rfl (y7 rfl fun b14=> ?_)
     first|refine z7 rfl (u7 rfl rfl rfl ?_)|refine z7 rfl (zad rfl rfl rfl rfl (Nat.le_of_ble_eq_true rfl) ?_)
     refine q1 ?_;refine q1 ?_;refine u4 (zai ?_)
     refine w9 (y6 ?_)
     refine q1 ?_;refine q1 ?_;refine q1 ?_;refine q1 ?_;refine q1 ?_;refine q1 ?_;refine qq rfl rfl (za7 (out:= [iv (zaj h k)[j],iv k]) rfl (by rfl)) ?_
     refine rn ?_;refine z7 rfl (j7 (g:=iv) (enc:=zag) (k:=((zaj h k)[j],(k:Int))) (v:=zcd h (zaj h k)[j] k) rfl rfl rfl ?_)
     refine rn ?_;refine j3 9 rfl ?_
     refine dq rfl rfl qrA ?_;refine dq rfl rfl qrA ?_;refine dq rfl rfl qrA ?_;refine dq rfl rfl qrA ?_;refine dq rfl rfl qrA ?_;refine dq rfl rfl qrA ?_;refine dq rfl rfl (u9 (out:= [iv k,iv (zgn h k (zaj h k)[j]).t,iv (zgn h k (zaj h k)[j]).k]) rfl (by rfl)) ?_
     refine dq rfl rfl qrA ?_;refine dq rfl rfl (zf0 rfl rfl rfl (by omega)) ?_
     refine rn ?_;refine z7 rfl (j7 (g:=iv) (enc:=zcr) (k:=((k:Int),(zgn h k (zaj h k)[j]).t,(zgn h k (zaj h k)[j]).k)) (v:=(j:Int)+1) rfl rfl rfl ?_)
     refine rn ?_;exact ⟨hj,trivial,by rw [zws hj,yb5 hj];exact eA⟩
    ·have qj:=zdd hc75 lj
     refine rn ?_;exact ⟨hk,sv,by rw [zz7,List.map_append,List.map_append,yiq,ykf];rw [qj,List.take_length];exact eA⟩
   ·have qk:k=h.os.length:=by have q:=oF hc48;rw [oM] at q;omega
    refine zhi ?_;refine zg9 ?_;refine zg9 ?_;refine zdt ?_;refine zai ?_;refine w9 (y6 ?_)
    refine zif (zg1 (y9 h++ [mpv b26]) [mpv b27,mpv b28,mpv b29]) ?_
    refine rn ?_;exact zbk rfl rfl (.trans (.perm (pt5 _ _ _ _ _ _ _) _) (.drop [_] _ _)) (.inl ⟨hc,b31,b26,b27,b28,b29,by rw [qk];rfl,rfl⟩)
theorem ylu (h:Hist) (la:Lim 4611686018427387904 h) (hc:q6 h=0) (p x:Int) (bl rd rf rk rg:Nat) (M:List ((Int×Int)×List Int)) (hM:zek h M) (W:List Res):y8 Tryz.prog 161 [pZ bl,iv p,iv x] (.box bl 202 (wrP h rd rf rk rg)::rgR rg M::rkS h rk::zcx h rf::rcR h rd:: .glob 2 156 y2:: .glob 4 305 y3:: .glob 5 308 z8:: .glob 3 246 w6::W) (fun r h'=>∃M',zek h M'∧h'= .box bl 202 (wrP h rd rf rk rg)::rgR rg M'::rkS h rk::zcx h rf::rcR h rd:: .glob 2 156 y2:: .glob 4 305 y3:: .glob 5 308 z8:: .glob 3 246 w6::W∧r=za5 (chL h p x)):=by
 refine z6 Tryz.func161 rfl rfl rfl ?_
 refine w9 (y6 ?_)
 refine q1 ?_;refine u4 (zai ?_)
 refine w9 (y6 ?_)
 refine q1 ?_;refine q1 ?_;refine qq rfl rfl (za7 (out:= [iv p,iv x]) rfl (by rfl)) ?_
 refine z7 rfl (y7 rfl fun b7=> ?_)
 refine rn ?_;refine j3 10 rfl ?_
 refine dq rfl rfl qrA ?_;refine dq rfl rfl qrA ?_;refine dq rfl rfl qrA ?_;refine dq rfl rfl qrA ?_;refine dq rfl rfl qrA ?_;refine dq rfl rfl (zd8 (g:=za5) (enc:=zag) (k:=(p,x)) ([]:List Int) rfl rfl rfl) ?_
 refine rn ?_;refine y0 rfl (fun hc23=> ?_) (fun hc23=> ?_)
 ·refine rn ?_;refine qv rfl rfl (y4 rfl rfl (y1.qt (y1.of_fun (ydk h la p x)) ((pt6 _ _ _ _ _ _ _ _).trans (.cons _ ((pt6 _ _ _ _ _ _ _ _).trans (.cons _ ((pt6 _ _ _ _ _ _ _ _).trans (.cons _ (pt6 _ _ _ _ _ _ _ _))))))))) ?_
  refine rn ?_;refine j3 6 rfl ?_
  refine rn ?_;refine z7 rfl (j7 (g:=za5) (enc:=zag) (k:=(p,x)) (v:=chL h p x) rfl rfl rfl ?_)
  refine rn ?_;first|exact zak rfl (.drop [_] _ _) ⟨_,zkf hM p x,rfl,rfl⟩|exact zak rfl (.drop [_] _ _) ⟨_,hM,rfl,congrArg za5 (zkh hM hc23)⟩
 ·refine rn ?_;first|exact zak rfl (.drop [_] _ _) ⟨_,zkf hM p x,rfl,rfl⟩|exact zak rfl (.drop [_] _ _) ⟨_,hM,rfl,congrArg za5 (zkh hM hc23)⟩
theorem ycz (h:Hist) (f x:Int) (a:Nat) (ha:a < h.evs.length) (h0:0≤x) (h1:x < h.os.length) (hf:f∈zaj h x) (bl rd rf rk rg:Nat) (M:List ((Int×Int)×List Int)) (W:List Res):y8 Tryz.prog 159 [pZ bl,iv f,iv (a:Int),iv x] (.box bl 202 (wrP h rd rf rk rg)::rgR rg M::rkS h rk::zcx h rf::rcR h rd:: .glob 2 156 y2:: .glob 4 305 y3:: .glob 5 308 z8:: .glob 3 246 w6::W) (fun r h'=>h'= .box bl 202 (wrP h rd rf rk rg)::rgR rg M::rkS h rk::zcx h rf::rcR h rd:: .glob 2 156 y2:: .glob 4 305 y3:: .glob 5 308 z8:: .glob 3 246 w6::W∧r= .agg (zan ⟨f,h.evs[a].t,0,zcd h f x,a,x,0⟩)):=by
 refine z6 Tryz.func159 rfl rfl rfl ?_
 have ra:=zbs (f:=evR) ha
 refine rn ?_;refine z7 rfl (y7 rfl fun b8=> ?_)
 refine rn ?_;refine j3 20 rfl ?_
 refine dq rfl rfl qrA ?_;refine dq rfl rfl qrA ?_;refine dq rfl rfl qrA ?_;refine dq rfl rfl qrA ?_;refine dq rfl rfl qrA ?_;refine dq rfl rfl qrA ?_;refine dq rfl rfl qrA ?_;refine dq rfl rfl qrA ?_;refine dq rfl rfl qrA ?_;refine dq rfl rfl qrA ?_;refine dq rfl rfl qrA ?_;refine dq rfl rfl qrA ?_;refine dq rfl rfl qrA ?_;refine dq rfl rfl qrA ?_;refine dq rfl rfl qrA ?_;refine dq rfl rfl qrA ?_;refine dq rfl rfl (za7 (out:= [iv f,iv x]) rfl (by rfl)) ?_
 refine dq rfl rfl (zq6 (zay (enc:=zag) (k:=(f,x)) 0 rfl rfl) (show iv _=iv (zcd h f x) from congrArg iv (yg2 h0 h1 hf))) ?_
 refine rn2 ?_;refine qq rfl rfl (u9 (out:=zan ⟨f,h.evs[a].t,0,zcd h f x,a,x,0⟩) rfl (by rfl)) ?_
 refine rn ?_;exact zdw (.cons _ _ _ _ (.agg _ _ _ _ _ _ _ rfl inferInstance inferInstance inferInstance rfl) .nil) (.drop [_] _ _) ⟨rfl,rfl⟩
theorem zzz (a bl:Nat) (W:List Res):y8 Tryz.prog 114 [pZ bl,iv (a:Int)] W (fun r h'=>∃ba bp,h'= .box ba 3 [iv (a:Int)]:: .box bp 147 [pZ bl]::W∧r= .fn (.func 158) [] [pZ bp,pZ ba]):=by
 refine z6 Tryz.func114 rfl rfl rfl ?_
 refine rn ?_;refine z7 rfl (w7 rfl rfl rfl fun b2=> ?_)
 refine z7 rfl (w7 rfl rfl rfl fun b3=> ?_)
 refine rn ?_;exact zak rfl (.refl _ _) ⟨_,_,rfl,rfl⟩
theorem zzx (a bl:Nat) (W:List Res):y8 Tryz.prog 115 [pZ bl,iv (a:Int)] W (fun r h'=>∃ba bp,h'= .box ba 3 [iv (a:Int)]:: .box bp 147 [pZ bl]::W∧r= .fn (.func 160) [] [pZ bp,pZ ba]):=by
 refine z6 Tryz.func115 rfl rfl rfl ?_
 refine rn ?_;refine z7 rfl (w7 rfl rfl rfl fun b2=> ?_)
 refine z7 rfl (w7 rfl rfl rfl fun b3=> ?_)
 refine rn ?_;exact zak rfl (.refl _ _) ⟨_,_,rfl,rfl⟩
theorem ylp {h:Hist} (hs:zaq h=true) {e:Ev} (o0:0≤e.o) (o1:e.o < h.os.length) (hn:((zap (e.o,e.v.t,e.v.k) (rkM h h.os.length)).getD 0==0)=false):∃k,∃hk:k < (zaj h e.o).length,(zap (e.o,e.v.t,e.v.k) (rkM h h.os.length)).getD 0=(k:Int)+1∧zly h e.o ((k:Int)+1)=(zaj h e.o)[k]:=by
 cases hq:zap (e.o,e.v.t,e.v.k) (rkM h h.os.length) with
 |none=>rw [hq] at hn;simp at hn
 |some r=>
  rw [hq] at hn
  obtain ⟨k,hk,e1,_⟩:=yin hs o0 o1 (v:=e.v) (r:=r) hq (by simpa using hn)
  refine ⟨k,hk,by rw [e1];rfl,?_⟩
  rw [zly,show ((k:Int)+1 - 1).toNat=k by omega,List.getElem?_eq_getElem hk];rfl
theorem zsh {h:Hist} {e:Ev} {a:Nat} (h3:e.kind≠3):zbe h e a= []:=by rw [zbe,if_neg (by simpa using h3)]
theorem zsg {h:Hist} {e:Ev} {a:Nat} (hn:((zap (e.o,e.v.t,e.v.k) (rkM h h.os.length)).getD 0==0)=true):zbe h e a= []:=by
 rw [zbe];split
 ·exact if_pos hn
 ·rfl
theorem zsf {h:Hist} {e:Ev} {a k:Nat} (hk:k < (zaj h e.o).length) (hr:(zap (e.o,e.v.t,e.v.k) (rkM h h.os.length)).getD 0=(k:Int)+1) (ea:zly h e.o ((k:Int)+1)=(zaj h e.o)[k]) (ht:((zaj h e.o)[k]==e.t)=true):zbe h e a= []:=by
 have hr:(zfi h e.o e.v).getD 0=(k:Int)+1:=hr
 rw [zbe];split
 ·rw [hr,ea,ht];split <;> rfl
 ·rfl
theorem zz0 {h:Hist} {e:Ev} {a k:Nat} (h3:e.kind=3) (hk:k < (zaj h e.o).length) (hr:(zap (e.o,e.v.t,e.v.k) (rkM h h.os.length)).getD 0=(k:Int)+1) (ea:zly h e.o ((k:Int)+1)=(zaj h e.o)[k]) (ht:((zaj h e.o)[k]==e.t)=false):zbe h e a= [wrC h e a 1 (zaj h e.o)[k] e.o 0]:=by
 have hr:(zfi h e.o e.v).getD 0=(k:Int)+1:=hr
 rw [zbe,if_pos (by simpa using h3),hr,ea,ht,if_neg (by simp;omega),if_neg (by decide)]
theorem yef {σ:Type} (h:Hist) (la:Lim 4611686018427387904 h) (hc:q6 h=0) (a:Nat) (ha:a < h.evs.length) (y:AV) (bp ba:Nat) (bl rd rf rk rg:Nat) (M0:List ((Int×Int)×List Int)) (hM0:zek h M0) (p:List Conf→σ→Prop) (q:σ→Prop) (I:List Conf→σ→List Res) (X:σ→List Res) (x0:σ) (hp0:p [] x0) (hy:∀pre d rest x M,(zbe h h.evs[a] a)=pre++d::rest→p pre x→zek h M→y1 Tryz.prog y [.agg (zan d)] (.box ba 3 [iv (a:Int)]:: .box bp 147 [pZ bl]:: .box bl 202 (wrP h rd rf rk rg)::rgR rg M::rkS h rk::zcx h rf::rcR h rd:: .glob 2 156 y2:: .glob 4 305 y3:: .glob 5 308 z8:: .glob 3 246 w6::I pre x) (fun r h'=>∃x',(r=bv true∧p (pre++ [d]) x'∧h'= .box ba 3 [iv (a:Int)]:: .box bp 147 [pZ bl]:: .box bl 202 (wrP h rd rf rk rg)::rgR rg M::rkS h rk::zcx h rf::rcR h rd:: .glob 2 156 y2:: .glob 4 305 y3:: .glob 5 308 z8:: .glob 3 246 w6::I (pre++ [d]) x')∨(r=bv false∧q x'∧h'= .box ba 3 [iv (a:Int)]:: .box bp 147 [pZ bl]:: .box bl 202 (wrP h rd rf rk rg)::rgR rg M::rkS h rk::zcx h rf::rcR h rd:: .glob 2 156 y2:: .glob 4 305 y3:: .glob 5 308 z8:: .glob 3 246 w6::X x'))):y8 Tryz.prog 158 [y,pZ bp,pZ ba] (.box ba 3 [iv (a:Int)]:: .box bp 147 [pZ bl]:: .box bl 202 (wrP h rd rf rk rg)::rgR rg M0::rkS h rk::zcx h rf::rcR h rd:: .glob 2 156 y2:: .glob 4 305 y3:: .glob 5 308 z8:: .glob 3 246 w6::I [] x0) (fun r h'=>∃x M,zek h M∧((p (zbe h h.evs[a] a) x∧h'= .box ba 3 [iv (a:Int)]:: .box bp 147 [pZ bl]:: .box bl 202 (wrP h rd rf rk rg)::rgR rg M::rkS h rk::zcx h rf::rcR h rd:: .glob 2 156 y2:: .glob 4 305 y3:: .glob 5 308 z8:: .glob 3 246 w6::I (zbe h h.evs[a] a) x)∨(q x∧h'= .box ba 3 [iv (a:Int)]:: .box bp 147 [pZ bl]:: .box bl 202 (wrP h rd rf rk rg)::rgR rg M::rkS h rk::zcx h rf::rcR h rd:: .glob 2 156 y2:: .glob 4 305 y3:: .glob 5 308 z8:: .glob 3 246 w6::X x))):=by
 refine z6 Tryz.func158 rfl rfl rfl ?_
 have ra:=zbs (f:=evR) ha
 refine rn ?_;refine j3 9 rfl ?_
 refine rn ?_;refine zke rfl fun b4=> ?_
 refine rn ?_;refine y0 rfl (fun hc17=> ?_) (fun hc17=> ?_)
 ·have h3:h.evs[a].kind≠3:=by simpa using hc17
  refine rn ?_;exact zdw .nil (.drop [_] _ _) ⟨x0,M0,hM0,.inl ⟨by rw [zsh h3];exact hp0,by rw [zsh h3]⟩⟩
 ·have h3:h.evs[a].kind=3:=by simpa using hc17
  obtain ⟨⟨o0,o1⟩, -⟩:=zkz (zdl (za0.1 hc) _ (List.getElem_mem ha)) h3
  refine rn ?_;refine j3 9 rfl ?_
  refine dq rfl rfl qrA ?_;refine dq rfl rfl qrA ?_;refine dq rfl rfl qrA ?_;refine dq rfl rfl qrA ?_;refine dq rfl rfl qrA ?_;refine dq rfl rfl qrA ?_;refine dq rfl rfl qrA ?_;refine dq rfl rfl qrA ?_;refine dq rfl rfl (u9 (out:= [iv h.evs[a].o,iv h.evs[a].v.t,iv h.evs[a].v.k]) rfl (by rfl)) ?_
  refine rn2 ?_;refine qq rfl rfl (zay (enc:=zcr) (k:=(h.evs[a].o,h.evs[a].v.t,h.evs[a].v.k)) (0:Int) rfl rfl) ?_
  refine rn ?_;refine j3 17 rfl ?_
  refine rn ?_;refine zcu (fun hg3_2=> ?_) (fun hg3_2=> ?_)
  ·refine rn ?_;refine zr8 rfl ?_;have hw:(zbe h h.evs[a] a)= []:=by
    first
    |exact zsg hg3_2
    |exact zsf hk hr ea hc46
   refine rn ?_;exact zdw .nil (.drop [_] _ _) ⟨x0,M0,hM0,.inl ⟨by rw [hw];exact hp0,by rw [hw]⟩⟩
  ·obtain ⟨k,hk,hr,ea⟩:=ylp (za0.1 hc) o0 o1 hg3_2
   have hil:=zla hc o0 o1
   rw [hr]
   have rr:((zaj h h.evs[a].o).map za9)[((k:Int)+1 - 1).toNat]? =some (za9 (zaj h h.evs[a].o)[k]):=by rw [show ((k:Int)+1 - 1).toNat=k by omega];exact zbs hk
   refine dq rfl rfl qrA ?_;refine dq rfl rfl qrA ?_;refine dq rfl rfl qrA ?_;refine dq rfl rfl qrA ?_;refine dq rfl rfl qrA ?_;refine dq rfl rfl qrA ?_;refine dq rfl rfl (zaw rfl rfl o0 (zh3 h o0 o1)) ?_
   refine dq rfl rfl qrA ?_;refine dq rfl rfl qrA ?_;refine dq rfl rfl (zf0 rfl rfl rfl (by omega)) ?_
   refine dq rfl rfl (zaw rfl rfl (by omega) rr) ?_
   refine rn ?_;refine y0 rfl (fun hc46=> ?_) (fun hc46=> ?_)
   ·have hw:(zbe h h.evs[a] a)= []:=by
     first
     |exact zsg hg3_2
     |exact zsf hk hr ea hc46
    refine rn ?_;exact zdw .nil (.drop [_] _ _) ⟨x0,M0,hM0,.inl ⟨by rw [hw];exact hp0,by rw [hw]⟩⟩
   ·have hw:(zbe h h.evs[a] a)= [(wrC h h.evs[a] a 1 (zaj h h.evs[a].o)[k] h.evs[a].o 0)]:=zz0 h3 hk hr ea hc46
    refine rn ?_;refine j3 18 rfl ?_
    refine dq rfl rfl qrA ?_;refine dq rfl rfl qrA ?_;refine dq rfl rfl qrA ?_;refine dq rfl rfl qrA ?_;refine dq rfl rfl qrA ?_;refine dq rfl rfl qrA ?_;refine dq rfl rfl qrA ?_;refine dq rfl rfl (zaw rfl rfl o0 (zh3 h o0 o1)) ?_
    refine dq rfl rfl qrA ?_;refine dq rfl rfl qrA ?_;refine dq rfl rfl (zf0 rfl rfl rfl (by omega)) ?_
    refine dq rfl rfl (zaw rfl rfl (by omega) rr) ?_
    refine rn ?_;refine dv rfl rfl (by exact y4 rfl rfl (y1.qt (y1.of_fun (ycz h (zaj h h.evs[a].o)[k] h.evs[a].o a ha o0 o1 (List.getElem_mem hk) bl rd rf rk rg M0 [])) ((pt3 _ _ _ _ _).trans (.cons _ ((pt3 _ _ _ _ _).trans (.cons _ ((pt3 _ _ _ _ _).trans (.cons _ ((pt3 _ _ _ _ _).trans (.cons _ ((pt3 _ _ _ _ _).trans (.cons _ ((pt3 _ _ _ _ _).trans (.cons _ ((pt3 _ _ _ _ _).trans (.cons _ ((pt3 _ _ _ _ _).trans (.cons _ (pt3 _ _ _ _ _))))))))))))))))))) ?_
    refine rn ?_;refine zke rfl fun b6=> ?_
    refine rn2 ?_;first|refine z7 rfl (u7 rfl rfl rfl ?_)|refine z7 rfl (zad rfl rfl rfl rfl (Nat.le_of_ble_eq_true rfl) ?_)
    refine u4 (zai ?_)
    refine w9 (y6 ?_)
    refine q1 ?_;first|refine z7 rfl (u7 rfl rfl rfl ?_)|refine z7 rfl (zad rfl rfl rfl rfl (Nat.le_of_ble_eq_true rfl) ?_)
    refine u4 (zai ?_)
    refine y6 ?_;refine q1 ?_;refine q1 ?_;refine z7 rfl (q7 rfl rfl (y1.fr2 (hy [] (wrC h h.evs[a] a 1 (zaj h h.evs[a].o)[k] h.evs[a].o 0) [] x0 M0 hw hp0 hM0)) rfl ?_)
    rintro _ _ ⟨_,rfl,x',⟨rfl,hp',rfl⟩|⟨rfl,hq',rfl⟩⟩
    ·refine rn ?_;first|exact zc4 .nil (.drop [_,_] _ _) ⟨x',M0,hM0,.inr ⟨hq',rfl⟩⟩|exact zc4 .nil (.drop [_,_] _ _) ⟨x',M0,hM0,.inl ⟨by rw [hw];exact hp',by rw [hw];rfl⟩⟩
    ·refine rn ?_;first|exact zc4 .nil (.drop [_,_] _ _) ⟨x',M0,hM0,.inr ⟨hq',rfl⟩⟩|exact zc4 .nil (.drop [_,_] _ _) ⟨x',M0,hM0,.inl ⟨by rw [hw];exact hp',by rw [hw];rfl⟩⟩
theorem zse {h:Hist} {a:Nat} (ha:a < h.evs.length) (hc:q6 h=0) (hs:zde h a≠0):zcz h h.evs[a] a= []:=by
 rw [zcz];split
 ·rename_i h4;exact absurd (ylf ha hc (eq_of_beq h4)).1 hs
 ·rfl
theorem yez {h:Hist} {a:Nat} (ha:a < h.evs.length) (hc:q6 h=0) (hs:zde h a=0):h.evs[a].kind=4:=by
 by_cases h4:h.evs[a].kind=4
 ·exact h4
 ·have:=(yhr (n:=(a:Int)) hc (fun q=>h4 (by rw [zpr ha] at q;exact q.2.2))).1
  omega
theorem znh {h:Hist} {e:Ev} {a:Nat} (h4:e.kind=4):zcz h e a=(k7 h e a).flatMap (zao h e a):=by rw [zcz,if_pos (by simpa using h4)]
theorem ye5 {h:Hist} {e:Ev} {a:Nat} {s:Seen} (hn:(!(zfi h s.o s.v).isSome)=true):zao h e a s= []:=by
 rw [zao];cases hq:zfi h s.o s.v with
 |none=>rfl
 |some r=>rw [hq] at hn;cases hn
theorem zqw {h:Hist} {e:Ev} {a:Nat} {s:Seen} {r:Int} (hr:zfi h s.o s.v=some r):zao h e a s=((chL h e.p s.o).takeWhile fun k=>decide (k≤r)).filterMap (wrQ h e a s.o):=by rw [zao,hr]
theorem zjz {q:Int→Bool}:∀(l:List Int) (j:Nat),((l.take j).all q)=true→l.takeWhile q=l.take j++(l.drop j).takeWhile q
 |_,0,_=>by simp
 | [],j+1,_=>by simp
 |a::l,j+1,h=>by
  rw [List.take_succ_cons,List.all_cons,Bool.and_eq_true] at h
  rw [List.takeWhile_cons,h.1,List.take_succ_cons,List.drop_succ_cons,if_pos rfl,zjz l j h.2];rfl
theorem yen {l:List Int} {r:Int} {j:Nat} (hj:j < l.length) (ha:((l.take j).all fun k=>decide (k≤r))=true) (hg:decide (l[j] > r)=true):(l.takeWhile fun k=>decide (k≤r))=l.take j:=by
 rw [zjz l j ha,List.drop_eq_getElem_cons hj,List.takeWhile_cons,if_neg (by have:=oT hg;simpa using this),List.append_nil]
theorem yh9 {l:List Int} {r:Int} {j:Nat} (hj:j=l.length) (ha:((l.take j).all fun k=>decide (k≤r))=true):(l.takeWhile fun k=>decide (k≤r))=l.take j:=by
 rw [zjz l j ha,hj,List.drop_length];simp
theorem ylx {l:List Int} {r:Int} {j:Nat} (hj:j < l.length) (ha:((l.take j).all fun k=>decide (k≤r))=true) (hg:decide (l[j] > r)=false):((l.take (j+1)).all fun k=>decide (k≤r))=true:=by
 rw [List.take_succ_eq_append_getElem hj,List.all_append,ha]
 have:=oF hg
 simp;omega
theorem ylc {h:Hist} {e:Ev} {a:Nat} {L:List Seen} {i:Nat} (hi:i < L.length):(L.take (i+1)).flatMap (zao h e a)=(L.take i).flatMap (zao h e a)++zao h e a L[i]:=by
 rw [List.take_succ_eq_append_getElem hi,List.flatMap_append];simp
theorem yh0 {h:Hist} {e:Ev} {a i j:Nat} {r:Int} {d:Conf} (h4:e.kind=4) (hi:i < (k7 h e a).length) (hr:zfi h (k7 h e a)[i].o (k7 h e a)[i].v=some r) (hj:j < (chL h e.p (k7 h e a)[i].o).length)
 (ha:(((chL h e.p (k7 h e a)[i].o).take j).all fun k=>decide (k≤r))=true) (hg:decide ((chL h e.p (k7 h e a)[i].o)[j] > r)=false) (hd:wrQ h e a (k7 h e a)[i].o (chL h e.p (k7 h e a)[i].o)[j]=some d):
 ∃rest,zcz h e a=(((k7 h e a).take i).flatMap (zao h e a)++((chL h e.p (k7 h e a)[i].o).take j).filterMap (wrQ h e a (k7 h e a)[i].o))++d::rest:=by
 have hg':=oF hg
 have e1:zao h e a (k7 h e a)[i]=((chL h e.p (k7 h e a)[i].o).take j).filterMap (wrQ h e a (k7 h e a)[i].o)++d::(((chL h e.p (k7 h e a)[i].o).drop (j+1)).takeWhile fun k=>decide (k≤r)).filterMap (wrQ h e a (k7 h e a)[i].o):=by
  rw [zqw hr,zjz _ j ha,List.drop_eq_getElem_cons hj,List.takeWhile_cons,if_pos (by simp;omega),List.filterMap_append,List.filterMap_cons,hd]
 refine ⟨(((chL h e.p (k7 h e a)[i].o).drop (j+1)).takeWhile fun k=>decide (k≤r)).filterMap (wrQ h e a (k7 h e a)[i].o)++((k7 h e a).drop (i+1)).flatMap (zao h e a),?_⟩
 rw [znh h4]
 conv=>lhs;rw [←List.take_append_drop i (k7 h e a),List.drop_eq_getElem_cons hi]
 rw [List.flatMap_append,List.flatMap_cons,e1]
 simp [List.append_assoc]
theorem yck {h:Hist} (hc:q6 h=0) {p x:Int} {k:Int} (hk:k∈chL h p x):1≤k∧k≤(zaj h x).length:=by
 rw [chL] at hk;split at hk
 ·rename_i ht
  rw [yha,zid] at hk
  obtain ⟨j,rfl,j0,j1,_⟩:=hk
  rw [zkq] at j1
  omega
 ·cases hk
theorem ygt {h:Hist} {x k:Int} (h1:1≤k) (h2:k≤(zaj h x).length):zly h x k∈zaj h x∧((zaj h x).map za9)[(k - 1).toNat]? =some (za9 (zly h x k)):=by
 have hl:(k - 1).toNat < (zaj h x).length:=by omega
 rw [zly,List.getElem?_eq_getElem hl,List.getElem?_map,List.getElem?_eq_getElem hl]
 exact ⟨List.getElem_mem hl,rfl⟩
theorem yh2 {h:Hist} {e:Ev} {a:Nat} {x k:Int} (ht:(zly h x k !=e.t)=false):wrQ h e a x k=none:=by rw [wrQ,if_pos (by simpa using ht)]
theorem yeg {h:Hist} {e:Ev} {a:Nat} {x k:Int} (ht:(zly h x k !=e.t)=true):wrQ h e a x k=some (wrC h e a 2 (zly h x k) x e.p):=by rw [wrQ,if_neg (by simpa using ht)]
theorem yed {σ:Type} (h:Hist) (la:Lim 4611686018427387904 h) (hc:q6 h=0) (a:Nat) (ha:a < h.evs.length) (y:AV) (bp ba:Nat) (bl rd rf rk rg:Nat) (M0:List ((Int×Int)×List Int)) (hM0:zek h M0) (p:List Conf→σ→Prop) (q:σ→Prop) (I:List Conf→σ→List Res) (X:σ→List Res) (x0:σ) (hp0:p [] x0) (hy:∀pre d rest x M,(zcz h h.evs[a] a)=pre++d::rest→p pre x→zek h M→y1 Tryz.prog y [.agg (zan d)] (.box ba 3 [iv (a:Int)]:: .box bp 147 [pZ bl]:: .box bl 202 (wrP h rd rf rk rg)::rgR rg M::rkS h rk::zcx h rf::rcR h rd:: .glob 2 156 y2:: .glob 4 305 y3:: .glob 5 308 z8:: .glob 3 246 w6::I pre x) (fun r h'=>∃x',(r=bv true∧p (pre++ [d]) x'∧h'= .box ba 3 [iv (a:Int)]:: .box bp 147 [pZ bl]:: .box bl 202 (wrP h rd rf rk rg)::rgR rg M::rkS h rk::zcx h rf::rcR h rd:: .glob 2 156 y2:: .glob 4 305 y3:: .glob 5 308 z8:: .glob 3 246 w6::I (pre++ [d]) x')∨(r=bv false∧q x'∧h'= .box ba 3 [iv (a:Int)]:: .box bp 147 [pZ bl]:: .box bl 202 (wrP h rd rf rk rg)::rgR rg M::rkS h rk::zcx h rf::rcR h rd:: .glob 2 156 y2:: .glob 4 305 y3:: .glob 5 308 z8:: .glob 3 246 w6::X x'))):y8 Tryz.prog 160 [y,pZ bp,pZ ba] (.box ba 3 [iv (a:Int)]:: .box bp 147 [pZ bl]:: .box bl 202 (wrP h rd rf rk rg)::rgR rg M0::rkS h rk::zcx h rf::rcR h rd:: .glob 2 156 y2:: .glob 4 305 y3:: .glob 5 308 z8:: .glob 3 246 w6::I [] x0) (fun r h'=>∃x M,zek h M∧((p (zcz h h.evs[a] a) x∧h'= .box ba 3 [iv (a:Int)]:: .box bp 147 [pZ bl]:: .box bl 202 (wrP h rd rf rk rg)::rgR rg M::rkS h rk::zcx h rf::rcR h rd:: .glob 2 156 y2:: .glob 4 305 y3:: .glob 5 308 z8:: .glob 3 246 w6::I (zcz h h.evs[a] a) x)∨(q x∧h'= .box ba 3 [iv (a:Int)]:: .box bp 147 [pZ bl]:: .box bl 202 (wrP h rd rf rk rg)::rgR rg M::rkS h rk::zcx h rf::rcR h rd:: .glob 2 156 y2:: .glob 4 305 y3:: .glob 5 308 z8:: .glob 3 246 w6::X x))):=by
 refine z6 Tryz.func160 rfl rfl rfl ?_
 have ra:=zbs (f:=evR) ha
 refine zie ?_;refine rn ?_;refine j3 9 rfl ?_
 refine rn ?_;refine zke rfl fun b4=> ?_
 refine rn ?_;refine j3 10 rfl ?_
 refine rn ?_;refine dv rfl rfl (by exact y4 rfl rfl (y1.qt (y1.of_fun (ydj h la a)) ((pt8 _ _ _ _ _ _ _ _ _ _).trans (.cons _ ((pt8 _ _ _ _ _ _ _ _ _ _).trans (.cons _ ((pt8 _ _ _ _ _ _ _ _ _ _).trans (.cons _ (pt8 _ _ _ _ _ _ _ _ _ _))))))))) ?_
 refine rn ?_;refine y0 rfl (fun hc33=> ?_) (fun hc33=> ?_)
 ·have hs:=nzT hc33
  refine rn ?_;refine ⟨fun l h=>(by cases h),?_⟩
  exact zdw .nil (.drop [_] _ _) ⟨x0,M0,hM0,.inl ⟨by rw [zse ha hc hs];exact hp0,by rw [zse ha hc hs]⟩⟩
 ·have hs:=nzF hc33
  have h4:=yez ha hc hs
  rw [(ylf ha hc h4).2]
  have hsl:(k7 h h.evs[a] a).length≤3000:=by rw [zkv];exact (zdk hc).os
  refine rn ?_;refine zfg (k7 h h.evs[a] a).length (fun i (z:σ×List ((Int×Int)×List Int))=>p (((k7 h h.evs[a] a).take i).flatMap (zao h h.evs[a] a)) z.1∧zek h z.2) (fun i z=>⟨[(36,iv i),(0,y),(1,pZ bp),(2,pZ ba),(4,pZ b4),(34,zgw (k7 h h.evs[a] a)),(35,iv ((k7 h h.evs[a] a).map zas).length)],.box b4 60 (evR h.evs[a]):: .box ba 3 [iv (a:Int)]:: .box bp 147 [pZ bl]:: .box bl 202 (wrP h rd rf rk rg)::rgR rg z.2::rkS h rk::zcx h rf::rcR h rd:: .glob 2 156 y2:: .glob 4 305 y3:: .glob 5 308 z8:: .glob 3 246 w6::I (((k7 h h.evs[a] a).take i).flatMap (zao h h.evs[a] a)) z.1,[]⟩) (x0,M0) ⟨hp0,hM0⟩ es ?_
  rintro i ⟨x,M⟩ li ⟨zi,hM⟩
  have zi:p (((k7 h h.evs[a] a).take i).flatMap (zao h h.evs[a] a)) x:=zi
  have hM:zek h M:=hM
  show aw _ _ _ _ _ ⟨[(36,iv i),(0,y),(1,pZ bp),(2,pZ ba),(4,pZ b4),(34,zgw (k7 h h.evs[a] a)),(35,iv ((k7 h h.evs[a] a).map zas).length)],.box b4 60 (evR h.evs[a]):: .box ba 3 [iv (a:Int)]:: .box bp 147 [pZ bl]:: .box bl 202 (wrP h rd rf rk rg)::rgR rg M::rkS h rk::zcx h rf::rcR h rd:: .glob 2 156 y2:: .glob 4 305 y3:: .glob 5 308 z8:: .glob 3 246 w6::I (((k7 h h.evs[a] a).take i).flatMap (zao h h.evs[a] a)) x,[]⟩
  refine rn ?_;refine y0 rfl (fun hc37=> ?_) (fun hc37=> ?_)
  ·have hi:=zdb hc37
   have ri:=zbs (f:=zas) hi
   obtain ⟨⟨o0,o1⟩, -⟩:=zwd (List.getElem_mem hi)
   have hcl:=ztt hc h.evs[a].p (k7 h h.evs[a] a)[i].o
   have hil:=zla hc o0 o1
   refine rn ?_;refine z7 rfl (y7 rfl fun b8=> ?_)
   refine rn ?_;refine j3 10 rfl ?_
   refine dq rfl rfl qrA ?_;refine dq rfl rfl qrA ?_;refine dq rfl rfl qrA ?_;refine dq rfl rfl qrA ?_;refine dq rfl rfl (zq6 (zdi rfl rfl) (show AV.agg (zas (k7 h h.evs[a] a)[i])=AV.agg [iv (k7 h h.evs[a] a)[i].o,iv (k7 h h.evs[a] a)[i].v.t,iv (k7 h h.evs[a] a)[i].v.k] from rfl)) ?_
   refine dq rfl rfl (zd8 (g:=iv) (enc:=zcr) (k:=((k7 h h.evs[a] a)[i].o,(k7 h h.evs[a] a)[i].v.t,(k7 h h.evs[a] a)[i].v.k)) (0:Int) rfl rfl rfl) ?_
   refine rn ?_;refine y0 rfl (fun hc50=> ?_) (fun hc50=> ?_)
   ·have hw:zao h h.evs[a] a (k7 h h.evs[a] a)[i]= []:=ye5 hc50
    refine rn ?_;exact ⟨hi,(x,M),⟨by simp only;rw [ylc hi,hw,List.append_nil];exact zi,hM⟩,by simp only;rw [ylc hi,hw,List.append_nil];exact eA⟩
   ·obtain ⟨r0,hr⟩:∃r,(zap ((k7 h h.evs[a] a)[i].o,(k7 h h.evs[a] a)[i].v.t,(k7 h h.evs[a] a)[i].v.k) (rkM h h.os.length))=some r:=Option.isSome_iff_exists.1 (by simpa using hc50)
    have hr':zfi h (k7 h h.evs[a] a)[i].o (k7 h h.evs[a] a)[i].v=some r0:=hr
    rw [hr,Option.getD_some,Option.isSome_some]
    refine rn ?_;refine z7 rfl (q7 rfl rfl (y1.fr4 (y1.of_fun (ylu h la hc h.evs[a].p (k7 h h.evs[a] a)[i].o bl rd rf rk rg M hM (I (((k7 h h.evs[a] a).take i).flatMap (zao h h.evs[a] a)) x)))) rfl ?_)
    rintro _ _ ⟨_,rfl,M',hM',rfl,rfl⟩
    refine rn ?_;refine zfg (chL h h.evs[a].p (k7 h h.evs[a] a)[i].o).length (fun j (x:σ)=>(((chL h h.evs[a].p (k7 h h.evs[a] a)[i].o).take j).all fun k=>decide (k≤r0))=true∧p ((((k7 h h.evs[a] a).take i).flatMap (zao h h.evs[a] a))++((chL h h.evs[a].p (k7 h h.evs[a] a)[i].o).take j).filterMap (wrQ h h.evs[a] a (k7 h h.evs[a] a)[i].o)) x) (fun j x=>⟨[(58,iv j),(0,y),(1,pZ bp),(2,pZ ba),(4,pZ b4),(8,pZ b8),(9,iv r0),(34,zgw (k7 h h.evs[a] a)),(35,iv ((k7 h h.evs[a] a).map zas).length),(36,iv i),(56,za5 (chL h h.evs[a].p (k7 h h.evs[a] a)[i].o)),(57,iv ((chL h h.evs[a].p (k7 h h.evs[a] a)[i].o).map za9).length)],.box b8 70 (zas (k7 h h.evs[a] a)[i]):: .box b4 60 (evR h.evs[a]):: .box ba 3 [iv (a:Int)]:: .box bp 147 [pZ bl]:: .box bl 202 (wrP h rd rf rk rg)::rgR rg M'::rkS h rk::zcx h rf::rcR h rd:: .glob 2 156 y2:: .glob 4 305 y3:: .glob 5 308 z8:: .glob 3 246 w6::I ((((k7 h h.evs[a] a).take i).flatMap (zao h h.evs[a] a))++((chL h h.evs[a].p (k7 h h.evs[a] a)[i].o).take j).filterMap (wrQ h h.evs[a] a (k7 h h.evs[a] a)[i].o)) x,[]⟩) x ⟨by simp,by simpa using zi⟩ (by simpa using eA) ?_
    intro j x lj zj
    refine rn ?_;refine y0 rfl (fun hc59=> ?_) (fun hc59=> ?_)
    ·have hj:=zdb hc59
     have rj:=zbs (f:=za9) hj
     obtain ⟨k0,k1⟩:=yck hc (List.getElem_mem hj)
     obtain ⟨hmem,rr⟩:=ygt k0 k1
     refine rn ?_;refine y0 rfl (fun hc64=> ?_) (fun hc64=> ?_)
     ·have htw:=yen hj zj.1 hc64
      refine rn ?_;have e1:((((k7 h h.evs[a] a).take i).flatMap (zao h h.evs[a] a))++((chL h h.evs[a].p (k7 h h.evs[a] a)[i].o).take j).filterMap (wrQ h h.evs[a] a (k7 h h.evs[a] a)[i].o))=(((k7 h h.evs[a] a).take (i+1)).flatMap (zao h h.evs[a] a)):=by rw [ylc hi,zqw hr',htw]
      exact ⟨hi,(x,M'),⟨by rw [←e1];exact zj.2,hM'⟩,by simp only;rw [←e1];exact eA⟩
     ·have hon:=ylx hj zj.1 hc64
      refine rn ?_;refine j3 10 rfl ?_
      refine dq rfl rfl qrA ?_;refine dq rfl rfl qrA ?_;refine dq rfl rfl qrA ?_;refine dq rfl rfl qrA ?_;refine dq rfl rfl qrA ?_;refine dq rfl rfl qrA ?_;refine dq rfl rfl (zaw rfl rfl o0 (zh3 h o0 o1)) ?_
      refine dq rfl rfl qrA ?_;refine dq rfl rfl qrA ?_;refine dq rfl rfl (zf0 rfl rfl rfl (by omega)) ?_
      refine rn2 ?_;refine qq rfl rfl (zaw rfl rfl (by omega) rr) ?_
      refine rn ?_;refine qv rfl rfl (y4 rfl rfl (y1.qt (y1.of_fun (ycz h (zly h (k7 h h.evs[a] a)[i].o (chL h h.evs[a].p (k7 h h.evs[a] a)[i].o)[j]) (k7 h h.evs[a] a)[i].o a ha o0 o1 hmem bl rd rf rk rg M' [])) ((pt4 _ _ _ _ _ _).trans (.cons _ ((pt4 _ _ _ _ _ _).trans (.cons _ ((pt4 _ _ _ _ _ _).trans (.cons _ ((pt4 _ _ _ _ _ _).trans (.cons _ ((pt4 _ _ _ _ _ _).trans (.cons _ ((pt4 _ _ _ _ _ _).trans (.cons _ ((pt4 _ _ _ _ _ _).trans (.cons _ ((pt4 _ _ _ _ _ _).trans (.cons _ (pt4 _ _ _ _ _ _))))))))))))))))))) ?_
      refine z7 rfl (y7 rfl fun b14=> ?_)
      refine rn ?_;refine zdn 4 [(b14,41,_)] rfl (List.perm_append_comm (l₁:= [_])) ?_
      refine rn ?_;refine dw 0 rfl rfl rfl rfl rfl (Nat.le_of_ble_eq_true rfl) ?_
      refine rn2 ?_;show zb8 _ _ _ _ _ _ ⟨_,.box b14 41 (zan ⟨zly h (k7 h h.evs[a] a)[i].o (chL h h.evs[a].p (k7 h h.evs[a] a)[i].o)[j],h.evs[a].t,2,zcd h (zly h (k7 h h.evs[a] a)[i].o (chL h h.evs[a].p (k7 h h.evs[a] a)[i].o)[j]) (k7 h h.evs[a] a)[i].o,a,(k7 h h.evs[a] a)[i].o,0⟩):: .box b8 70 (zas (k7 h h.evs[a] a)[i]):: .box b4 60 (evR h.evs[a]):: .box ba 3 [iv (a:Int)]:: .box bp 147 [pZ bl]:: .box bl 202 (wrP h rd rf rk rg)::rgR rg M'::rkS h rk::zcx h rf::rcR h rd:: .glob 2 156 y2:: .glob 4 305 y3:: .glob 5 308 z8:: .glob 3 246 w6::I ((((k7 h h.evs[a] a).take i).flatMap (zao h h.evs[a] a))++((chL h h.evs[a].p (k7 h h.evs[a] a)[i].o).take j).filterMap (wrQ h h.evs[a] a (k7 h h.evs[a] a)[i].o)) x,_⟩
      refine rn ?_;refine v8 (fun hg15_4=> ?_) (fun hg15_4=> ?_)
      ·refine q1 ?_;refine q1 ?_;obtain ⟨rest,hL⟩:=yh0 h4 hi hr' hj zj.1 hc64 (yeg hg15_4)
       refine z7 rfl (q7 rfl rfl (y1.fr3 (hy ((((k7 h h.evs[a] a).take i).flatMap (zao h h.evs[a] a))++((chL h h.evs[a].p (k7 h h.evs[a] a)[i].o).take j).filterMap (wrQ h h.evs[a] a (k7 h h.evs[a] a)[i].o)) _ rest x M' hL zj.2 hM')) rfl ?_)
       rintro _ _ ⟨_,rfl,x',⟨rfl,hp',rfl⟩|⟨rfl,hq',rfl⟩⟩
       ·refine rn ?_;refine y0 rfl (fun hc96=> ?_) (fun hc96=> ?_)
        ·first|cases hc96|exact absurd hc96 (by decide)|(exfalso;simp_all;done)
        ·refine rn ?_;exact ⟨hj,x',⟨hon,by rw [yhw hj (yeg hg15_4),←List.append_assoc];exact hp'⟩,by rw [yhw hj (yeg hg15_4),←List.append_assoc];exact eA⟩
       ·refine rn ?_;refine y0 rfl (fun hc96=> ?_) (fun hc96=> ?_)
        ·refine rn ?_;refine ⟨fun l h=>(by cases h),?_⟩
         exact zdw .nil (.drop [_,_,_] _ _) ⟨x',M',hM',.inr ⟨hq',rfl⟩⟩
        ·first|cases hc96|exact absurd hc96 (by decide)|(exfalso;simp_all;done)
      ·refine rn ?_;refine zoe rfl ?_;refine rn ?_;exact ⟨hj,x,⟨hon,by rw [yhx hj (yh2 hg15_4)];exact zj.2⟩,by rw [yhx hj (yh2 hg15_4)];exact eA⟩
    ·have qj:=zdd hc59 lj
     refine rn ?_;have htw:=yh9 qj zj.1
     have e1:((((k7 h h.evs[a] a).take i).flatMap (zao h h.evs[a] a))++((chL h h.evs[a].p (k7 h h.evs[a] a)[i].o).take j).filterMap (wrQ h h.evs[a] a (k7 h h.evs[a] a)[i].o))=(((k7 h h.evs[a] a).take (i+1)).flatMap (zao h h.evs[a] a)):=by rw [ylc hi,zqw hr',htw]
     exact ⟨hi,(x,M'),⟨by rw [←e1];exact zj.2,hM'⟩,by simp only;rw [←e1];exact eA⟩
  ·have qi:=zdd hc37 li
   refine rn ?_;refine ⟨fun l h=>(by cases h),?_⟩
   exact zc4 .nil (.drop [_] _ _) ⟨x,M,hM,.inl ⟨by rw [znh h4];rw [qi,List.take_length] at zi;exact zi,by rw [znh h4,qi,List.take_length]⟩⟩
def zb1:List AV:= [.any,.fn (.func 302) [] [],.fn (.func 302) [] [],.fn (.func 303) [] [],.fn (.func 304) [] [],.fn (.func 302) [] [],.fn (.func 302) [] []]
def yak (k:Nat):AV:=zb1.getD k .any
theorem yaj {k:Nat} (h2:k≤6):zb1[k]? =some (yak k):=by
 have:k < zb1.length:=by show k < 7;omega
 rw [yak,List.getD_eq_getElem?_getD,List.getElem?_eq_getElem this];rfl
def zh4 (h:Hist) (x r:Int):Int:=((zaj h x)[(r - 1).toNat]?).getD 0
def zu0 (h:Hist) (e:Ev) (a:Nat) (x r:Int):Conf:=if r > ((zaj h x).length:Int) then ⟨0,0,0,0,0,0,0⟩ else ⟨e.t,zh4 h x r,zxz e.kind,a,zcd h (zh4 h x r) x,x,e.p⟩
def zn2 (h:Hist) (e:Ev) (x r:Int):Bool:=if r > ((zaj h x).length:Int) then false else zh4 h x r !=e.t
theorem yds {h:Hist} {e:Ev} {a:Nat} {x r:Int} (hb:zn2 h e x r=true):ze0 h e (zfp e) a x r=some (zu0 h e a x r):=by
 rw [zn2] at hb
 split at hb
 ·cases hb
 ·rename_i hr
  have hn:¬(((zaj h x)[(r - 1).toNat]?).getD 0==e.t)=true:=by rw [show ((zaj h x)[(r - 1).toNat]?).getD 0=zh4 h x r from rfl];simpa using hb
  rw [ze0,if_neg hr,if_neg hn,zu0,if_neg hr];rfl
theorem yj3 {h:Hist} {e:Ev} {a:Nat} {x r:Int} (hb:zn2 h e x r=false):ze0 h e (zfp e) a x r=none:=by
 rw [zn2] at hb
 rw [ze0]
 split at hb
 ·rename_i hr;rw [if_pos hr]
 ·rename_i hr
  rw [if_neg hr,if_pos (by rw [show ((zaj h x)[(r - 1).toNat]?).getD 0=zh4 h x r from rfl];simpa using hb)]
theorem seen_ok {h:Hist} (hc:q6 h=0) {e:Ev} (he:e∈h.evs) (a:Nat):(v7 h e a).length≤4000∧∀p∈v7 h e a,(0≤p.1∧p.1 < h.os.length)∧p.2.length≤4000∧∀r∈p.2,1≤r∧r≤5000:=by
 have hs:=za0.1 hc
 have lA:=zdk hc
 have lO:=lA.os
 rw [v7]
 split
 ·rename_i h3
  obtain ⟨⟨o0,o1⟩,_⟩:=zkz (zdl hs _ he) h3
  rw [ze8]
  cases hr:zfi h e.o e.v with
  |none=>exact ⟨Nat.zero_le _,fun p hp=>by cases hp⟩
  |some r=>
   have:=yio hc o0 o1 hr
   refine ⟨by show 1≤4000;decide,fun p hp=> ?_⟩
   rw [List.mem_singleton] at hp
   subst hp
   refine ⟨⟨o0,o1⟩,by show 1≤4000;decide,fun q hq=> ?_⟩
   rw [List.mem_singleton] at hq
   subst hq
   omega
 ·split
  ·rename_i h4
   refine ⟨?_,fun p hp=> ?_⟩
   ·refine Nat.le_trans (List.length_filterMap_le _ _) ?_
    rw [zkv];omega
   ·rw [zno,List.mem_filterMap] at hp
    obtain ⟨s,hsm,hp⟩:=hp
    obtain ⟨⟨o0,o1⟩,_⟩:=zwd hsm
    unfold zd6 at hp
    split at hp
    ·cases hp
    ·split at hp
     ·injection hp with hp
      subst hp
      have hcl:=ztt hc e.p s.o
      refine ⟨⟨o0,o1⟩,Nat.le_trans (List.dropWhile_sublist _).length_le hcl,fun r hr=> ?_⟩
      have hr':r∈chL h e.p s.o:=(List.dropWhile_sublist _).subset hr
      rw [chL] at hr'
      split at hr'
      ·rename_i ht
       rw [yha,zid] at hr'
       obtain ⟨j,rfl,j0,j1,_⟩:=hr'
       rw [zkq] at j1
       have:=zla hc o0 o1
       omega
      ·cases hr'
     ·cases hp
  ·exact ⟨Nat.zero_le _,fun p hp=>by cases hp⟩
def rwF (h:Hist) (e:Ev) (a:Nat) (p:Int×List Int):List Conf:=p.2.filterMap (ze0 h e (zfp e) a p.1)
theorem zrv {h:Hist} {e:Ev} (a:Nat) (hm:zf7 h.evs e.t 5=true):zf8 h e a=(v7 h e a).flatMap (rwF h e a):=by rw [zf8,if_pos hm];rfl
theorem zx9 {h:Hist} {e:Ev} (a:Nat) (hm:zf7 h.evs e.t 5=false):zf8 h e a= []:=by rw [zf8,if_neg (by rw [hm];decide)]
theorem yog {h:Hist} {e:Ev} {a:Nat} {L:List (Int×List Int)} {i:Nat} (hi:i < L.length):(L.take (i+1)).flatMap (rwF h e a)=(L.take i).flatMap (rwF h e a)++rwF h e a L[i]:=by
 rw [List.take_succ_eq_append_getElem hi,List.flatMap_append];simp
theorem yde {h:Hist} {e:Ev} {a:Nat} {L:List (Int×List Int)} {i j:Nat} (hi:i < L.length) (qj:j=L[i].2.length):(L.take i).flatMap (rwF h e a)++(L[i].2.take j).filterMap (ze0 h e (zfp e) a L[i].1)=(L.take (i+1)).flatMap (rwF h e a):=by
 rw [yog hi,qj,List.take_length];rfl
theorem yir {h:Hist} {e:Ev} {a:Nat} {i j:Nat} {d:Conf} (hm:zf7 h.evs e.t 5=true) (hi:i < (v7 h e a).length) (hj:j < (v7 h e a)[i].2.length) (hd:ze0 h e (zfp e) a (v7 h e a)[i].1 (v7 h e a)[i].2[j]=some d):
 ∃rest,zf8 h e a=(((v7 h e a).take i).flatMap (rwF h e a)++((v7 h e a)[i].2.take j).filterMap (ze0 h e (zfp e) a (v7 h e a)[i].1))++d::rest:=by
 have e1:rwF h e a (v7 h e a)[i]=((v7 h e a)[i].2.take j).filterMap (ze0 h e (zfp e) a (v7 h e a)[i].1)++d::((v7 h e a)[i].2.drop (j+1)).filterMap (ze0 h e (zfp e) a (v7 h e a)[i].1):=by
  conv=>lhs;rw [rwF,←List.take_append_drop j (v7 h e a)[i].2,List.drop_eq_getElem_cons hj]
  rw [List.filterMap_append,List.filterMap_cons,hd]
 refine ⟨((v7 h e a)[i].2.drop (j+1)).filterMap (ze0 h e (zfp e) a (v7 h e a)[i].1)++((v7 h e a).drop (i+1)).flatMap (rwF h e a),?_⟩
 rw [zrv a hm]
 conv=>lhs;rw [←List.take_append_drop i (v7 h e a),List.drop_eq_getElem_cons hi]
 rw [List.flatMap_append,List.flatMap_cons,e1]
 simp [List.append_assoc]
theorem ylh {h:Hist} {e:Ev} {a:Nat} {B:List Conf} {x:Int} {l:List Int} {j:Nat} (hj:j < l.length) (hb:zn2 h e x l[j]=true):B++(l.take (j+1)).filterMap (ze0 h e (zfp e) a x)=B++(l.take j).filterMap (ze0 h e (zfp e) a x)++ [zu0 h e a x l[j]]:=by
 rw [yhw hj (yds hb),List.append_assoc]
theorem yli {h:Hist} {e:Ev} {a:Nat} {B:List Conf} {x:Int} {l:List Int} {j:Nat} (hj:j < l.length) (hb:zn2 h e x l[j]=false):B++(l.take (j+1)).filterMap (ze0 h e (zfp e) a x)=B++(l.take j).filterMap (ze0 h e (zfp e) a x):=by
 rw [yhx hj (yj3 hb)]
theorem yjy {h:Hist} (hc:q6 h=0) {e:Ev} (he:e∈h.evs):∃kn:Nat,1≤kn∧kn≤6∧e.kind=(kn:Int):=by
 obtain ⟨k1,k2,_⟩:=zb7 (zdl (za0.1 hc) _ he)
 exact ⟨e.kind.toNat,by omega,by omega,by omega⟩
theorem yii (h:Hist) (la:Lim 4611686018427387904 h) (hc:q6 h=0) (a:Nat) (ha:a < h.evs.length) (rc rl rk rg:Nat) (M:List ((Int×Int)×List Int)) (hM:zek h M) (W:List Res) {kn:Nat} (h1:1≤kn) (h6:kn≤6) (hk:h.evs[a].kind=(kn:Int)):y1 Tryz.prog (yak kn) [.agg (rwP h rc rl rk rg),iv (a:Int)] (rgR rg M::rkS h rk::zbr h rl::rcR h rc:: .glob 2 156 y2:: .glob 4 305 y3:: .glob 5 308 z8:: .glob 3 246 w6::W) (fun r h'=>∃M',zek h M'∧h'=rgR rg M'::rkS h rk::zbr h rl::rcR h rc:: .glob 2 156 y2:: .glob 4 305 y3:: .glob 5 308 z8:: .glob 3 246 w6::W∧r=zha (v7 h h.evs[a] a)):=by
 have no:h.evs[a].kind≠3→h.evs[a].kind≠4→y1 Tryz.prog (.fn (.func 302) [] []) [.agg (rwP h rc rl rk rg),iv (a:Int)] (rgR rg M::rkS h rk::zbr h rl::rcR h rc:: .glob 2 156 y2:: .glob 4 305 y3:: .glob 5 308 z8:: .glob 3 246 w6::W) (fun r h'=>∃M',zek h M'∧h'=rgR rg M'::rkS h rk::zbr h rl::rcR h rc:: .glob 2 156 y2:: .glob 4 305 y3:: .glob 5 308 z8:: .glob 3 246 w6::W∧r=zha (v7 h h.evs[a] a)):=fun n3 n4=>
  y1.of_fun ((zwl h rc rl rk rg (a:Int) (rgR rg M::rkS h rk::zbr h rl::rcR h rc:: .glob 2 156 y2:: .glob 4 305 y3:: .glob 5 308 z8:: .glob 3 246 w6::W)).mono fun _ _ q=>⟨M,hM,q.1,by rw [q.2,v7,if_neg n3,if_neg n4]⟩)
 match kn,h1,h6 with
 |1,_,_=>exact no (by omega) (by omega)
 |2,_,_=>exact no (by omega) (by omega)
 |3,_,_=>exact y1.of_fun ((yik h la hc a ha hk rc rl rk rg M W).mono fun _ _ q=>⟨M,hM,q.1,by rw [q.2,v7,if_pos (show h.evs[a].kind=3 from hk)]⟩)
 |4,_,_=>exact y1.of_fun ((yij h la hc a ha hk rc rl rk rg M hM W).mono fun _ _ ⟨M',q1,q2,q3⟩=>⟨M',q1,q2,by rw [q3,v7,if_neg (by omega),if_pos (show h.evs[a].kind=4 from hk)]⟩)
 |5,_,_=>exact no (by omega) (by omega)
 |6,_,_=>exact no (by omega) (by omega)
 |n+7,_,h6=>omega
theorem yil (h:Hist) (x r:Int) (h0:0≤x) (h1:x < h.os.length) (r1:1≤r) (r2:r≤5000) (e:Ev) (a:Nat) (bp be ba:Nat) (rc rl rk rg:Nat) (M:List ((Int×Int)×List Int)) (rO:Nat) (oK:Obj) (hK:KO oK) (W:List Res):y8 Tryz.prog 135 [iv x,iv r,pZ bp,pZ be,pZ ba] (.box be 60 (evR e):: .box ba 3 [iv (a:Int)]:: .box bp 119 (rwP h rc rl rk rg)::rgR rg M::rkS h rk::zbr h rl::rcR h rc:: .glob 2 156 y2:: .glob 4 305 y3:: .glob 5 308 z8:: .glob 3 246 w6:: .glob 1 175 zb1:: .glob 0 171 [mpv rO]:: .obj rO oK::W) (fun r_ h'=>h'= .box be 60 (evR e):: .box ba 3 [iv (a:Int)]:: .box bp 119 (rwP h rc rl rk rg)::rgR rg M::rkS h rk::zbr h rl::rcR h rc:: .glob 2 156 y2:: .glob 4 305 y3:: .glob 5 308 z8:: .glob 3 246 w6:: .glob 1 175 zb1:: .glob 0 171 [mpv rO]:: .obj rO oK::W∧r_= .tup [.agg (zan (zu0 h e a x r)),bv (zn2 h e x r)]):=by
 refine z6 Tryz.func135 rfl rfl rfl ?_
 refine rn ?_;refine z7 rfl (y7 rfl fun b7=> ?_)
 refine q1 ?_;refine u4 (zai ?_)
 refine w9 ?_;refine w9 (y6 ?_)
 refine q1 ?_;refine q1 ?_;refine q1 ?_;refine q1 ?_;refine qq rfl rfl (zaw rfl rfl h0 (zh3 h h0 h1)) ?_
 refine rn ?_;refine y0 rfl (fun hc17=> ?_) (fun hc17=> ?_)
 ·have hr:r > ((zaj h x).length:Int):=by have q:=oT hc17;rw [oM] at q;exact q
  refine rn ?_;exact zdw (.cons _ _ _ _ (.agg _ _ _ _ _ _ _ rfl inferInstance inferInstance inferInstance rfl) (.cons _ _ _ _ (.tmp _ _ rfl) .nil)) (.drop [_] _ _) ⟨rfl,by rw [zu0,zn2,if_pos hr,if_pos hr];rfl⟩
 ·have hr:¬r > ((zaj h x).length:Int):=by have q:=oF hc17;rw [oM] at q;exact q
  have hk:(r - 1).toNat < (zaj h x).length:=by omega
  have rr:((zaj h x).map za9)[(r - 1).toNat]? =some (za9 (zh4 h x r)):=by rw [zh4,List.getElem?_map,List.getElem?_eq_getElem hk];rfl
  refine zbz ?_;refine zai ?_;refine w9 (y6 ?_)
  refine q1 ?_;refine q1 ?_;refine q1 ?_;refine qq rfl rfl (zaw rfl rfl h0 (zh3 h h0 h1)) ?_
  refine q1 ?_;refine q1 ?_;refine qq rfl rfl (zf0 rfl rfl rfl (by omega)) ?_
  refine qq rfl rfl (zaw rfl rfl (by omega) rr) ?_
  refine rn ?_;refine zdn 23 [(b7,41,_)] rfl (List.perm_append_comm (l₁:= [_])) ?_
  refine dq rfl rfl qrA ?_;refine dq rfl rfl qrA ?_;refine dq rfl rfl qrA ?_;refine dq rfl rfl qrA ?_;refine dq rfl rfl qrA ?_;refine dq rfl rfl qrA ?_;refine dq rfl rfl (yax (k:=e.kind) hK rfl rfl) ?_
  refine dq rfl rfl qrA ?_;refine dq rfl rfl qrA ?_;refine dq rfl rfl qrA ?_;refine dq rfl rfl qrA ?_;refine dq rfl rfl qrA ?_;refine dq rfl rfl (za7 (out:= [iv (zh4 h x r),iv x]) rfl (by rfl)) ?_
  refine dq rfl rfl (zq6 (zay (enc:=zag) (k:=(zh4 h x r,x)) 0 rfl rfl) (show iv _=iv (zcd h (zh4 h x r) x) from congrArg iv (zsk _ _ _))) ?_
  refine dq rfl rfl qrA ?_;refine dq rfl rfl qrA ?_;refine dq rfl rfl qrA ?_;refine dq rfl rfl (u9 (out:=zan ⟨e.t,zh4 h x r,zxz e.kind,a,zcd h (zh4 h x r) x,x,e.p⟩) rfl (by rfl)) ?_
  refine rn ?_;refine dw 0 rfl rfl rfl rfl rfl (Nat.le_of_ble_eq_true rfl) ?_
  refine rn2 ?_;show zb8 _ _ _ _ _ _ ⟨_,.box b7 41 (zan ⟨e.t,zh4 h x r,zxz e.kind,a,zcd h (zh4 h x r) x,x,e.p⟩):: .box be 60 (evR e):: .box ba 3 [iv (a:Int)]:: .box bp 119 (rwP h rc rl rk rg)::rgR rg M::rkS h rk::zbr h rl::rcR h rc:: .glob 2 156 y2:: .glob 4 305 y3:: .glob 5 308 z8:: .glob 3 246 w6:: .glob 1 175 zb1:: .glob 0 171 [mpv rO]:: .obj rO oK::W,_⟩
  refine rn ?_;exact zdw (.cons _ _ _ _ (.agg _ _ _ _ _ _ _ rfl inferInstance inferInstance inferInstance rfl) (.cons _ _ _ _ (.tmp _ _ rfl) .nil)) (.drop [_] _ _) ⟨rfl,by rw [zu0,zn2,if_neg hr,if_neg hr];rfl⟩
theorem ydd (h:Hist) (a:Nat) (rc rl rk rg:Nat) (W:List Res):y8 Tryz.prog 88 [.agg (rwP h rc rl rk rg),iv (a:Int)] W (fun r h'=>∃ba bp,h'= .box ba 3 [iv (a:Int)]:: .box bp 119 (rwP h rc rl rk rg)::W∧r= .fn (.func 134) [] [pZ bp,pZ ba]):=by
 refine z6 Tryz.func88 rfl rfl rfl ?_
 refine rn ?_;refine z7 rfl (w7 rfl rfl rfl fun b2=> ?_)
 refine z7 rfl (w7 rfl rfl rfl fun b3=> ?_)
 refine rn ?_;exact zak rfl (.refl _ _) ⟨_,_,rfl,rfl⟩
theorem ydc {σ:Type} (h:Hist) (la:Lim 4611686018427387904 h) (hc:q6 h=0) (a:Nat) (ha:a < h.evs.length) (y:AV) (bp ba:Nat) (rc rl rk rg:Nat) (M0:List ((Int×Int)×List Int)) (hM0:zek h M0) (rO:Nat) (oK:Obj) (hK:KO oK) (p:List Conf→σ→Prop) (q:σ→Prop) (I:List Conf→σ→List Res) (X:σ→List Res) (x0:σ) (hp0:p [] x0) (hy:∀pre d rest x M,zf8 h h.evs[a] a=pre++d::rest→p pre x→zek h M→y1 Tryz.prog y [.agg (zan d)] (.box ba 3 [iv (a:Int)]:: .box bp 119 (rwP h rc rl rk rg)::rgR rg M::rkS h rk::zbr h rl::rcR h rc:: .glob 2 156 y2:: .glob 4 305 y3:: .glob 5 308 z8:: .glob 3 246 w6:: .glob 1 175 zb1:: .glob 0 171 [mpv rO]:: .obj rO oK::I pre x) (fun r h'=>∃x',(r=bv true∧p (pre++ [d]) x'∧h'= .box ba 3 [iv (a:Int)]:: .box bp 119 (rwP h rc rl rk rg)::rgR rg M::rkS h rk::zbr h rl::rcR h rc:: .glob 2 156 y2:: .glob 4 305 y3:: .glob 5 308 z8:: .glob 3 246 w6:: .glob 1 175 zb1:: .glob 0 171 [mpv rO]:: .obj rO oK::I (pre++ [d]) x')∨(r=bv false∧q x'∧h'= .box ba 3 [iv (a:Int)]:: .box bp 119 (rwP h rc rl rk rg)::rgR rg M::rkS h rk::zbr h rl::rcR h rc:: .glob 2 156 y2:: .glob 4 305 y3:: .glob 5 308 z8:: .glob 3 246 w6:: .glob 1 175 zb1:: .glob 0 171 [mpv rO]:: .obj rO oK::X x'))):y8 Tryz.prog 134 [y,pZ bp,pZ ba] (.box ba 3 [iv (a:Int)]:: .box bp 119 (rwP h rc rl rk rg)::rgR rg M0::rkS h rk::zbr h rl::rcR h rc:: .glob 2 156 y2:: .glob 4 305 y3:: .glob 5 308 z8:: .glob 3 246 w6:: .glob 1 175 zb1:: .glob 0 171 [mpv rO]:: .obj rO oK::I [] x0) (fun r h'=>∃x M,zek h M∧((p (zf8 h h.evs[a] a) x∧h'= .box ba 3 [iv (a:Int)]:: .box bp 119 (rwP h rc rl rk rg)::rgR rg M::rkS h rk::zbr h rl::rcR h rc:: .glob 2 156 y2:: .glob 4 305 y3:: .glob 5 308 z8:: .glob 3 246 w6:: .glob 1 175 zb1:: .glob 0 171 [mpv rO]:: .obj rO oK::I (zf8 h h.evs[a] a) x)∨(q x∧h'= .box ba 3 [iv (a:Int)]:: .box bp 119 (rwP h rc rl rk rg)::rgR rg M::rkS h rk::zbr h rl::rcR h rc:: .glob 2 156 y2:: .glob 4 305 y3:: .glob 5 308 z8:: .glob 3 246 w6:: .glob 1 175 zb1:: .glob 0 171 [mpv rO]:: .obj rO oK::X x))):=by
 refine z6 Tryz.func134 rfl rfl rfl ?_
 have ra:=zbs (f:=evR) ha
 have hok:=seen_ok hc (List.getElem_mem ha) a
 have hol:=hok.1
 obtain ⟨kn,k1,k6,hkn⟩:=yjy hc (List.getElem_mem ha)
 refine w9 (y6 ?_)
 refine q1 ?_;refine q1 ?_;refine q1 ?_;refine q1 ?_;refine qq rfl rfl (zca rfl rfl ra) ?_
 refine rn ?_;refine z7 rfl (y7 rfl fun b4=> ?_)
 first|refine z7 rfl (u7 rfl rfl rfl ?_)|refine z7 rfl (zad rfl rfl rfl rfl (Nat.le_of_ble_eq_true rfl) ?_)
 refine u4 (zai ?_)
 refine w9 ?_;refine w9 (y6 ?_)
 refine q1 ?_;refine q1 ?_;refine q1 ?_;refine q1 ?_;refine qq rfl rfl (zay (enc:=intK) (k:=h.evs[a].t) false rfl rfl) ?_
 refine rn ?_;refine y0 rfl (fun hc23=> ?_) (fun hc23=> ?_)
 ·have hm:zf7 h.evs h.evs[a].t 5=false:=by rw [←zeq];simpa using hc23
  refine rn ?_;exact zdw .nil (.drop [_] _ _) ⟨x0,M0,hM0,.inl ⟨by rw [zx9 a hm];exact hp0,by rw [zx9 a hm]⟩⟩
 ·have hm:zf7 h.evs h.evs[a].t 5=true:=by rw [←zeq];simpa using hc23
  refine zbz ?_;refine rn0 ?_;refine w9 (y6 ?_)
  refine rn0 ?_;refine w9 ?_;refine zgq 9 [6] [7] (fun he=>∃M,he= .box b4 60 (evR h.evs[a]):: .box ba 3 [iv (a:Int)]:: .box bp 119 (rwP h rc rl rk rg)::rgR rg M::rkS h rk::zbr h rl::rcR h rc:: .glob 2 156 y2:: .glob 4 305 y3:: .glob 5 308 z8:: .glob 3 246 w6:: .glob 1 175 zb1:: .glob 0 171 [mpv rO]:: .obj rO oK::I [] x0) rfl rfl ⟨_,rfl⟩ ?_
  refine jq rfl (fun he hC=>by obtain ⟨M,rfl⟩:=hC <;> exact qrA) ?_
  refine jq rfl (fun he hC=>by obtain ⟨M,rfl⟩:=hC <;> exact (by exact zq6 (k9 rfl rfl) (show iv _=iv (kn:Nat) from congrArg iv hkn))) ?_
  refine jq rfl (fun he hC=>by obtain ⟨M,rfl⟩:=hC <;> exact (by exact zaf rfl rfl (by show kn < 7;omega))) ?_
  refine jq rfl (fun he hC=>by obtain ⟨M,rfl⟩:=hC <;> exact (by exact k9 rfl (show zb1[0+kn * 1]? =some (yak kn) by rw [Nat.zero_add,Nat.mul_one];exact yaj k6))) ?_
  refine jq rfl (fun he hC=>by obtain ⟨M,rfl⟩:=hC <;> exact qrA) ?_
  refine jq rfl (fun he hC=>by obtain ⟨M,rfl⟩:=hC <;> exact qrA) ?_
  refine je rfl ?_;refine je rfl ?_;refine jq rfl (fun he hC=>by obtain ⟨M,rfl⟩:=hC <;> exact qrA) ?_
  refine ygj ?_;refine jce rfl fun u=> ?_
  refine q7 rfl rfl (y1.fr3 (yii h la hc a ha rc rl rk rg M0 hM0 (.glob 1 175 zb1:: .glob 0 171 [mpv rO]:: .obj rO oK::I [] x0) k1 k6 hkn)) rfl ?_
  rintro _ _ ⟨_,rfl,M,hM,rfl,rfl⟩
  refine ⟨_,_,rfl,⟨_,rfl⟩,?_⟩
  refine jcn ?_;refine lq rfl rfl (by exact qrA) ?_
  refine ln ?_;refine rn ?_;refine zfg (v7 h h.evs[a] a).length (fun i (x:σ)=>p (((v7 h h.evs[a] a).take i).flatMap (rwF h h.evs[a] a)) x) (fun i x=>⟨[(33,iv i),(0,y),(5,.fn (.func 135) [] [pZ bp,pZ b4,pZ ba]),(31,zha (v7 h h.evs[a] a)),(32,iv ((v7 h h.evs[a] a).map znp).length)],.box b4 60 (evR h.evs[a]):: .box ba 3 [iv (a:Int)]:: .box bp 119 (rwP h rc rl rk rg)::rgR rg M::rkS h rk::zbr h rl::rcR h rc:: .glob 2 156 y2:: .glob 4 305 y3:: .glob 5 308 z8:: .glob 3 246 w6:: .glob 1 175 zb1:: .glob 0 171 [mpv rO]:: .obj rO oK::I (((v7 h h.evs[a] a).take i).flatMap (rwF h h.evs[a] a)) x,[]⟩) x0 hp0 es ?_
  intro i x li zi
  refine rn ?_;refine y0 rfl (fun hc34=> ?_) (fun hc34=> ?_)
  ·have hi:=zdb hc34
   have ri:=zbs (f:=znp) hi
   obtain ⟨⟨o0,o1⟩,ol,orr⟩:=hok.2 _ (List.getElem_mem hi)
   refine rn ?_;refine z7 rfl (y7 rfl fun b7=> ?_)
   refine rn ?_;refine zfg (v7 h h.evs[a] a)[i].2.length (fun j (x:σ)=>p ((((v7 h h.evs[a] a).take i).flatMap (rwF h h.evs[a] a))++((v7 h h.evs[a] a)[i].2.take j).filterMap (ze0 h h.evs[a] (zfp h.evs[a]) a (v7 h h.evs[a] a)[i].1)) x) (fun j x=>⟨[(40,iv j),(0,y),(5,.fn (.func 135) [] [pZ bp,pZ b4,pZ ba]),(7,pZ b7),(31,zha (v7 h h.evs[a] a)),(32,iv ((v7 h h.evs[a] a).map znp).length),(33,iv i),(38,za5 (v7 h h.evs[a] a)[i].2),(39,iv ((v7 h h.evs[a] a)[i].2.map za9).length)],.box b7 177 (znp (v7 h h.evs[a] a)[i]):: .box b4 60 (evR h.evs[a]):: .box ba 3 [iv (a:Int)]:: .box bp 119 (rwP h rc rl rk rg)::rgR rg M::rkS h rk::zbr h rl::rcR h rc:: .glob 2 156 y2:: .glob 4 305 y3:: .glob 5 308 z8:: .glob 3 246 w6:: .glob 1 175 zb1:: .glob 0 171 [mpv rO]:: .obj rO oK::I ((((v7 h h.evs[a] a).take i).flatMap (rwF h h.evs[a] a))++((v7 h h.evs[a] a)[i].2.take j).filterMap (ze0 h h.evs[a] (zfp h.evs[a]) a (v7 h h.evs[a] a)[i].1)) x,[]⟩) x (by simpa using zi) (by simpa using eA) ?_
   intro j x lj zj
   refine rn ?_;refine y0 rfl (fun hc41=> ?_) (fun hc41=> ?_)
   ·have hj:=zdb hc41
    have rj:=zbs (f:=za9) hj
    obtain ⟨u1,u2⟩:=orr _ (List.getElem_mem hj)
    refine rn ?_;refine qv rfl rfl (y4 rfl rfl (y1.qt (y1.of_acall (fs:= []) (cs:= [pZ bp,pZ b4,pZ ba]) (yil h (v7 h h.evs[a] a)[i].1 (v7 h h.evs[a] a)[i].2[j] o0 o1 u1 u2 h.evs[a] a bp b4 ba rc rl rk rg M rO oK hK (I ((((v7 h h.evs[a] a).take i).flatMap (rwF h h.evs[a] a))++((v7 h h.evs[a] a)[i].2.take j).filterMap (ze0 h h.evs[a] (zfp h.evs[a]) a (v7 h h.evs[a] a)[i].1)) x))) (List.perm_append_comm (l₁:= [_])))) ?_
    refine rn ?_;refine z7 rfl (y7 rfl fun b10=> ?_)
    refine rn ?_;refine v8 (fun hg10_1=> ?_) (fun hg10_1=> ?_)
    ·refine q1 ?_;refine q1 ?_;obtain ⟨rest,hL⟩:=yir hm hi hj (yds hg10_1)
     refine z7 rfl (q7 rfl rfl (y1.fr3 (hy ((((v7 h h.evs[a] a).take i).flatMap (rwF h h.evs[a] a))++((v7 h h.evs[a] a)[i].2.take j).filterMap (ze0 h h.evs[a] (zfp h.evs[a]) a (v7 h h.evs[a] a)[i].1)) _ rest x M hL zj hM)) rfl ?_)
     rintro _ _ ⟨_,rfl,x',⟨rfl,hp',rfl⟩|⟨rfl,hq',rfl⟩⟩
     ·refine rn ?_;refine y0 rfl (fun hc58=> ?_) (fun hc58=> ?_)
      ·first|cases hc58|exact absurd hc58 (by decide)|(exfalso;simp_all;done)
      ·refine rn ?_;first|exact ⟨hj,x',by rw [ylh hj hg10_1];exact hp',by rw [ylh hj hg10_1];exact eA⟩|exact ⟨hj,x,by rw [yli hj hg10_1];exact zj,by rw [yli hj hg10_1];exact eA⟩
     ·refine rn ?_;refine y0 rfl (fun hc58=> ?_) (fun hc58=> ?_)
      ·refine rn ?_;exact zdw .nil (.drop [_,_,_] _ _) ⟨x',M,hM,.inr ⟨hq',rfl⟩⟩
      ·first|cases hc58|exact absurd hc58 (by decide)|(exfalso;simp_all;done)
    ·refine rn ?_;refine zoe rfl ?_;refine rn ?_;first|exact ⟨hj,x',by rw [ylh hj hg10_1];exact hp',by rw [ylh hj hg10_1];exact eA⟩|exact ⟨hj,x,by rw [yli hj hg10_1];exact zj,by rw [yli hj hg10_1];exact eA⟩
   ·have qj:=zdd hc41 lj
    refine rn ?_;exact ⟨hi,x,by rw [←yde hi qj];exact zj,by rw [←yde hi qj];exact eA⟩
  ·have qi:=zdd hc34 li
   refine rn ?_;exact zc4 .nil (.drop [_] _ _) ⟨x,M,hM,.inl ⟨by rw [zrv a hm];rw [qi,List.take_length] at zi;exact zi,by rw [zrv a hm,qi,List.take_length]⟩⟩
theorem yfs {α:Type} (x1 x2 x3 x4 x5 x6 x7 x8 x9 x10 x11 x12 x13 x:α) (l:List α):(x1::x2::x3::x4::x5::x6::x7::x8::x9::x10::x11::x12::x13::x::l).Perm (x::x1::x2::x3::x4::x5::x6::x7::x8::x9::x10::x11::x12::x13::l):=(List.Perm.cons x1 (ymh x2 x3 x4 x5 x6 x7 x8 x9 x10 x11 x12 x13 x l)).trans (.swap x x1 _)
theorem yoo {α:Type} (x1 x2 x3 x4 x5 x6 x7 x8 x9 x10 x11 x12 x13 x14 x:α) (l:List α):(x1::x2::x3::x4::x5::x6::x7::x8::x9::x10::x11::x12::x13::x14::x::l).Perm (x::x1::x2::x3::x4::x5::x6::x7::x8::x9::x10::x11::x12::x13::x14::l):=(List.Perm.cons x1 (yfs x2 x3 x4 x5 x6 x7 x8 x9 x10 x11 x12 x13 x14 x l)).trans (.swap x x1 _)
def cfz:Conf:=⟨0,0,0,0,0,0,0⟩
abbrev gC (c:Conf):AV:= .agg (zan c)
instance:ZV (.agg #[.int .i64 0,.int .i64 0,.int .i64 0,.int .i64 0,.int .i64 0,.int .i64 0,.int .i64 0]) (gC cfz):=⟨fun w O u h=>by
 rw [h.v_eq]
 refine .agg _ _ rfl fun j h1 h2=> ?_
 match j,h1,h2 with
 |0,_,_=>exact .v _
 |1,_,_=>exact .v _
 |2,_,_=>exact .v _
 |3,_,_=>exact .v _
 |4,_,_=>exact .v _
 |5,_,_=>exact .v _
 |6,_,_=>exact .v _
 |j+7,h1,_=>exact absurd h1 (by show ¬j+7 < 7;omega)⟩
theorem yd2 {m:List ((Int×Int)×Conf)} {c:Conf} (h:(!(zap (c.f,c.t) m).isSome)=true∨decide (zgt c ((zap (c.f,c.t) m).getD cfz) < 0)=true):zeh m c=zcq (c.f,c.t) c m:=by
 unfold zeh
 rw [show zjr c=(c.f,c.t) from rfl]
 cases hq:zap (c.f,c.t) m with
 |none=>rfl
 |some b=>
  rw [hq] at h
  simp only
  rcases h with h|h
  ·simp at h
  ·rw [if_pos (by simpa using h)]
theorem yky {m:List ((Int×Int)×Conf)} {c:Conf} (h1:(!(zap (c.f,c.t) m).isSome)=false) (h2:decide (zgt c ((zap (c.f,c.t) m).getD cfz) < 0)=false):zeh m c=m:=by
 unfold zeh
 rw [show zjr c=(c.f,c.t) from rfl]
 cases hq:zap (c.f,c.t) m with
 |none=>rw [hq] at h1;simp at h1
 |some b=>
  rw [hq] at h2
  simp only
  rw [if_neg (by simpa using h2)]
theorem zi0 {α β:Type} (f:α→List β) (c:Nat):∀l:List α,(∀a∈l,(f a).length≤c)→(l.flatMap f).length≤l.length * c
 | [],_=>by simp
 |a::l,hf=>by
  have:=zi0 f c l fun x hx=>hf x (List.mem_cons_of_mem _ hx)
  have:=hf a (by simp)
  rw [List.flatMap_cons,List.length_append,List.length_cons,Nat.succ_mul];omega
theorem ztg {h:Hist} (hc:q6 h=0) {a:Nat} (ha:a < h.evs.length):(zf8 h h.evs[a] a).length≤16000000:=by
 obtain ⟨h1,h2⟩:=seen_ok hc (List.getElem_mem ha) a
 rw [zf8]
 split
 ·refine Nat.le_trans (zi0 _ 4000 _ fun p hp=>Nat.le_trans (List.length_filterMap_le _ _) (h2 p hp).2.1) ?_
  omega
 ·exact Nat.zero_le _
def zzq (L:List ((Int×Int)×Conf)) (sn:List Nat):List Conf:=sn.reverse.map fun i=>((L[i]?).map Prod.snd).getD cfz
theorem zs5 (L:List ((Int×Int)×Conf)) (sn:List Nat):(zzq L sn).length=sn.length:=by simp [zzq]
theorem yje {L:List ((Int×Int)×Conf)} {i:Nat} {sn:List Nat} (hi:i < L.length):zzq L (i::sn)=zzq L sn++ [L[i].2]:=by
 simp [zzq,List.getElem?_eq_getElem hi]
theorem zuj (L:List ((Int×Int)×Conf)):(List.range L.length).map (fun i=>((L[i]?).map Prod.snd).getD cfz)=L.map Prod.snd:=by
 refine List.ext_getElem (by simp) fun i h1 h2=> ?_
 simp at h1
 simp [List.getElem?_eq_getElem h1]
theorem zxb {L:List ((Int×Int)×Conf)} {sn:List Nat} (hn:sn.Nodup) (hl:∀i∈sn,i < L.length) (ha:∀i,i < L.length→i∈sn):(zzq L sn).Perm (L.map Prod.snd):=by
 rw [←zuj,zzq]
 refine List.Perm.map _ ((List.reverse_perm sn).trans ?_)
 exact (List.perm_ext_iff_of_nodup hn List.nodup_range).2 fun i=>by rw [List.mem_range];exact ⟨hl i,ha i⟩
theorem yl3 (h:Hist) (la:Lim 4611686018427387904 h) (rO:Nat) (oK:Obj):y8 Tryz.prog 87 [.agg (y9 h)] (.glob 2 156 y2:: .glob 4 305 y3:: .glob 5 308 z8:: .glob 3 246 w6:: .glob 1 175 zb1:: .glob 0 171 [mpv rO]:: .obj rO oK:: []) (fun r h'=>(q6 h=0∧∃rc rl rk rg,h'=rgR rg []::rkS h rk::zbr h rl::rcR h rc:: .glob 2 156 y2:: .glob 4 305 y3:: .glob 5 308 z8:: .glob 3 246 w6:: .glob 1 175 zb1:: .glob 0 171 [mpv rO]:: .obj rO oK:: []∧r= .tup [.agg (rwP h rc rl rk rg),iv 0])∨(q6 h≠0∧h'= .glob 2 156 y2:: .glob 4 305 y3:: .glob 5 308 z8:: .glob 3 246 w6:: .glob 1 175 zb1:: .glob 0 171 [mpv rO]:: .obj rO oK:: []∧r= .tup [.agg (zl7++ [nmp,.v (.slice none 0 0),nmp,nmp,nmp]),iv (q6 h)])):=
 ((yof h la).frame [.glob 1 175 zb1,.glob 0 171 [mpv rO],.obj rO oK]).mono (by
   rintro _ _ ⟨_,rfl,⟨hc,rc,rl,rk,rg,rfl,rfl⟩|⟨hc,rfl,rfl⟩⟩
   ·exact .inl ⟨hc,rc,rl,rk,rg,rfl,rfl⟩
   ·exact .inr ⟨hc,rfl,rfl⟩)
theorem zvn {h:Hist} {F:Ev→Nat→List Conf} {j:Nat} (hj:j < h.evs.length) (hd:zf7 h.evs h.evs[j].t 5=true):j9 h F (j+1)=j9 h F j++F h.evs[j] j:=by
 rw [j9,List.getElem?_eq_getElem hj];simp only;rw [if_pos hd]
theorem yei {h:Hist} {F:Ev→Nat→List Conf} {j:Nat} (hj:j < h.evs.length) (hd:zf7 h.evs h.evs[j].t 5=false):j9 h F (j+1)=j9 h F j:=by
 rw [j9,List.getElem?_eq_getElem hj];simp only;rw [hd,if_neg (by decide),List.append_nil]
theorem zsj {h:Hist} {F:Ev→Nat→List Conf} {m:Nat}:∀{n},m≤n→∃R,j9 h F n=j9 h F m++R
 |0,hm=>⟨[],by rw [Nat.le_zero.1 hm,List.append_nil]⟩
 |n+1,hm=>by
  by_cases e:m=n+1
  ·exact ⟨[],by rw [e,List.append_nil]⟩
  ·obtain ⟨R,hR⟩:=zsj (h:=h) (F:=F) (m:=m) (n:=n) (by omega)
   exact ⟨_,by rw [j9,hR,List.append_assoc]⟩
theorem zvo {h:Hist} {F:Ev→Nat→List Conf} {j:Nat} (hj:j < h.evs.length) (hd:zf7 h.evs h.evs[j].t 5=true) {pre rest:List Conf} {d:Conf} (hL:F h.evs[j] j=pre++d::rest):∃R,j9 h F h.evs.length=(j9 h F j++pre)++d::R:=by
 obtain ⟨R,hR⟩:=zsj (h:=h) (F:=F) (m:=j+1) (n:=h.evs.length) hj
 exact ⟨rest++R,by rw [hR,zvn hj hd,hL];simp [List.append_assoc]⟩
def zzi (h:Hist) (each:AV) (g:Nat) (F:Ev→Nat→List Conf) (bl rd rf rk rg:Nat):Prop:=
 (∀(a:Nat) (W:List Res),y1 Tryz.prog each [iv (a:Int)] W (fun r h'=>∃ba bp,h'= .box ba 3 [iv (a:Int)]:: .box bp 147 [pZ bl]::W∧r= .fn (.func g) [] [pZ bp,pZ ba]))∧
 ∀(σ:Type) (a:Nat) (ha:a < h.evs.length) (y:AV) (bp ba:Nat) (M0:List ((Int×Int)×List Int)) (hM0:zek h M0) (pP:List Conf→σ→Prop) (qP:σ→Prop) (I:List Conf→σ→List Res) (X:σ→List Res) (x0:σ) (hp0:pP [] x0) (_hy:∀pre d rest x M,(F h.evs[a] a)=pre++d::rest→pP pre x→zek h M→y1 Tryz.prog y [.agg (zan d)] (.box ba 3 [iv (a:Int)]:: .box bp 147 [pZ bl]:: .box bl 202 (wrP h rd rf rk rg)::rgR rg M::rkS h rk::zcx h rf::rcR h rd:: .glob 2 156 y2:: .glob 4 305 y3:: .glob 5 308 z8:: .glob 3 246 w6::I pre x) (fun r h'=>∃x',(r=bv true∧pP (pre++ [d]) x'∧h'= .box ba 3 [iv (a:Int)]:: .box bp 147 [pZ bl]:: .box bl 202 (wrP h rd rf rk rg)::rgR rg M::rkS h rk::zcx h rf::rcR h rd:: .glob 2 156 y2:: .glob 4 305 y3:: .glob 5 308 z8:: .glob 3 246 w6::I (pre++ [d]) x')∨(r=bv false∧qP x'∧h'= .box ba 3 [iv (a:Int)]:: .box bp 147 [pZ bl]:: .box bl 202 (wrP h rd rf rk rg)::rgR rg M::rkS h rk::zcx h rf::rcR h rd:: .glob 2 156 y2:: .glob 4 305 y3:: .glob 5 308 z8:: .glob 3 246 w6::X x'))),
  y8 Tryz.prog g [y,pZ bp,pZ ba] (.box ba 3 [iv (a:Int)]:: .box bp 147 [pZ bl]:: .box bl 202 (wrP h rd rf rk rg)::rgR rg M0::rkS h rk::zcx h rf::rcR h rd:: .glob 2 156 y2:: .glob 4 305 y3:: .glob 5 308 z8:: .glob 3 246 w6::I [] x0) (fun r h'=>∃x M,zek h M∧((pP (F h.evs[a] a) x∧h'= .box ba 3 [iv (a:Int)]:: .box bp 147 [pZ bl]:: .box bl 202 (wrP h rd rf rk rg)::rgR rg M::rkS h rk::zcx h rf::rcR h rd:: .glob 2 156 y2:: .glob 4 305 y3:: .glob 5 308 z8:: .glob 3 246 w6::I (F h.evs[a] a) x)∨(qP x∧h'= .box ba 3 [iv (a:Int)]:: .box bp 147 [pZ bl]:: .box bl 202 (wrP h rd rf rk rg)::rgR rg M::rkS h rk::zcx h rf::rcR h rd:: .glob 2 156 y2:: .glob 4 305 y3:: .glob 5 308 z8:: .glob 3 246 w6::X x)))
theorem zme (h:Hist) (la:Lim 4611686018427387904 h) (hc:q6 h=0) (bl rd rf rk rg:Nat):zzi h (.fn (.func 114) [pZ bl] []) 158 (zbe h) bl rd rf rk rg:=
 ⟨fun a W=>y1.of_acall (fs:= [pZ bl]) (cs:= []) (zzz a bl W),fun _ a ha y bp ba M0 hM0 p q I X x0 hp0 hy=>yef h la hc a ha y bp ba bl rd rf rk rg M0 hM0 p q I X x0 hp0 hy⟩
theorem zmd (h:Hist) (la:Lim 4611686018427387904 h) (hc:q6 h=0) (bl rd rf rk rg:Nat):zzi h (.fn (.func 115) [pZ bl] []) 160 (zcz h) bl rd rf rk rg:=
 ⟨fun a W=>y1.of_acall (fs:= [pZ bl]) (cs:= []) (zzx a bl W),fun _ a ha y bp ba M0 hM0 p q I X x0 hp0 hy=>yed h la hc a ha y bp ba bl rd rf rk rg M0 hM0 p q I X x0 hp0 hy⟩
theorem zvp (bl ee:Nat) (W:List Res):y8 Tryz.prog 113 [pZ bl,(.fn (.func ee) [pZ bl] [])] W (fun r h'=>∃bE bL,h'= .box bE 95 [(.fn (.func ee) [pZ bl] [])]:: .box bL 147 [pZ bl]::W∧r= .fn (.func 157) [] [pZ bL,pZ bE]):=by
 refine z6 Tryz.func113 rfl rfl rfl ?_
 refine rn ?_;refine z7 rfl (w7 rfl rfl rfl fun b2=> ?_)
 refine z7 rfl (w7 rfl rfl rfl fun b3=> ?_)
 refine rn ?_;exact zak rfl (.refl _ _) ⟨_,_,rfl,rfl⟩
theorem zw5 (q:Nat) (A B:List Res) (dfs:List Nat):(Res.defs q::(A++(B++dfs.map Res.defs))).Perm (A++(B++(q::dfs).map Res.defs)):=by
 rw [←List.append_assoc,←List.append_assoc];exact List.perm_middle.symm
theorem zs4 (A B:List Res) (dfs:List Nat):(A++(B++dfs.map Res.defs)).Perm (dfs.map Res.defs++(A++B)):=by
 rw [←List.append_assoc];exact List.perm_append_comm
theorem yc0 {σ:Type} (h:Hist) (la:Lim 4611686018427387904 h) (ee g:Nat) [Go.Ab.Enters Tryz.prog g] (F:Ev→Nat→List Conf) (bl rd rf rk rg:Nat) (hT:zzi h (.fn (.func ee) [pZ bl] []) g F bl rd rf rk rg) (y:AV) (hone:y.cellsOf=some [y]) (bL bE:Nat) (M0:List ((Int×Int)×List Int)) (hM0:zek h M0) (pP:List Conf→σ→Prop) (qP:σ→Prop) (I:List Conf→σ→List Res) (X:σ→List Res) (x0:σ) (hp0:pP [] x0) (hy:∀pre d rest x M,(j9 h F h.evs.length)=pre++d::rest→pP pre x→zek h M→y1 Tryz.prog y [.agg (zan d)] (.box bE 95 [(.fn (.func ee) [pZ bl] [])]:: .box bL 147 [pZ bl]:: .box bl 202 (wrP h rd rf rk rg)::rgR rg M::rkS h rk::zcx h rf::rcR h rd:: .glob 2 156 y2:: .glob 4 305 y3:: .glob 5 308 z8:: .glob 3 246 w6::I pre x) (fun r h'=>∃x',(r=bv true∧pP (pre++ [d]) x'∧h'= .box bE 95 [(.fn (.func ee) [pZ bl] [])]:: .box bL 147 [pZ bl]:: .box bl 202 (wrP h rd rf rk rg)::rgR rg M::rkS h rk::zcx h rf::rcR h rd:: .glob 2 156 y2:: .glob 4 305 y3:: .glob 5 308 z8:: .glob 3 246 w6::I (pre++ [d]) x')∨(r=bv false∧qP x'∧h'= .box bE 95 [(.fn (.func ee) [pZ bl] [])]:: .box bL 147 [pZ bl]:: .box bl 202 (wrP h rd rf rk rg)::rgR rg M::rkS h rk::zcx h rf::rcR h rd:: .glob 2 156 y2:: .glob 4 305 y3:: .glob 5 308 z8:: .glob 3 246 w6::X x'))):y8 Tryz.prog 157 [y,pZ bL,pZ bE] (.box bE 95 [(.fn (.func ee) [pZ bl] [])]:: .box bL 147 [pZ bl]:: .box bl 202 (wrP h rd rf rk rg)::rgR rg M0::rkS h rk::zcx h rf::rcR h rd:: .glob 2 156 y2:: .glob 4 305 y3:: .glob 5 308 z8:: .glob 3 246 w6::I [] x0) (fun r h'=>∃x M,zek h M∧((pP (j9 h F h.evs.length) x∧h'= .box bE 95 [(.fn (.func ee) [pZ bl] [])]:: .box bL 147 [pZ bl]:: .box bl 202 (wrP h rd rf rk rg)::rgR rg M::rkS h rk::zcx h rf::rcR h rd:: .glob 2 156 y2:: .glob 4 305 y3:: .glob 5 308 z8:: .glob 3 246 w6::I (j9 h F h.evs.length) x)∨(qP x∧h'= .box bE 95 [(.fn (.func ee) [pZ bl] [])]:: .box bL 147 [pZ bl]:: .box bl 202 (wrP h rd rf rk rg)::rgR rg M::rkS h rk::zcx h rf::rcR h rd:: .glob 2 156 y2:: .glob 4 305 y3:: .glob 5 308 z8:: .glob 3 246 w6::X x))):=by
 refine z6 Tryz.func157 rfl rfl rfl ?_
 have be:=la.evs
 have hyF:∀pre d rest x M (W:List Res),(j9 h F h.evs.length)=pre++d::rest→pP pre x→zek h M→y1 Tryz.prog y [.agg (zan d)] (.box bE 95 [(.fn (.func ee) [pZ bl] [])]:: .box bL 147 [pZ bl]:: .box bl 202 (wrP h rd rf rk rg)::rgR rg M::rkS h rk::zcx h rf::rcR h rd:: .glob 2 156 y2:: .glob 4 305 y3:: .glob 5 308 z8:: .glob 3 246 w6::(I pre x++W)) (fun r h'=>∃x',(r=bv true∧pP (pre++ [d]) x'∧h'= .box bE 95 [(.fn (.func ee) [pZ bl] [])]:: .box bL 147 [pZ bl]:: .box bl 202 (wrP h rd rf rk rg)::rgR rg M::rkS h rk::zcx h rf::rcR h rd:: .glob 2 156 y2:: .glob 4 305 y3:: .glob 5 308 z8:: .glob 3 246 w6::(I (pre++ [d]) x'++W))∨(r=bv false∧qP x'∧h'= .box bE 95 [(.fn (.func ee) [pZ bl] [])]:: .box bL 147 [pZ bl]:: .box bl 202 (wrP h rd rf rk rg)::rgR rg M::rkS h rk::zcx h rf::rcR h rd:: .glob 2 156 y2:: .glob 4 305 y3:: .glob 5 308 z8:: .glob 3 246 w6::(X x'++W))):=fun pre d rest x M W e hp hM=>((hy pre d rest x M e hp hM).frame W).mono (by
  rintro _ _ ⟨_,rfl,x',⟨rfl,hp',rfl⟩|⟨rfl,hq',rfl⟩⟩
  ·exact ⟨x',.inl ⟨rfl,hp',rfl⟩⟩
  ·exact ⟨x',.inr ⟨rfl,hq',rfl⟩⟩)
 refine rn ?_;refine z7 rfl (w7 rfl hone rfl fun b3=> ?_)
 refine rn ?_;refine zfg h.evs.length (fun j (z:σ×List ((Int×Int)×List Int)×List Nat)=>pP (j9 h F j) z.1∧zek h z.2.1) (fun j z=>⟨[(13,iv j),(1,pZ bL),(2,pZ bE),(3,pZ b3),(11,zvg h.evs),(12,iv (h.evs.map evR).length)],.box b3 76 [y]:: .box bE 95 [(.fn (.func ee) [pZ bl] [])]:: .box bL 147 [pZ bl]:: .box bl 202 (wrP h rd rf rk rg)::rgR rg z.2.1::rkS h rk::zcx h rf::rcR h rd:: .glob 2 156 y2:: .glob 4 305 y3:: .glob 5 308 z8:: .glob 3 246 w6::(I (j9 h F j) z.1++(z.2.2.map Res.defs)),z.2.2⟩) (x0,M0,[]) ⟨hp0,hM0⟩ (by simp only [List.map_nil,List.append_nil];exact es) ?_
 rintro j ⟨x,M,dfs⟩ lj ⟨hx,hM⟩
 have hx:pP (j9 h F j) x:=hx
 have hM:zek h M:=hM
 show aw _ _ _ _ _ ⟨[(13,iv j),(1,pZ bL),(2,pZ bE),(3,pZ b3),(11,zvg h.evs),(12,iv (h.evs.map evR).length)],.box b3 76 [y]:: .box bE 95 [(.fn (.func ee) [pZ bl] [])]:: .box bL 147 [pZ bl]:: .box bl 202 (wrP h rd rf rk rg)::rgR rg M::rkS h rk::zcx h rf::rcR h rd:: .glob 2 156 y2:: .glob 4 305 y3:: .glob 5 308 z8:: .glob 3 246 w6::(I (j9 h F j) x++(dfs.map Res.defs)),dfs⟩
 refine rn ?_;refine y0 rfl (fun hc14=> ?_) (fun hc14=> ?_)
 ·have hj:=zdb hc14
  have rj:=zbs (f:=evR) hj
  refine rn ?_;refine z7 rfl (y7 rfl fun b5=> ?_)
  refine rn ?_;refine j3 6 rfl ?_
  refine rn2 ?_;refine qq rfl rfl (zay (enc:=intK) (k:=h.evs[j].t) false rfl rfl) ?_
  refine rn ?_;refine y0 rfl (fun hc25=> ?_) (fun hc25=> ?_)
  ·have hd:zf7 h.evs h.evs[j].t 5=false:=by rw [←zeq];simpa using hc25
   have hw:j9 h F (j+1)=(j9 h F j):=yei hj hd
   refine rn ?_;exact ⟨hj,(x,M,dfs),⟨by simp only;rw [hw];exact hx,hM⟩,by simp only;rw [hw];exact eA⟩
  ·have hd:zf7 h.evs h.evs[j].t 5=true:=by rw [←zeq];simpa using hc25
   have hw:=zvn (F:=F) hj hd
   refine rn ?_;refine z7 rfl (q7 rfl rfl (hT.1 j _) rfl ?_)
   rintro _ _ ⟨ba,bp,rfl,rfl⟩
   refine rn ?_;refine zjt (fun pend h''=>∃x M,zek h M∧((pend=none∧pP ((j9 h F j)++(F h.evs[j] j)) x∧h''= .box ba 3 [iv (j:Int)]:: .box bp 147 [pZ bl]:: .box bl 202 (wrP h rd rf rk rg)::rgR rg M::rkS h rk::zcx h rf::rcR h rd:: .glob 2 156 y2:: .glob 4 305 y3:: .glob 5 308 z8:: .glob 3 246 w6:: .box b5 60 (evR h.evs[j]):: .box b3 76 [y]:: .box bE 95 [(.fn (.func ee) [pZ bl] [])]:: .box bL 147 [pZ bl]::(I ((j9 h F j)++(F h.evs[j] j)) x++(dfs.map Res.defs)))∨(pend=some .ret∧qP x∧h''= .box ba 3 [iv (j:Int)]:: .box bp 147 [pZ bl]:: .box bl 202 (wrP h rd rf rk rg)::rgR rg M::rkS h rk::zcx h rf::rcR h rd:: .glob 2 156 y2:: .glob 4 305 y3:: .glob 5 308 z8:: .glob 3 246 w6:: .box b5 60 (evR h.evs[j]):: .box b3 76 [y]:: .box bE 95 [(.fn (.func ee) [pZ bl] [])]:: .box bL 147 [pZ bl]::(X x++(dfs.map Res.defs))))) rfl (fun fn l q lp hlp=> ?_) (fun q h'' hK=> ?_) (fun q h'' cc hK=> ?_)
   ·suffices hy2:∀pre d rest x M,(F h.evs[j] j)=pre++d::rest→pP ((j9 h F j)++pre) x→zek h M→y1 Tryz.prog (yv l) [.agg (zan d)] (.box ba 3 [iv (j:Int)]:: .box bp 147 [pZ bl]:: .box bl 202 (wrP h rd rf rk rg)::rgR rg M::rkS h rk::zcx h rf::rcR h rd:: .glob 2 156 y2:: .glob 4 305 y3:: .glob 5 308 z8:: .glob 3 246 w6::lp .ready none:: .defs q:: .box b5 60 (evR h.evs[j]):: .box b3 76 [y]:: .box bE 95 [(.fn (.func ee) [pZ bl] [])]:: .box bL 147 [pZ bl]::(I ((j9 h F j)++pre) x++(dfs.map Res.defs))) (fun r h'=>∃x',(r=bv true∧pP ((j9 h F j)++(pre++ [d])) x'∧h'= .box ba 3 [iv (j:Int)]:: .box bp 147 [pZ bl]:: .box bl 202 (wrP h rd rf rk rg)::rgR rg M::rkS h rk::zcx h rf::rcR h rd:: .glob 2 156 y2:: .glob 4 305 y3:: .glob 5 308 z8:: .glob 3 246 w6::lp .ready none:: .defs q:: .box b5 60 (evR h.evs[j]):: .box b3 76 [y]:: .box bE 95 [(.fn (.func ee) [pZ bl] [])]:: .box bL 147 [pZ bl]::(I ((j9 h F j)++(pre++ [d])) x'++(dfs.map Res.defs)))∨(r=bv false∧qP x'∧h'= .box ba 3 [iv (j:Int)]:: .box bp 147 [pZ bl]:: .box bl 202 (wrP h rd rf rk rg)::rgR rg M::rkS h rk::zcx h rf::rcR h rd:: .glob 2 156 y2:: .glob 4 305 y3:: .glob 5 308 z8:: .glob 3 246 w6::lp .done (some .ret):: .defs q:: .box b5 60 (evR h.evs[j]):: .box b3 76 [y]:: .box bE 95 [(.fn (.func ee) [pZ bl] [])]:: .box bL 147 [pZ bl]::(X x'++(dfs.map Res.defs)))) by
     have hq:=hT.2 σ j hj (yv l) bp ba M hM (fun pre x=>pP ((j9 h F j)++pre) x) qP (fun pre x=>lp .ready none:: .defs q:: .box b5 60 (evR h.evs[j]):: .box b3 76 [y]:: .box bE 95 [(.fn (.func ee) [pZ bl] [])]:: .box bL 147 [pZ bl]::(I ((j9 h F j)++pre) x++(dfs.map Res.defs))) (fun x=>lp .done (some .ret):: .defs q:: .box b5 60 (evR h.evs[j]):: .box b3 76 [y]:: .box bE 95 [(.fn (.func ee) [pZ bl] [])]:: .box bL 147 [pZ bl]::(X x++(dfs.map Res.defs))) x (by rw [List.append_nil];exact hx) hy2
     simp only [List.append_nil] at hq
     refine y8.mono (y8.perm ((pt2 _ _ _ _).trans (.cons _ ((pt2 _ _ _ _).trans (.cons _ ((pt6 _ _ _ _ _ _ _ _).trans (.cons _ ((pt6 _ _ _ _ _ _ _ _).trans (.cons _ ((pt6 _ _ _ _ _ _ _ _).trans (.cons _ ((pt6 _ _ _ _ _ _ _ _).trans (.cons _ ((pt6 _ _ _ _ _ _ _ _).trans (.cons _ ((pt6 _ _ _ _ _ _ _ _).trans (.cons _ ((pt6 _ _ _ _ _ _ _ _).trans (.cons _ ((pt6 _ _ _ _ _ _ _ _).trans (.cons _ (pt6 _ _ _ _ _ _ _ _))))))))))))))))))))) hq) ?_
     rintro _ _ ⟨x,M,hM,⟨hn,rfl⟩|⟨hn,rfl⟩⟩
     ·exact ⟨none,.ready,_,((zs2 _ _ _ _ _ _ _ _ _ _ _ _ _).trans (.cons _ (zs2 _ _ _ _ _ _ _ _ _ _ _ _ _))),by simp,x,M,hM,.inl ⟨rfl,hn,rfl⟩⟩
     ·exact ⟨some .ret,.done,_,((zs2 _ _ _ _ _ _ _ _ _ _ _ _ _).trans (.cons _ (zs2 _ _ _ _ _ _ _ _ _ _ _ _ _))),by simp,x,M,hM,.inr ⟨rfl,hn,rfl⟩⟩
    intro pre d rest x M hL hpre hM
    obtain ⟨R,hL2⟩:=zvo hj hd hL
    refine y1.perm (zs2 _ _ _ _ _ _ _ _ _ _ _ _ _) (y1.ventE ?_)
    refine zcl hlp rfl rfl ?_
    refine rn ?_;refine z7 rfl (y7 rfl fun b6=> ?_)
    refine rn ?_;refine ⟨[(6,pZ b6),(3,pZ b3)],.box b6 41 (zan d):: .box ba 3 [iv (j:Int)]:: .box bp 147 [pZ bl]:: .box bl 202 (wrP h rd rf rk rg)::rgR rg M::rkS h rk::zcx h rf::rcR h rd:: .glob 2 156 y2:: .glob 4 305 y3:: .glob 5 308 z8:: .glob 3 246 w6:: .defs q:: .box b5 60 (evR h.evs[j]):: .box b3 76 [y]:: .box bE 95 [(.fn (.func ee) [pZ bl] [])]:: .box bL 147 [pZ bl]::(I ((j9 h F j)++pre) x++(dfs.map Res.defs)),v6 (zau (pt1 _ _ _)) es,?_⟩
    refine zc9 ?_;refine w9 (y6 ?_)
    refine q1 ?_;refine q1 ?_;refine z7 rfl (q7 rfl rfl (y1.perm (.cons _ (.cons _ (.cons _ (.cons _ ((pt9 _ _ _ _ _ _ _ _ _ _ _).trans (.cons _ ((pt9 _ _ _ _ _ _ _ _ _ _ _).trans (.cons _ ((pt9 _ _ _ _ _ _ _ _ _ _ _).trans (.cons _ ((pt9 _ _ _ _ _ _ _ _ _ _ _).trans (.cons _ (pt9 _ _ _ _ _ _ _ _ _ _ _))))))))))))) (y1.fr7 (hyF ((j9 h F j)++pre) d R x M (dfs.map Res.defs) hL2 hpre hM))) rfl ?_)
    rintro _ _ ⟨_,rfl,x',⟨rfl,hp',rfl⟩|⟨rfl,hq',rfl⟩⟩
    ·refine rn ?_;refine y0 rfl (fun hc33=> ?_) (fun hc33=> ?_)
     ·first|cases hc33|exact absurd hc33 (by decide)|(exfalso;simp_all;done)
     ·refine rn ?_;exact zce (.refl _) ⟨_,_,.trans (.perm ((pt1 _ _ _).trans (.cons _ ((pt1 _ _ _).trans (.cons _ ((pt1 _ _ _).trans (.cons _ ((pt6 _ _ _ _ _ _ _ _).trans (.cons _ ((pt6 _ _ _ _ _ _ _ _).trans (.cons _ ((pt6 _ _ _ _ _ _ _ _).trans (.cons _ ((pt6 _ _ _ _ _ _ _ _).trans (.cons _ ((pt6 _ _ _ _ _ _ _ _).trans (.cons _ ((pt6 _ _ _ _ _ _ _ _).trans (.cons _ ((pt6 _ _ _ _ _ _ _ _).trans (.cons _ ((pt6 _ _ _ _ _ _ _ _).trans (.cons _ (pt6 _ _ _ _ _ _ _ _))))))))))))))))))))))) _) (.drop [_] _ _),x',.inl ⟨rfl,by rw [←List.append_assoc];exact hp',by rw [←List.append_assoc]⟩⟩
    ·refine rn ?_;refine y0 rfl (fun hc33=> ?_) (fun hc33=> ?_)
     ·refine rn ?_;exact znr (.refl _) ⟨_,_,.trans (.perm ((pt1 _ _ _).trans (.cons _ ((pt1 _ _ _).trans (.cons _ ((pt1 _ _ _).trans (.cons _ ((pt6 _ _ _ _ _ _ _ _).trans (.cons _ ((pt6 _ _ _ _ _ _ _ _).trans (.cons _ ((pt6 _ _ _ _ _ _ _ _).trans (.cons _ ((pt6 _ _ _ _ _ _ _ _).trans (.cons _ ((pt6 _ _ _ _ _ _ _ _).trans (.cons _ ((pt6 _ _ _ _ _ _ _ _).trans (.cons _ ((pt6 _ _ _ _ _ _ _ _).trans (.cons _ ((pt6 _ _ _ _ _ _ _ _).trans (.cons _ (pt6 _ _ _ _ _ _ _ _))))))))))))))))))))))) _) (.drop [_] _ _),x',.inr ⟨rfl,hq',rfl⟩⟩
     ·first|cases hc33|exact absurd hc33 (by decide)|(exfalso;simp_all;done)
   ·obtain ⟨x,M,hM,⟨_,hx,rfl⟩|⟨hc',_⟩⟩:=hK
    rotate_left
    ·cases hc'
    refine rn ?_;exact ⟨hj,(x,M,q::dfs),⟨by simp only;rw [hw];exact hx,hM⟩,by simp only;rw [hw];exact v6 (zau ((List.Perm.cons _ ((zs2 _ _ _ _ _ _ _ _ _ _ _ _ _).trans (.cons _ (.cons _ (.cons _ ((pt9 _ _ _ _ _ _ _ _ _ _ _).trans (.cons _ ((pt9 _ _ _ _ _ _ _ _ _ _ _).trans (.cons _ (pt9 _ _ _ _ _ _ _ _ _ _ _)))))))))).trans (zw5 _ [_,_,_,_,_,_,_,_,_,_,_,_,_,_,_] _ _))) (v6 (zb2 (h1:= [_,_,_])) es)⟩
   ·obtain ⟨x,M,hM,⟨hc',_⟩|⟨hc',hx,rfl⟩⟩:=hK
    ·cases hc'
    obtain rfl:cc= .ret:=by simpa using hc'
    refine rn ?_;exact zfy (.cons _ (zs4 [_,_,_,_,_,_,_,_,_,_,_,_,_,_,_] _ dfs)) .nil (.trans (.perm (.cons _ (.cons _ ((pt9 _ _ _ _ _ _ _ _ _ _ _).trans (.cons _ ((pt9 _ _ _ _ _ _ _ _ _ _ _).trans (.cons _ ((pt9 _ _ _ _ _ _ _ _ _ _ _).trans (.cons _ (pt9 _ _ _ _ _ _ _ _ _ _ _))))))))) _) (.drop [_,_,_,_] _ _)) ⟨x,M,hM,.inr ⟨hx,rfl⟩⟩
 ·have qj:=zdd hc14 lj
  subst qj
  refine rn ?_;exact yfa (zs4 [_,_,_,_,_,_,_,_,_,_,_,_] _ dfs) .nil (.drop [_] _ _) ⟨x,M,hM,.inl ⟨hx,rfl⟩⟩
end Go.Proofs
