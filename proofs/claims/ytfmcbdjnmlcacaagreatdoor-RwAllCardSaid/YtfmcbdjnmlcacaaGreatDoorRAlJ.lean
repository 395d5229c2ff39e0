/- The walk of the reference's broken. Conditions: none. -/
import Derived.Test.YtfmcbdjnmlcacaaGreatDoorRAlI
set_option maxHeartbeats 4000000
set_option linter.unusedSectionVars false
set_option linter.unusedSimpArgs false
set_option linter.unusedVariables false
set_option maxRecDepth 10000
namespace Go.Proofs
open Go Go.Ab
attribute [local irreducible] QR QV OE zcr aw zdf zcf zbm za3 thn zfo zd2 jch zfe
open Go.H
theorem ycf (h:Hist) (rl i:Nat) (h1:1≤rl) (h10:rl≤10) (hi:i < zg7 h rl) (la:Lim 1000000 h):y8 Tryz.prog 217 [.agg (w7 h),iv rl,iv i] [] (fun r h'=>h'= []∧r=bv (zhi h rl i)):=by
 refine z6 Tryz.func217 rfl rfl rfl ?_
 refine rn ?_;refine z8 rfl (q6 rfl rfl rfl fun b3=> ?_)
 refine rn ?_;refine z7 rfl (fun hc8=> ?_) (fun hc8=> ?_)
 ·obtain rfl:rl=7:=by have q:=hc8;simp at q;omega
  have hi2:i < h.ords.length:=hi
  refine rn ?_;refine qv rfl rfl (y1 rfl rfl (u7 (yg8 h i hi2 la) (Sbs.refl _))) ?_
  refine rn ?_;refine rq 1 ?_
  exact ⟨rfl,congrArg bv (by exact (zl8 hi2).symm)⟩
 ·have n7:rl≠7:=by intro q;subst q;exact absurd hc8 (by decide)
  refine rn ?_;refine z7 rfl (fun hc13=> ?_) (fun hc13=> ?_)
  ·obtain rfl:rl=8:=by have q:=hc13;simp at q;omega
   have hi2:i < h.os.length:=hi
   refine rn ?_;refine qv rfl rfl (y1 rfl rfl (u7 (zzh h i la) (Sbs.refl _))) ?_
   refine rn ?_;refine rq 1 ?_
   exact ⟨rfl,congrArg bv (by exact (zl8 (w:=fun x _=>zo1 h (x:Int)) hi2).symm)⟩
  ·have n8:rl≠8:=by intro q;subst q;exact absurd hc13 (by decide)
   refine rn ?_;refine z7 rfl (fun hc18=> ?_) (fun hc18=> ?_)
   ·obtain rfl:rl=9:=by have q:=hc18;simp at q;omega
    have hi2:i < h.mats.length:=hi
    refine rn ?_;refine qv rfl rfl (y1 rfl rfl (u7 (yha h i hi2 la) (Sbs.refl _))) ?_
    refine rn ?_;refine rq 1 ?_
    exact ⟨rfl,congrArg bv (by exact (zl8 hi2).symm)⟩
   ·have n9:rl≠9:=by intro q;subst q;exact absurd hc18 (by decide)
    refine rn ?_;refine z7 rfl (fun hc23=> ?_) (fun hc23=> ?_)
    ·obtain rfl:rl=10:=by have q:=hc23;simp at q;omega
     have hi2:i < h.wants.length:=hi
     refine rn ?_;refine qv rfl rfl (y1 rfl rfl (u7 (ymw h i hi2 la) (Sbs.refl _))) ?_
     refine rn ?_;refine rq 1 ?_
     exact ⟨rfl,congrArg bv (by exact (zl8 hi2).symm)⟩
    ·have n10:rl≠10:=by intro q;subst q;exact absurd hc23 (by decide)
     have hi2:i < h.evs.length:=by rw [←ydd n7 n8 n9 n10];exact hi
     have ri:=zak (f:=evR) hi2
     have be:=la.evs
     have sc:=la.scans h.evs[i] (List.getElem_mem hi2)
     refine rn ?_;refine k9 10 rfl ?_
     refine dq rfl rfl qrA ?_;refine dq rfl rfl qrA ?_;refine dq rfl rfl qrA ?_;refine dq rfl rfl qrA ?_;refine dq rfl rfl qrA ?_;refine dq rfl rfl qrA ?_;refine dq rfl rfl qrA ?_;refine dq rfl rfl qrA ?_;refine dq rfl rfl qrA ?_;refine dq rfl rfl (zba (k:=i) rfl rfl (by simp;omega)) ?_
     rw [←List.map_take]
     refine rn ?_;refine qv rfl rfl (y1 rfl rfl (u7 (zzk rl h.evs[i] (h.evs.take i) h1 (by omega) (by simp;omega) sc) (Sbs.refl _))) ?_
     refine rn ?_;refine rq 1 ?_
     exact ⟨rfl,congrArg bv (by rw [ye3 n7 n8 n9 n10,zl8 hi2])⟩
theorem yg7 (h:Hist) (rl:Nat) (h1:1≤rl) (h10:rl≤10) (la:Lim 1000000 h):y8 Tryz.prog 168 [.agg (w7 h),iv rl] [] (fun r h'=>h'= []∧r=iv (zxk (zfj h rl))):=by
 refine z6 Tryz.func168 rfl rfl rfl ?_
 refine rn ?_;refine z8 rfl (q6 rfl rfl rfl fun b2=> ?_)
 refine rn0 ?_;refine w8 (y4 ?_)
 refine rn0 ?_;refine zp8 (⟨[(5,iv (zg7 h rl)),(1,iv rl),(2,pZ b2)],.box b2 28 (w7 h):: [],[]⟩) ?_ ?_
 ·refine rn ?_;refine z7 rfl (fun hc11=> ?_) (fun hc11=> ?_)
  ·obtain rfl:rl=7:=by have q:=hc11;simp at q;omega
   refine rn ?_;first|(rw [ydh];exact es)|(rw [ydg];exact es)|(rw [ydf];exact es)|(rw [ztb];exact es)|(rw [yde n7 n8 n9 n10];exact es)
  ·have n7:rl≠7:=by intro q;subst q;exact absurd hc11 (by decide)
   refine rn ?_;refine z7 rfl (fun hc16=> ?_) (fun hc16=> ?_)
   ·obtain rfl:rl=8:=by have q:=hc16;simp at q;omega
    refine rn ?_;first|(rw [ydh];exact es)|(rw [ydg];exact es)|(rw [ydf];exact es)|(rw [ztb];exact es)|(rw [yde n7 n8 n9 n10];exact es)
   ·have n8:rl≠8:=by intro q;subst q;exact absurd hc16 (by decide)
    refine rn ?_;refine z7 rfl (fun hc21=> ?_) (fun hc21=> ?_)
    ·obtain rfl:rl=9:=by have q:=hc21;simp at q;omega
     refine rn ?_;first|(rw [ydh];exact es)|(rw [ydg];exact es)|(rw [ydf];exact es)|(rw [ztb];exact es)|(rw [yde n7 n8 n9 n10];exact es)
    ·have n9:rl≠9:=by intro q;subst q;exact absurd hc21 (by decide)
     refine rn ?_;refine z7 rfl (fun hc26=> ?_) (fun hc26=> ?_)
     ·obtain rfl:rl=10:=by have q:=hc26;simp at q;omega
      refine rn ?_;first|(rw [ydh];exact es)|(rw [ydg];exact es)|(rw [ydf];exact es)|(rw [ztb];exact es)|(rw [yde n7 n8 n9 n10];exact es)
     ·have n10:rl≠10:=by intro q;subst q;exact absurd hc26 (by decide)
      refine rn ?_;first|(rw [ydh];exact es)|(rw [ydg];exact es)|(rw [ydf];exact es)|(rw [ztb];exact es)|(rw [yde n7 n8 n9 n10];exact es)
 ·refine rn ?_;refine zdg (zg7 h rl) (fun k:Nat=>∀j,j < k→zhi h rl j=false) (fun k=> [(32,iv k)]) [(1,_),(2,_),(31,_)] (fun j q=>absurd q (Nat.not_lt_zero _)) ?_
  intro k lk zk
  refine rn ?_;refine z7 rfl (fun hc33=> ?_) (fun hc33=> ?_)
  ·have hk:k < zg7 h rl:=by have q:=hc33;simp at q;omega
   have mb:zg7 h rl≤1000000:=yil la
   refine rn ?_;refine qv rfl rfl (y1 rfl rfl (u7 (ycf h rl k h1 h10 hk la) (Sbs.refl _))) ?_
   refine rn ?_;refine z7 rfl (fun hc38=> ?_) (fun hc38=> ?_)
   ·refine rn ?_;refine rq 1 ?_
    exact ⟨rfl,by rw [ycr hk hc38 zk];rfl⟩
   ·refine rn ?_;exact ⟨hk,ylq zk hc38,eA⟩
  ·have qk:k=zg7 h rl:=by have q:=hc33;simp at q;omega
   refine rn ?_;refine rq 1 ?_
   exact ⟨rfl,by rw [zz0 (qk ▸ zk)];rfl⟩
theorem yct {o:Option Nat} (h:decide (zxk o ≥ 0)=true):∃n,o=some n:=by
 cases o with
 |none=>exact absurd h (by decide)
 |some n=>exact ⟨n,rfl⟩
theorem ycs {o:Option Nat} (h:decide (zxk o ≥ 0)=false):o=none:=by
 cases o with
 |none=>rfl
 |some n=>have:=oF h;simp [zxk] at this
theorem zzj (h:Hist) (la:Lim 1000000 h):y8 Tryz.prog 124 [.agg (w7 h)] [] (fun r h'=>h'= []∧r= .tup [.agg (yvx (za7 (zfj h) rules10)),bv (za7 (zfj h) rules10).isSome]):=by
 refine z6 Tryz.func124 rfl rfl rfl ?_
 refine rn ?_;refine z8 rfl (q6 rfl rfl rfl fun b1=> ?_)
 refine z8 rfl (y3 rfl fun b2=> ?_)
 refine rn ?_;refine zhj (fun k:Nat=>(1≤k∧k≤11)∧za7 (zfj h) rules10=za7 (zfj h) (rules10.drop (k - 1))) (fun k=>⟨[(4,iv k),(1,pZ b1),(2,pZ b2)],(.box b2 158 [iv 0,iv 0]:: .box b1 28 (w7 h):: []),[]⟩) (fun k=>11 - k) 1 ⟨by omega,rfl⟩ es ?_
 rintro k ⟨⟨k1,k3⟩,zk⟩
 refine rn ?_;refine z7 rfl (fun hc7=> ?_) (fun hc7=> ?_)
 ·have k2:k≤10:=by have:=oT hc7;omega
  refine rn ?_;refine qv rfl rfl (y1 rfl rfl (u7 (yg7 h k k1 k2 la) (Sbs.refl _))) ?_
  refine rn ?_;refine z7 rfl (fun hc14=> ?_) (fun hc14=> ?_)
  ·refine rn ?_;exact ze9 (.cons _ _ _ _ (.agg _ _ _ _ _ _ _ rfl inferInstance inferInstance inferInstance rfl) (.cons _ _ _ _ (.tmp _ _ rfl) .nil)) (.drop [_,_] _ _) ⟨rfl,by
    obtain ⟨n,hp⟩:=yct hc14
    rw [ztt k1 k2 zk hp,hp];rfl⟩
  ·refine rn ?_;exact ⟨k+1,⟨by omega,zpu k1 k2 zk (ycs hc14)⟩,eA,by omega⟩
 ·have k2:11≤k:=by have:=oF hc7;omega
  refine rn ?_;exact ze9 (.cons _ _ _ _ (.agg _ _ _ _ _ _ _ rfl inferInstance inferInstance inferInstance rfl) (.cons _ _ _ _ (.tmp _ _ rfl) .nil)) (.drop [_,_] _ _) ⟨rfl,by rw [zpv k2 k3 zk];rfl⟩
theorem ywy (l:Int):y8 Tryz.prog 215 [iv l] [] (fun r h'=>h'= []∧r=bv (ziz l)):=by
 refine z6 Tryz.func215 rfl rfl rfl ?_
 refine rn ?_;refine w6 (fun hg1_2=> ?_) (fun hg1_2=> ?_)
 ·refine rn ?_;exact k7 rfl (.refl _ _) ⟨rfl,congrArg bv (by first|(simp only [ziz, *,Bool.true_and,Bool.false_and,Bool.and_false,Bool.and_true,Bool.true_or,Bool.or_false,Bool.false_or,Bool.or_true,if_true,if_false,Bool.false_eq_true,Bool.not_true,Bool.not_false];done)|(simp_all [ziz];done)|(simp_all [ziz] <;> omega))⟩
 ·refine rn ?_;exact k7 rfl (.refl _ _) ⟨rfl,congrArg bv (by first|(simp only [ziz, *,Bool.true_and,Bool.false_and,Bool.and_false,Bool.and_true,Bool.true_or,Bool.or_false,Bool.false_or,Bool.or_true,if_true,if_false,Bool.false_eq_true,Bool.not_true,Bool.not_false];done)|(simp_all [ziz];done)|(simp_all [ziz] <;> omega))⟩
theorem bvz0_4781 {a b:Bool} (h:a=b:=by first|(simp only [ztg, *,Bool.true_and,Bool.false_and,Bool.and_false,Bool.and_true,Bool.true_or,Bool.or_false,Bool.false_or,Bool.or_true,if_true,if_false,Bool.false_eq_true,Bool.not_true,Bool.not_false];done)|(simp_all [ztg];done)|(simp_all [ztg] <;> omega)):bv a=bv b:=congrArg bv h
theorem zzn (c:Int):y8 Tryz.prog 257 [.v (.int .i32 c)] [] (fun r h'=>h'= []∧r=bv (ztg c)):=by
 refine z6 Tryz.func257 rfl rfl rfl ?_
 refine rn ?_;refine w6 (fun hg1_2=> ?_) (fun hg1_2=> ?_)
 ·refine rn ?_;refine w6 (fun hg1_6=> ?_) (fun hg1_6=> ?_)
  ·refine rn ?_;exact k7 rfl (.refl _ _) ⟨rfl,bvz0_4781⟩
  ·refine rn ?_;refine w6 (fun hg1_9=> ?_) (fun hg1_9=> ?_)
   ·refine rn ?_;refine w6 (fun hg1_14=> ?_) (fun hg1_14=> ?_)
    ·refine rn ?_;exact k7 rfl (.refl _ _) ⟨rfl,bvz0_4781⟩
    ·refine rn ?_;refine w6 (fun hg1_18=> ?_) (fun hg1_18=> ?_)
     ·refine rn ?_;exact k7 rfl (.refl _ _) ⟨rfl,bvz0_4781⟩
     ·refine rn ?_;exact k7 rfl (.refl _ _) ⟨rfl,bvz0_4781⟩
   ·refine rn ?_;refine w6 (fun hg1_18=> ?_) (fun hg1_18=> ?_)
    ·refine rn ?_;exact k7 rfl (.refl _ _) ⟨rfl,bvz0_4781⟩
    ·refine rn ?_;exact k7 rfl (.refl _ _) ⟨rfl,bvz0_4781⟩
 ·refine rn ?_;refine w6 (fun hg1_9=> ?_) (fun hg1_9=> ?_)
  ·refine rn ?_;refine w6 (fun hg1_14=> ?_) (fun hg1_14=> ?_)
   ·refine rn ?_;exact k7 rfl (.refl _ _) ⟨rfl,bvz0_4781⟩
   ·refine rn ?_;refine w6 (fun hg1_18=> ?_) (fun hg1_18=> ?_)
    ·refine rn ?_;exact k7 rfl (.refl _ _) ⟨rfl,bvz0_4781⟩
    ·refine rn ?_;exact k7 rfl (.refl _ _) ⟨rfl,bvz0_4781⟩
  ·refine rn ?_;refine w6 (fun hg1_18=> ?_) (fun hg1_18=> ?_)
   ·refine rn ?_;exact k7 rfl (.refl _ _) ⟨rfl,bvz0_4781⟩
   ·refine rn ?_;exact k7 rfl (.refl _ _) ⟨rfl,bvz0_4781⟩
theorem zsx (c:Int):y8 Tryz.prog 258 [.v (.int .i32 c)] [] (fun r h'=>h'= []∧r=bv (zkm c)):=by
 refine z6 Tryz.func258 rfl rfl rfl ?_
 refine rn ?_;refine w6 (fun hg1_2=> ?_) (fun hg1_2=> ?_)
 ·refine rn ?_;exact k7 rfl (.refl _ _) ⟨rfl,congrArg bv (by first|(simp only [zkm, *,Bool.true_and,Bool.false_and,Bool.and_false,Bool.and_true,Bool.true_or,Bool.or_false,Bool.false_or,Bool.or_true,if_true,if_false,Bool.false_eq_true,Bool.not_true,Bool.not_false];done)|(simp_all [zkm];done)|(simp_all [zkm] <;> omega))⟩
 ·refine rn ?_;exact k7 rfl (.refl _ _) ⟨rfl,congrArg bv (by first|(simp only [zkm, *,Bool.true_and,Bool.false_and,Bool.and_false,Bool.and_true,Bool.true_or,Bool.or_false,Bool.false_or,Bool.or_true,if_true,if_false,Bool.false_eq_true,Bool.not_true,Bool.not_false];done)|(simp_all [zkm];done)|(simp_all [zkm] <;> omega))⟩
theorem yq1 {f:Bool} (h:Hist) (l:List Int) (hl:l.length≤4611686018427387904):y8 Tryz.prog 165 [.agg (w7 h),.list f 1 (l.map zal)] [] (fun r h'=>h'= []∧r=bv (zg1 h l)):=by
 refine z6 Tryz.func165 rfl rfl rfl ?_
 refine rn ?_;refine z8 rfl (q6 rfl rfl rfl fun b2=> ?_)
 refine rn ?_;refine zaa (fun k:Nat=>k≤l.length∧l.all (fun t=>isB t h.ts.length)=(l.drop k).all (fun t=>isB t h.ts.length)) (fun k=>⟨[(9,iv k),(8,iv (l.map zal).length),(7,.list f 1 (l.map zal)),(1,.list f 1 (l.map zal)),(2,pZ b2)],[.box b2 28 (w7 h)],[]⟩) (fun k=>l.length - k) 0 ⟨Nat.zero_le _,by simp⟩
  (v8 (.cons _ _ _ rfl (.cons _ _ _ rfl (.cons _ _ _ rfl (.cons _ _ _ rfl (.cons _ _ _ rfl (.nil))))))) ?_
 rintro k ⟨hk,hz⟩
 refine rn ?_;refine z7 rfl (fun hc10=> ?_) (fun hc10=> ?_)
 ·have hk2:k < l.length:=by simpa using hc10
  have hrow:(l.map zal)[k]? =some (zal l[k]):=by simp [hk2]
  have hd:=List.drop_eq_getElem_cons hk2
  refine rn ?_;refine qv rfl rfl (y1 rfl rfl (u7 (zjb _ _) (Sbs.refl _))) ?_
  refine rn ?_;refine z7 rfl (fun hc18=> ?_) (fun hc18=> ?_)
  ·have hx:isB l[k] h.ts.length=false:=by simpa using hc18
   refine rn ?_;exact k7 rfl (.drop [_] _ _) ⟨rfl,congrArg bv (by rw [zg1,hz,hd,List.all_cons,hx,Bool.false_and];rfl)⟩
  ·have hx:isB l[k] h.ts.length=true:=by simpa using hc18
   refine rn ?_;exact ⟨k+1,⟨by omega,by rw [hz,hd,List.all_cons,hx,Bool.true_and]⟩,(v8 (.cons _ _ _ rfl (.cons _ _ _ rfl (.cons _ _ _ rfl (.cons _ _ _ rfl (.cons _ _ _ rfl (.nil))))))),by omega⟩
 ·have hk3:k=l.length:=by
   have:l.length≤k:=by simpa using hc10
   omega
  refine rn ?_;exact k7 rfl (.drop [_] _ _) ⟨rfl,congrArg bv (by rw [zg1,hz,hk3,List.drop_length];simp)⟩
theorem bvz1_3067 {a b:Bool} (h:a=b:=by first|(simp only [zky,zwi, *,Bool.true_and,Bool.false_and,Bool.and_false,Bool.and_true,Bool.true_or,Bool.or_false,Bool.false_or,Bool.or_true,if_true,if_false,Bool.false_eq_true,Bool.not_true,Bool.not_false];done)|(simp_all [zky,zwi];done)|(simp_all [zky,zwi] <;> omega)):bv a=bv b:=congrArg bv h
theorem zzf (h:Hist) (e:Ev) (hl:e.scan.length≤4611686018427387904):y8 Tryz.prog 164 [.agg (w7 h),.agg (evR e)] [] (fun r h'=>h'= []∧r=bv (zky h e)):=by
 refine z6 Tryz.func164 rfl rfl rfl ?_
 refine rn ?_;refine z8 rfl (q6 rfl rfl rfl fun b2=> ?_)
 refine z8 rfl (q6 rfl rfl rfl fun b3=> ?_)
 refine rn ?_;refine qv rfl rfl (y1 rfl rfl (u7 (zjb _ _) (Sbs.refl _))) ?_
 refine rn ?_;refine z7 rfl (fun hc16=> ?_) (fun hc16=> ?_)
 ·refine rn ?_;exact k7 rfl (.drop [_,_] _ _) ⟨rfl,bvz1_3067⟩
 ·refine rn ?_;refine z8 rfl (y3 rfl fun b6=> ?_)
  refine rn ?_;refine z7 rfl (fun hc24=> ?_) (fun hc24=> ?_)
  ·refine rn ?_;refine zeq 6 [(b6,60,_)] rfl (List.perm_append_comm (l₁:= [_])) ?_
   refine rn ?_;refine dw 0 rfl rfl rfl rfl rfl (Nat.le_of_ble_eq_true rfl) ?_
   refine rn2 ?_;show zcr _ _ _ _ _ _ ⟨_,.box b6 60 [iv e.kind,iv e.t,iv e.s,iv 0,iv 0,iv 0,iv 0,iv 0,.v (.slice none 0 0)]:: .box b3 60 (evR e):: .box b2 28 (w7 h):: [],_⟩
   refine rn0 ?_;refine w8 ?_;show aw _ _ _ _ _ ⟨_,.box b6 60 [iv e.kind,iv e.t,iv e.s,iv e.l,iv 0,iv 0,iv 0,iv 0,.v (.slice none 0 0)]:: .box b3 60 (evR e):: .box b2 28 (w7 h):: [],_⟩
   refine rn ?_;refine qv rfl rfl (y1 rfl rfl (u7 (zf8 ⟨e.kind,e.t,e.s,e.l,0,⟨0,0⟩,0,[]⟩ e (by simp [hl]) hl) (by exact ⟨(by exact Sb.aggs (by exact ⟨.refl _,.refl _,.refl _,.refl _,.refl _,.refl _,.refl _,.refl _,.nil _ _,trivial⟩)),.refl _,trivial⟩))) ?_
   refine rn ?_;refine w6 (fun hg8_3=> ?_) (fun hg8_3=> ?_)
   ·refine rn ?_;refine qv rfl rfl (y1 rfl rfl (u7 (zjb _ _) (Sbs.refl _))) ?_
    refine rn ?_;refine w6 (fun hg8_11=> ?_) (fun hg8_11=> ?_)
    ·refine rn ?_;refine qv rfl rfl (y1 rfl rfl (u7 (ywy _) (Sbs.refl _))) ?_
     refine rn ?_;exact k7 rfl (.drop [_,_,_] _ _) ⟨rfl,bvz1_3067⟩
    ·refine rn ?_;exact k7 rfl (.drop [_,_,_] _ _) ⟨rfl,bvz1_3067⟩
   ·refine rn ?_;exact k7 rfl (.drop [_,_,_] _ _) ⟨rfl,bvz1_3067⟩
  ·refine rn ?_;refine z7 rfl (fun hc48=> ?_) (fun hc48=> ?_)
   ·refine rn ?_;refine z7 rfl (fun hc48=> ?_) (fun hc48=> ?_)
    ·refine rn ?_;refine zeq 6 [(b6,60,_)] rfl (List.perm_append_comm (l₁:= [_])) ?_
     refine rn ?_;refine dw 0 rfl rfl rfl rfl rfl (Nat.le_of_ble_eq_true rfl) ?_
     refine rn2 ?_;show zcr _ _ _ _ _ _ ⟨_,.box b6 60 [iv e.kind,iv e.t,iv 0,iv 0,iv e.o,iv 0,iv 0,iv 0,.v (.slice none 0 0)]:: .box b3 60 (evR e):: .box b2 28 (w7 h):: [],_⟩
     refine rn0 ?_;refine w8 ?_;refine w8 ?_;show aw _ _ _ _ _ ⟨_,.box b6 60 [iv e.kind,iv e.t,iv 0,iv 0,iv e.o,iv e.v.t,iv e.v.k,iv 0,.v (.slice none 0 0)]:: .box b3 60 (evR e):: .box b2 28 (w7 h):: [],_⟩
     refine rn ?_;refine w6 (fun hg12_3=> ?_) (fun hg12_3=> ?_)
     ·refine rn ?_;refine w6 (fun hg12_8=> ?_) (fun hg12_8=> ?_)
      ·refine rn ?_;refine zcw rfl ?_;refine rn ?_;exact k7 rfl (.drop [_,_,_] _ _) ⟨rfl,bvz1_3067⟩
      ·refine rn ?_;refine z7 rfl (fun hc73=> ?_) (fun hc73=> ?_)
       ·refine rn ?_;exact k7 rfl (.drop [_,_,_] _ _) ⟨rfl,bvz1_3067⟩
       ·refine rn ?_;refine qv rfl rfl (y1 rfl rfl (u7 (zf8 ⟨e.kind,e.t,0,0,e.o,e.v,0,[]⟩ e (by simp [hl]) hl) (by exact ⟨(by exact Sb.aggs (by exact ⟨.refl _,.refl _,.refl _,.refl _,.refl _,.refl _,.refl _,.refl _,.nil _ _,trivial⟩)),.refl _,trivial⟩))) ?_
        refine rn ?_;refine w6 (fun hg14_3=> ?_) (fun hg14_3=> ?_)
        ·refine rn ?_;refine qv rfl rfl (y1 rfl rfl (u7 (zjb _ _) (Sbs.refl _))) ?_
         refine rn ?_;refine w6 (fun hg14_11=> ?_) (fun hg14_11=> ?_)
         ·refine rn ?_;refine qv rfl rfl (y1 rfl rfl (u7 (zgm e.v _) (Sbs.refl _))) ?_
          refine rn ?_;exact k7 rfl (.drop [_,_,_] _ _) ⟨rfl,bvz1_3067⟩
         ·refine rn ?_;exact k7 rfl (.drop [_,_,_] _ _) ⟨rfl,bvz1_3067⟩
        ·refine rn ?_;exact k7 rfl (.drop [_,_,_] _ _) ⟨rfl,bvz1_3067⟩
     ·refine rn ?_;refine zfh rfl ?_;refine rn ?_;refine qv rfl rfl (y1 rfl rfl (u7 (zf8 ⟨e.kind,e.t,0,0,e.o,e.v,0,[]⟩ e (by simp [hl]) hl) (by exact ⟨(by exact Sb.aggs (by exact ⟨.refl _,.refl _,.refl _,.refl _,.refl _,.refl _,.refl _,.refl _,.nil _ _,trivial⟩)),.refl _,trivial⟩))) ?_
      refine rn ?_;refine w6 (fun hg14_3=> ?_) (fun hg14_3=> ?_)
      ·refine rn ?_;refine qv rfl rfl (y1 rfl rfl (u7 (zjb _ _) (Sbs.refl _))) ?_
       refine rn ?_;refine w6 (fun hg14_11=> ?_) (fun hg14_11=> ?_)
       ·refine rn ?_;refine qv rfl rfl (y1 rfl rfl (u7 (zgm e.v _) (Sbs.refl _))) ?_
        refine rn ?_;exact k7 rfl (.drop [_,_,_] _ _) ⟨rfl,bvz1_3067⟩
       ·refine rn ?_;exact k7 rfl (.drop [_,_,_] _ _) ⟨rfl,bvz1_3067⟩
      ·refine rn ?_;exact k7 rfl (.drop [_,_,_] _ _) ⟨rfl,bvz1_3067⟩
    ·first|cases hc48|exact absurd hc48 (by decide)|(exfalso;simp_all;done)
   ·refine rn ?_;refine z7 rfl (fun hc48=> ?_) (fun hc48=> ?_)
    ·refine rn ?_;refine zeq 6 [(b6,60,_)] rfl (List.perm_append_comm (l₁:= [_])) ?_
     refine rn ?_;refine dw 0 rfl rfl rfl rfl rfl (Nat.le_of_ble_eq_true rfl) ?_
     refine rn2 ?_;show zcr _ _ _ _ _ _ ⟨_,.box b6 60 [iv e.kind,iv e.t,iv 0,iv 0,iv e.o,iv 0,iv 0,iv 0,.v (.slice none 0 0)]:: .box b3 60 (evR e):: .box b2 28 (w7 h):: [],_⟩
     refine rn0 ?_;refine w8 ?_;refine w8 ?_;show aw _ _ _ _ _ ⟨_,.box b6 60 [iv e.kind,iv e.t,iv 0,iv 0,iv e.o,iv e.v.t,iv e.v.k,iv 0,.v (.slice none 0 0)]:: .box b3 60 (evR e):: .box b2 28 (w7 h):: [],_⟩
     refine rn ?_;refine w6 (fun hg12_3=> ?_) (fun hg12_3=> ?_)
     ·refine rn ?_;refine w6 (fun hg12_8=> ?_) (fun hg12_8=> ?_)
      ·refine rn ?_;refine zcw rfl ?_;refine rn ?_;exact k7 rfl (.drop [_,_,_] _ _) ⟨rfl,bvz1_3067⟩
      ·refine rn ?_;refine z7 rfl (fun hc73=> ?_) (fun hc73=> ?_)
       ·refine rn ?_;exact k7 rfl (.drop [_,_,_] _ _) ⟨rfl,bvz1_3067⟩
       ·refine rn ?_;refine qv rfl rfl (y1 rfl rfl (u7 (zf8 ⟨e.kind,e.t,0,0,e.o,e.v,0,[]⟩ e (by simp [hl]) hl) (by exact ⟨(by exact Sb.aggs (by exact ⟨.refl _,.refl _,.refl _,.refl _,.refl _,.refl _,.refl _,.refl _,.nil _ _,trivial⟩)),.refl _,trivial⟩))) ?_
        refine rn ?_;refine w6 (fun hg14_3=> ?_) (fun hg14_3=> ?_)
        ·refine rn ?_;refine qv rfl rfl (y1 rfl rfl (u7 (zjb _ _) (Sbs.refl _))) ?_
         refine rn ?_;refine w6 (fun hg14_11=> ?_) (fun hg14_11=> ?_)
         ·refine rn ?_;refine qv rfl rfl (y1 rfl rfl (u7 (zgm e.v _) (Sbs.refl _))) ?_
          refine rn ?_;exact k7 rfl (.drop [_,_,_] _ _) ⟨rfl,bvz1_3067⟩
         ·refine rn ?_;exact k7 rfl (.drop [_,_,_] _ _) ⟨rfl,bvz1_3067⟩
        ·refine rn ?_;exact k7 rfl (.drop [_,_,_] _ _) ⟨rfl,bvz1_3067⟩
     ·refine rn ?_;refine zfh rfl ?_;refine rn ?_;refine qv rfl rfl (y1 rfl rfl (u7 (zf8 ⟨e.kind,e.t,0,0,e.o,e.v,0,[]⟩ e (by simp [hl]) hl) (by exact ⟨(by exact Sb.aggs (by exact ⟨.refl _,.refl _,.refl _,.refl _,.refl _,.refl _,.refl _,.refl _,.nil _ _,trivial⟩)),.refl _,trivial⟩))) ?_
      refine rn ?_;refine w6 (fun hg14_3=> ?_) (fun hg14_3=> ?_)
      ·refine rn ?_;refine qv rfl rfl (y1 rfl rfl (u7 (zjb _ _) (Sbs.refl _))) ?_
       refine rn ?_;refine w6 (fun hg14_11=> ?_) (fun hg14_11=> ?_)
       ·refine rn ?_;refine qv rfl rfl (y1 rfl rfl (u7 (zgm e.v _) (Sbs.refl _))) ?_
        refine rn ?_;exact k7 rfl (.drop [_,_,_] _ _) ⟨rfl,bvz1_3067⟩
       ·refine rn ?_;exact k7 rfl (.drop [_,_,_] _ _) ⟨rfl,bvz1_3067⟩
      ·refine rn ?_;exact k7 rfl (.drop [_,_,_] _ _) ⟨rfl,bvz1_3067⟩
    ·refine rn ?_;refine z7 rfl (fun hc91=> ?_) (fun hc91=> ?_)
     ·refine rn ?_;refine zeq 6 [(b6,60,_)] rfl (List.perm_append_comm (l₁:= [_])) ?_
      refine rn ?_;refine dw 0 rfl rfl rfl rfl rfl (Nat.le_of_ble_eq_true rfl) ?_
      refine rn2 ?_;show zcr _ _ _ _ _ _ ⟨_,.box b6 60 [iv e.kind,iv e.t,iv 0,iv 0,iv 0,iv 0,iv 0,iv e.p,.v (.slice none 0 0)]:: .box b3 60 (evR e):: .box b2 28 (w7 h):: [],_⟩
      refine rn0 ?_;refine w8 ?_;refine w8 ?_;show aw _ _ _ _ _ ⟨_,.box b6 60 [iv e.kind,iv e.t,iv 0,iv 0,iv 0,iv 0,iv 0,iv e.p,zft e.scan]:: .box b3 60 (evR e):: .box b2 28 (w7 h):: [],_⟩
      refine rn ?_;refine zaa (fun k:Nat=>k≤e.scan.length∧e.scan.all (zb8 h)=(e.scan.drop k).all (zb8 h)) (fun k=>⟨[(102,iv k),(101,iv (e.scan.map zap).length),(100,zft e.scan),(2,pZ b2),(3,pZ b3),(6,pZ b6),(5,iv (h.ts.map zf5).length)],[.box b6 60 (evR ⟨e.kind,e.t,0,0,0,⟨0,0⟩,e.p,e.scan⟩),.box b3 60 (evR e),.box b2 28 (w7 h)],[]⟩) (fun k=>e.scan.length - k) 0 ⟨Nat.zero_le _,by simp⟩
       (v8 (.cons _ _ _ rfl (.cons _ _ _ rfl (.cons _ _ _ rfl (.cons _ _ _ rfl (.cons _ _ _ rfl (.cons _ _ _ rfl (.cons _ _ _ rfl (.nil))))))))) ?_
      rintro k ⟨hk,hz⟩
      refine rn ?_;refine z7 rfl (fun hc103=> ?_) (fun hc103=> ?_)
      ·have hk2:k < e.scan.length:=by simpa using hc103
       obtain ⟨s,hs⟩:∃s,s=e.scan[k]:=⟨_,rfl⟩
       have hrow:(e.scan.map zap)[k]? =some (zap s):=by rw [hs];simp [hk2]
       have hd:=List.drop_eq_getElem_cons hk2
       rw [←hs] at hd
       refine rn ?_;refine z8 rfl (y3 rfl fun b8=> ?_)
       refine rn ?_;refine qv rfl rfl (y1 rfl rfl (u7 (zjb _ _) (Sbs.refl _))) ?_
       refine rn ?_;refine w6 (fun hg20_7=> ?_) (fun hg20_7=> ?_)
       ·refine rn ?_;refine zcw rfl ?_;have hx:zb8 h s=false:=by clear hz hd hrow hs hc103 hk2 hk;simp_all [zb8]
        have hall:e.scan.all (zb8 h)=false:=by rw [hz,hd,List.all_cons,hx,Bool.false_and]
        clear hz hd hx hrow
        refine rn ?_;exact k7 rfl (.drop [_,_,_,_] _ _) ⟨rfl,bvz1_3067⟩
       ·refine rn ?_;refine qv rfl rfl (y1 rfl rfl (u7 (zgm s.v _) (Sbs.refl _))) ?_
        refine rn ?_;refine z7 rfl (fun hc119=> ?_) (fun hc119=> ?_)
        ·have hx:zb8 h s=false:=by clear hz hd hrow hs hc103 hk2 hk;simp_all [zb8]
         have hall:e.scan.all (zb8 h)=false:=by rw [hz,hd,List.all_cons,hx,Bool.false_and]
         clear hz hd hx hrow
         refine rn ?_;exact k7 rfl (.drop [_,_,_,_] _ _) ⟨rfl,bvz1_3067⟩
        ·have hx:zb8 h s=true:=by clear hz hd hrow hs hc103 hk2 hk;simp_all [zb8]
         refine rn ?_;exact ⟨k+1,⟨by omega,by rw [hz,hd,List.all_cons,hx,Bool.true_and]⟩,(v7 (zc7 (h1:= [_])) (v8 (.cons _ _ _ rfl (.cons _ _ _ rfl (.cons _ _ _ rfl (.cons _ _ _ rfl (.cons _ _ _ rfl (.cons _ _ _ rfl (.cons _ _ _ rfl (.nil)))))))))),by omega⟩
      ·have hk3:k=e.scan.length:=by
        have:e.scan.length≤k:=by simpa using hc103
        omega
       rw [hk3,List.drop_length,List.all_nil] at hz
       refine rn ?_;refine qv rfl rfl (y1 rfl rfl (u7 (zf8 ⟨e.kind,e.t,0,0,0,⟨0,0⟩,e.p,e.scan⟩ e (by simp [hl]) hl) (by exact ⟨(by exact Sb.aggs (by exact ⟨.refl _,.refl _,.refl _,.refl _,.refl _,.refl _,.refl _,.refl _,.refl _,trivial⟩)),.refl _,trivial⟩))) ?_
       refine rn ?_;refine w6 (fun hg23_3=> ?_) (fun hg23_3=> ?_)
       ·refine rn ?_;refine qv rfl rfl (y1 rfl rfl (u7 (zjb _ _) (Sbs.refl _))) ?_
        refine rn ?_;refine w6 (fun hg23_11=> ?_) (fun hg23_11=> ?_)
        ·refine rn ?_;exact k7 rfl (.drop [_,_,_] _ _) ⟨rfl,bvz1_3067⟩
        ·refine rn ?_;exact k7 rfl (.drop [_,_,_] _ _) ⟨rfl,bvz1_3067⟩
       ·refine rn ?_;exact k7 rfl (.drop [_,_,_] _ _) ⟨rfl,bvz1_3067⟩
     ·refine rn ?_;refine qv rfl rfl (y1 rfl rfl (u7 (zf8 ⟨e.kind,e.t,0,0,0,⟨0,0⟩,0,[]⟩ e (by simp [hl]) hl) (by exact ⟨(by exact Sb.aggs (by exact ⟨.refl _,.refl _,.refl _,.refl _,.refl _,.refl _,.refl _,.refl _,.nil _ _,trivial⟩)),.refl _,trivial⟩))) ?_
      refine rn ?_;refine w6 (fun hg24_3=> ?_) (fun hg24_3=> ?_)
      ·refine rn ?_;refine w6 (fun hg24_7=> ?_) (fun hg24_7=> ?_)
       ·refine rn ?_;exact k7 rfl (.drop [_,_,_] _ _) ⟨rfl,bvz1_3067⟩
       ·refine rn ?_;exact k7 rfl (.drop [_,_,_] _ _) ⟨rfl,bvz1_3067⟩
      ·refine rn ?_;exact k7 rfl (.drop [_,_,_] _ _) ⟨rfl,bvz1_3067⟩
end Go.Proofs
namespace Go.Ab
open Go
section
variable {P:Program} {dst:Option Tmp} {ty:TypeId} {pos:String} {after:Array Edge} {guard:Option (Nat×Bool)} {x:Operand} {h:List Res} {f:Operand→Option AV}
theorem zo0 {S T:TypeId} {k:IntKind} {n:Int} (hx:f x=some (.v (.int k n))) [hs:Und P S (.int k)] [ht:Und P T .string]:
 QR P h f ⟨dst,.convert S T x,ty,pos,after,guard⟩ (.v (.string (Utf8.encode n))):=fun X ρ w he=>by
 refine ⟨_,run_v _ ?_,.v _⟩
 rw [(he.rel x _ hx).v_eq]
 simp only [convert,Sem.run_bind,Go.Ab.run_underlying (d:=TypeDesc.int k),Go.Ab.run_underlying (d:=TypeDesc.string),Result.andThen_ok]
 rfl
end
end Go.Ab
set_option maxRecDepth 10000
namespace Go.Proofs
open Go Go.Ab
attribute [local irreducible] QR QV OE zcr aw zdf zcf zbm za3 thn zfo
open Go.H
theorem ycg (s:ByteArray):y8 Tryz.prog 256 [sv s] [] (fun r h'=>h'= []∧r= .tup [.v (.int .i32 (zcn s).1),iv (zcn s).2]):=by
 refine z6 Tryz.func256 rfl rfl rfl ?_
 refine rn ?_;refine z8 rfl (zls rfl rfl fun b8=> ?_)
 refine rn ?_;refine zaa (fun x:Unit=>True) (fun x=>⟨[(8,pZ b8),(0,sv s),(2,.v (.int .i32 0)),(3,iv 0)],[.obj b8 (.stringIter s 0)],[]⟩) (fun x=>0) () trivial
  (v8 (.cons _ _ _ rfl (.cons _ _ _ rfl (.cons _ _ _ rfl (.cons _ _ _ rfl (.nil)))))) ?_
 rintro _ _
 refine w8 (y4 ?_)
 refine z8 rfl (znr rfl rfl (fun hp=> ?_) (fun hp=> ?_))
 ·refine rn ?_;refine z7 rfl (fun hc10=> ?_) (fun hc10=> ?_)
  ·first|cases hc10|exact absurd hc10 (by decide)|(exfalso;simp_all;done)
  ·refine rn ?_;exact zb9 rfl rfl (.drop1 _ _ _) ⟨rfl,by first|(rw [zcn,if_pos hp];rfl)|(rw [zcn,if_neg (by omega)];split <;> first|rfl|(exfalso;simp_all;done)|(exfalso;simp_all;omega))⟩
 ·refine rn ?_;refine z7 rfl (fun hc10=> ?_) (fun hc10=> ?_)
  ·refine rn ?_;refine z7 rfl (fun hc14=> ?_) (fun hc14=> ?_)
   ·exact absurd hc14 (by decide)
   ·refine zar ?_;refine zac ?_;refine w8 (y4 ?_)
    refine q1 ?_;refine qq rfl rfl (zo0 rfl) ?_
    refine rn ?_;refine w6 (fun hg6_2=> ?_) (fun hg6_2=> ?_)
    ·refine rn ?_;refine w6 (fun hg6_6=> ?_) (fun hg6_6=> ?_)
     ·refine rn ?_;refine z7 rfl (fun hc29=> ?_) (fun hc29=> ?_)
      ·refine rn ?_;exact zb9 rfl rfl (.drop1 _ _ _) ⟨rfl,by first|(rw [zcn,if_pos hp];rfl)|(rw [zcn,if_neg (by omega)];split <;> first|rfl|(exfalso;simp_all;done)|(exfalso;simp_all;omega))⟩
      ·first|cases hc29|exact absurd hc29 (by decide)|(exfalso;simp_all;done)
     ·refine q1 ?_;refine qq rfl rfl (zgn (k:=3) rfl rfl (by have:=hg6_6;simp at this;omega)) ?_
      refine rn ?_;refine z7 rfl (fun hc29=> ?_) (fun hc29=> ?_)
      ·refine rn ?_;exact zb9 rfl rfl (.drop1 _ _ _) ⟨rfl,by first|(rw [zcn,if_pos hp];rfl)|(rw [zcn,if_neg (by omega)];split <;> first|rfl|(exfalso;simp_all;done)|(exfalso;simp_all;omega))⟩
      ·refine rn ?_;exact zb9 rfl rfl (.drop1 _ _ _) ⟨rfl,by first|(rw [zcn,if_pos hp];rfl)|(rw [zcn,if_neg (by omega)];split <;> first|rfl|(exfalso;simp_all;done)|(exfalso;simp_all;omega))⟩
    ·refine rn ?_;refine z7 rfl (fun hc29=> ?_) (fun hc29=> ?_)
     ·first|cases hc29|exact absurd hc29 (by decide)|(exfalso;simp_all;done)
     ·refine rn ?_;exact zb9 rfl rfl (.drop1 _ _ _) ⟨rfl,by first|(rw [zcn,if_pos hp];rfl)|(rw [zcn,if_neg (by omega)];split <;> first|rfl|(exfalso;simp_all;done)|(exfalso;simp_all;omega))⟩
  ·first|cases hc10|exact absurd hc10 (by decide)|(exfalso;simp_all;done)
theorem zzo (s:ByteArray) (c n:Int) (h:zcn s=(c,n)):y8 Tryz.prog 256 [sv s] [] (fun r h'=>h'= []∧r= .tup [.v (.int .i32 c),iv n]):=
 (ycg s).mono fun _ _ q=>⟨q.1,by rw [q.2,h]⟩
theorem yhc (s:ByteArray):y8 Tryz.prog 214 [sv s] [] (fun r h'=>h'= []∧r=bv (zhp s)):=by
 refine z6 Tryz.func214 rfl rfl rfl ?_
 refine rn ?_;refine w6 (fun hg1_2=> ?_) (fun hg1_2=> ?_)
 ·refine rn ?_;refine zcw rfl ?_;refine rn ?_;refine rq 0 ?_
  exact ⟨rfl,congrArg bv (by first|(rw [zgx,←yek,hg1_2];rfl)|(rw [zgx,decide_eq_false (show ¬(s.size:Int)≤24 by simp at hc12;omega),Bool.and_false];rfl))⟩
 ·refine rn ?_;refine z7 rfl (fun hc12=> ?_) (fun hc12=> ?_)
  ·refine rn ?_;refine rq 0 ?_
   exact ⟨rfl,congrArg bv (by first|(rw [zgx,←yek,hg1_2];rfl)|(rw [zgx,decide_eq_false (show ¬(s.size:Int)≤24 by simp at hc12;omega),Bool.and_false];rfl))⟩
  ·have hlen:s.size≤24:=by simp at hc12;omega
   refine rn ?_;refine zhj (fun i:Nat=>zis s 0=zis s i∧i≤48) (fun i=>⟨[(3,iv i),(0,sv s)],[],[]⟩) (fun i=>s.size - i) 0 ⟨rfl,by omega⟩ es ?_
   rintro i ⟨hz,hi⟩
   refine rn ?_;refine z7 rfl (fun hc16=> ?_) (fun hc16=> ?_)
   ·have h1:i < s.size:=by simpa using hc16
    refine zar ?_;refine zac ?_;refine zcx ?_;refine w8 (y4 ?_)
    refine q1 ?_;refine q1 ?_;refine qq rfl rfl (zez (k:=i) rfl rfl (by omega)) ?_
    obtain ⟨c,n,hw,hn1,hn4⟩:=yjb h1
    refine qv rfl rfl (y1 rfl rfl (u7 (zzo _ c n hw) (Sbs.refl _))) ?_
    refine rn ?_;refine qv rfl rfl (y1 rfl rfl (u7 (zzn _) (Sbs.refl _))) ?_
    refine rn ?_;refine w6 (fun hg6_3=> ?_) (fun hg6_3=> ?_)
    ·refine rn ?_;refine w6 (fun hg6_6=> ?_) (fun hg6_6=> ?_)
     ·refine rn ?_;refine zcw rfl ?_;refine rn ?_;refine rq 0 ?_
      exact ⟨rfl,congrArg bv (by rw [zgx,hz,zo5 h1 hw (by simpa using hg6_3) (by first|exact .inl (by simpa using hg6_6)|exact .inr (by simpa using hc35)),Bool.and_false])⟩
     ·refine rn ?_;refine qv rfl rfl (y1 rfl rfl (u7 (zsx _) (Sbs.refl _))) ?_
      refine rn ?_;refine z7 rfl (fun hc35=> ?_) (fun hc35=> ?_)
      ·refine rn ?_;refine rq 0 ?_
       exact ⟨rfl,congrArg bv (by rw [zgx,hz,zo5 h1 hw (by simpa using hg6_3) (by first|exact .inl (by simpa using hg6_6)|exact .inr (by simpa using hc35)),Bool.and_false])⟩
      ·refine rn ?_;exact ⟨i+n,⟨hz.trans (zwp h1 hw hn1 (.inr ⟨by simpa using hg6_6,by simpa using hc35⟩)),by omega⟩,eA,by omega⟩
    ·refine rn ?_;first|(refine qv rfl rfl (y1 rfl rfl (u7 (zsx _) (Sbs.refl _))) ?_)|refine qs rfl rfl ?_|skip
     refine rn ?_;refine zfh rfl ?_;refine rn ?_;exact ⟨i+n,⟨hz.trans (zwp h1 hw hn1 (.inl (by simpa using hg6_3))),by omega⟩,eA,by omega⟩
   ·have h1:¬i < s.size:=by simpa using hc16
    refine rn ?_;refine rq 0 ?_
    exact ⟨rfl,congrArg bv (by rw [zgx,←yek,hg1_2,hz,yaz h1,decide_eq_true (show (s.size:Int)≤24 by omega)];rfl)⟩
theorem zfn (l:List ByteArray) (most:Nat) (hl:l.length≤4611686018427387904):y8 Tryz.prog 163 [zdp l,iv most] [] (fun r h'=>h'= []∧r=bv (zc6 most l)):=by
 refine z6 Tryz.func163 rfl rfl rfl ?_
 refine rn ?_;refine zdg (l.length) (fun k:Nat=>zbu [] l=zbu (l.take k) (l.drop k)) (fun k=> [(11,iv k)]) [(0,_),(1,_),(9,_),(10,_)] rfl ?_
 intro k lk zk
 refine rn ?_;refine z7 rfl (fun hc12=> ?_) (fun hc12=> ?_)
 ·have hk:=za4 hc12
  have rk:=zak (f:=zf5) hk
  refine rn ?_;refine qv rfl rfl (y1 rfl rfl (u7 (yhc _) (Sbs.refl _))) ?_
  refine rn ?_;refine z7 rfl (fun hc18=> ?_) (fun hc18=> ?_)
  ·refine rn ?_;refine rq 0 ?_
   exact ⟨rfl,congrArg bv (by rw [zc6,you hk zk (by simpa using hc18),Bool.and_false])⟩
  ·refine zar ?_;refine zac ?_;refine w8 (y4 ?_)
   refine q1 ?_;refine q1 ?_;refine qq rfl rfl (zba (k:=k) rfl rfl (by simp;omega)) ?_
   rw [←List.map_take]
   refine rn ?_;refine zdg ((l.take k).length) (fun j:Nat=>(l.take k).all (fun t=> !(l[k].toList==t.toList))=((l.take k).drop j).all (fun t=> !(l[k].toList==t.toList))) (fun j=> [(23,iv j)]) [(0,_),(1,_),(6,_),(9,_),(10,_),(11,_),(21,_),(22,_)] rfl ?_
   intro j lj zj
   refine rn ?_;refine z7 rfl (fun hc24=> ?_) (fun hc24=> ?_)
   ·have hj:=za4 hc24
    have rj:=zak (f:=zf5) hj
    have bj:(l.take k).length≤4611686018427387904:=by simp;omega
    refine rn ?_;refine z7 rfl (fun hc29=> ?_) (fun hc29=> ?_)
    ·refine rn ?_;refine rq 0 ?_
     exact ⟨rfl,congrArg bv (by rw [zc6,yov hk zk (zun hj (by simpa using hc29)),Bool.and_false])⟩
    ·refine rn ?_;exact ⟨hj,zwm hj zj (by simpa using hc29),eA⟩
   ·have qj:=za5 hc24 lj
    have aj:=yav qj zj
    refine rn ?_;exact ⟨hk,yae hk zk (by simpa using hc18) aj,eA⟩
 ·have qk:=za5 hc12 lk
  refine rn ?_;refine rq 0 ?_
  exact ⟨rfl,congrArg bv (by rw [zc6,yow qk zk];simp)⟩
theorem zu7 (h:Hist) (e:Ev) (hl:e.scan.length≤4611686018427387904):y8 Tryz.prog 164 [.agg (w7 h),.agg (evR e)] [] (fun r h'=>h'= []∧r=bv (zcb h e)):=
 (zzf h e hl).mono fun _ _ q=>⟨q.1,by rw [q.2,zzc]⟩
theorem bvz2_345 {a b:Bool} (h:a=b:=by rw [ybi (by simp_all) (by simp_all) (by simp_all) (by simp_all) ai aj ak am];first|(simp_all;done)|(simp_all;intros;omega)):bv a=bv b:=congrArg bv h
theorem yb6 (h:Hist) (la:Lim 4611686018427387904 h):y8 Tryz.prog 122 [.agg (w7 h)] [] (fun r h'=>h'= []∧r=bv (zad h)):=by
 refine z6 Tryz.func122 rfl rfl rfl ?_
 refine rn ?_;refine z8 rfl (q6 rfl rfl rfl fun b1=> ?_)
 refine rn ?_;refine qv rfl rfl (y1 rfl rfl (u7 (zfn h.ts 300 la.ts) (Sbs.refl _))) ?_
 refine rn ?_;refine w6 (fun hg1_4=> ?_) (fun hg1_4=> ?_)
 ·refine rn ?_;refine zcw rfl ?_;refine rn ?_;refine rq 1 ?_
  exact ⟨rfl,congrArg bv (by rw [zju (by simp_all)])⟩
 ·refine rn ?_;refine qv rfl rfl (y1 rfl rfl (u7 (zfn h.ss 60 la.ss) (Sbs.refl _))) ?_
  refine rn ?_;refine w6 (fun hg1_10=> ?_) (fun hg1_10=> ?_)
  ·refine rn ?_;refine zcw rfl ?_;refine rn ?_;refine rq 1 ?_
   exact ⟨rfl,congrArg bv (by rw [zju (by simp_all)])⟩
  ·refine rn ?_;refine qv rfl rfl (y1 rfl rfl (u7 (zfn h.os 300 la.os) (Sbs.refl _))) ?_
   refine rn ?_;refine w6 (fun hg1_16=> ?_) (fun hg1_16=> ?_)
   ·refine rn ?_;refine zcw rfl ?_;refine rn ?_;refine rq 1 ?_
    exact ⟨rfl,congrArg bv (by rw [zju (by simp_all)])⟩
   ·refine rn ?_;refine qv rfl rfl (y1 rfl rfl (u7 (zfn h.ps 60 la.ps) (Sbs.refl _))) ?_
    refine rn ?_;refine z7 rfl (fun hc32=> ?_) (fun hc32=> ?_)
    ·refine rn ?_;refine rq 1 ?_
     exact ⟨rfl,congrArg bv (by rw [zju (by simp_all)])⟩
    ·refine rn ?_;refine zdg (h.evs.length) (fun i:Nat=>h.evs.all (zcb h)=(h.evs.drop i).all (zcb h)) (fun i=> [(36,iv i)]) [(1,_),(34,_),(35,_)] rfl ?_
     intro i li zi
     refine rn ?_;refine z7 rfl (fun hc37=> ?_) (fun hc37=> ?_)
     ·have hi:=za4 hc37
      have ri:=zak (f:=evR) hi
      have bi:=la.evs
      have si:=la.scans h.evs[i] (List.getElem_mem hi)
      refine rn ?_;refine z8 rfl (y3 rfl fun b4=> ?_)
      refine rn ?_;refine qv rfl rfl (y1 rfl rfl (u7 (zu7 h h.evs[i] si) (Sbs.refl _))) ?_
      refine rn ?_;refine z7 rfl (fun hc43=> ?_) (fun hc43=> ?_)
      ·refine rn ?_;refine rq 2 ?_
       exact ⟨rfl,congrArg bv (by rw [ybj (zun hi (by simpa using hc43))])⟩
      ·refine rn ?_;exact ⟨hi,zwm hi zi (by simpa using hc43),eA⟩
     ·have qi:=za5 hc37 li
      have ai:=yav qi zi
      refine rn ?_;refine zdg (h.ords.length) (fun j:Nat=>h.ords.all (zry h)=(h.ords.drop j).all (zry h)) (fun j=> [(48,iv j)]) [(1,_),(46,_),(47,_)] rfl ?_
      intro j lj zj
      refine rn ?_;refine z7 rfl (fun hc49=> ?_) (fun hc49=> ?_)
      ·have hj:=za4 hc49
       have rj:=zak (f:=zer) hj
       have bj:=la.ords
       have sj:=la.ordts h.ords[j] (List.getElem_mem hj)
       refine rn ?_;refine z8 rfl (y3 rfl fun b6=> ?_)
       refine rn ?_;refine qv rfl rfl (y1 rfl rfl (u7 (zjb _ _) (Sbs.refl _))) ?_
       refine rn ?_;refine w6 (fun hg12_7=> ?_) (fun hg12_7=> ?_)
       ·refine rn ?_;refine zcw rfl ?_;refine rn ?_;refine rq 2 ?_
        exact ⟨rfl,congrArg bv (by rw [zsf (zun hj (by rw [zvg];simp_all))])⟩
       ·refine rn ?_;refine qv rfl rfl (y1 rfl rfl (u7 (yq1 h h.ords[j].ts sj) (Sbs.refl _))) ?_
        refine rn ?_;refine z7 rfl (fun hc65=> ?_) (fun hc65=> ?_)
        ·refine rn ?_;refine rq 2 ?_
         exact ⟨rfl,congrArg bv (by rw [zsf (zun hj (by rw [zvg];simp_all))])⟩
        ·refine rn ?_;exact ⟨hj,zwm hj zj (by rw [zvg];simp_all),eA⟩
      ·have qj:=za5 hc49 lj
       have aj:=yav qj zj
       refine rn ?_;refine zdg (h.mats.length) (fun k:Nat=>h.mats.all (zvs h)=(h.mats.drop k).all (zvs h)) (fun k=> [(70,iv k)]) [(1,_),(68,_),(69,_)] rfl ?_
       intro k lk zk
       refine rn ?_;refine z7 rfl (fun hc71=> ?_) (fun hc71=> ?_)
       ·have hk:=za4 hc71
        have rk:=zak (f:=zd9) hk
        have bk:=la.mats
        have sk:=la.matts h.mats[k] (List.getElem_mem hk)
        refine rn ?_;refine z8 rfl (y3 rfl fun b8=> ?_)
        refine rn ?_;refine qv rfl rfl (y1 rfl rfl (u7 (zjb _ _) (Sbs.refl _))) ?_
        refine rn ?_;refine w6 (fun hg18_7=> ?_) (fun hg18_7=> ?_)
        ·refine rn ?_;refine zcw rfl ?_;refine rn ?_;refine rq 2 ?_
         exact ⟨rfl,congrArg bv (by rw [zm4 (zun hk (by rw [zq2];simp_all))])⟩
        ·refine rn ?_;refine qv rfl rfl (y1 rfl rfl (u7 (zjb _ _) (Sbs.refl _))) ?_
         refine rn ?_;refine w6 (fun hg18_16=> ?_) (fun hg18_16=> ?_)
         ·refine rn ?_;refine zcw rfl ?_;refine rn ?_;refine rq 2 ?_
          exact ⟨rfl,congrArg bv (by rw [zm4 (zun hk (by rw [zq2];simp_all))])⟩
         ·refine rn ?_;refine qv rfl rfl (y1 rfl rfl (u7 (yq1 h h.mats[k].ts sk) (Sbs.refl _))) ?_
          refine rn ?_;refine z7 rfl (fun hc96=> ?_) (fun hc96=> ?_)
          ·refine rn ?_;refine rq 2 ?_
           exact ⟨rfl,congrArg bv (by rw [zm4 (zun hk (by rw [zq2];simp_all))])⟩
          ·refine rn ?_;exact ⟨hk,zwm hk zk (by rw [zq2];simp_all),eA⟩
       ·have qk:=za5 hc71 lk
        have ak:=yav qk zk
        refine rn ?_;refine zdg (h.wants.length) (fun m:Nat=>h.wants.all (zws h)=(h.wants.drop m).all (zws h)) (fun m=> [(101,iv m)]) [(1,_),(99,_),(100,_)] rfl ?_
        intro m lm zm
        refine rn ?_;refine z7 rfl (fun hc102=> ?_) (fun hc102=> ?_)
        ·have hm:=za4 hc102
         have rm:=zak (f:=zf3) hm
         have bm:=la.wants
         refine rn ?_;refine z8 rfl (y3 rfl fun b10=> ?_)
         refine rn ?_;refine qv rfl rfl (y1 rfl rfl (u7 (zjb _ _) (Sbs.refl _))) ?_
         refine rn ?_;refine w6 (fun hg24_7=> ?_) (fun hg24_7=> ?_)
         ·refine rn ?_;refine zcw rfl ?_;refine rn ?_;refine rq 2 ?_
          exact ⟨rfl,congrArg bv (by rw [zse (zun hm (by rw [zus];simp_all))])⟩
         ·refine rn ?_;refine qv rfl rfl (y1 rfl rfl (u7 (zjb _ _) (Sbs.refl _))) ?_
          refine rn ?_;refine z7 rfl (fun hc117=> ?_) (fun hc117=> ?_)
          ·refine rn ?_;refine rq 2 ?_
           exact ⟨rfl,congrArg bv (by rw [zse (zun hm (by rw [zus];simp_all))])⟩
          ·refine rn ?_;exact ⟨hm,zwm hm zm (by rw [zus];simp_all),eA⟩
        ·have qm:=za5 hc102 lm
         have am:=yav qm zm
         refine rn ?_;refine w6 (fun hg27_4=> ?_) (fun hg27_4=> ?_)
         ·refine rn ?_;refine w6 (fun hg27_10=> ?_) (fun hg27_10=> ?_)
          ·refine rn ?_;refine w6 (fun hg27_16=> ?_) (fun hg27_16=> ?_)
           ·refine rn ?_;refine rq 1 ?_
            exact ⟨rfl,bvz2_345⟩
           ·refine rn ?_;refine rq 1 ?_
            exact ⟨rfl,bvz2_345⟩
          ·refine rn ?_;refine rq 1 ?_
           exact ⟨rfl,bvz2_345⟩
         ·refine rn ?_;refine rq 1 ?_
          exact ⟨rfl,bvz2_345⟩
theorem zbv (s:SV) (l:List Int) (n:Int) (hl:l.length≤1000000000):y8 Tryz.prog 166 [.v s.v,iv n] [.row s.v 1 3 (l.map zal)] (fun r h'=>∃s':SV,h'= [.row s'.v 1 3 ((yf1 l n).map zal)]∧r= .v s'.v):=by
 refine z6 Tryz.func166 rfl rfl rfl ?_
 refine rn ?_;refine qv rfl rfl (y1 rfl rfl (y0.lend (R:=fun x=>x=iv (atI n 0 l)) (y0.of_fun (yhb (f:=false) l n (by omega))) (fun r hr=>by rw [hr];rfl) (.refl _ _) ⟨zll,.refl _ _,trivial⟩)) ?_
 refine rn ?_;refine z7 rfl (fun hc8=> ?_) (fun hc8=> ?_)
 ·refine rn ?_;refine rq 0 ?_
  exact ⟨s,by rw [yf1,if_pos (by simpa using hc8)];rfl,rfl⟩
 ·refine rn ?_;refine qv rfl rfl (w9 rfl rfl) ?_
  refine z8 rfl (q7 rfl rfl (by simp;omega) rfl (fun s13=> ?_) (fun r hr=>by simp at hr;subst hr;rfl))
  refine u9 s13 fun sv hsv=> ?_
  subst hsv
  refine rn ?_;refine rq 0 ?_
  exact ⟨sv,by rw [yf1,if_neg (by simpa using hc8),List.map_append];rfl,rfl⟩
theorem zne (s:SV) (l:List Int) (v:Ver) (hl:l.length≤1000000000):y8 Tryz.prog 167 [.v s.v,.agg (yf8 v)] [.row s.v 1 3 (l.map zal)] (fun r h'=>∃s':SV,h'= [.row s'.v 1 3 ((ypl l v).map zal)]∧r= .v s'.v):=by
 refine z6 Tryz.func167 rfl rfl rfl ?_
 refine rn ?_;refine z8 rfl (q6 rfl rfl rfl fun b3=> ?_)
 refine rn ?_;refine z7 rfl (fun hc7=> ?_) (fun hc7=> ?_)
 ·refine rn ?_;refine rq 1 ?_
  exact ⟨s,by rw [ypl,if_pos (by simpa using hc7)];rfl,rfl⟩
 ·refine rn ?_;refine z8 rfl (u3 rfl rfl (zay (y0.of_fun (zbv s l v.t hl))) rfl ?_)
  rintro _ _ ⟨s',rfl,rfl⟩
  refine rn ?_;refine rq 1 ?_
  exact ⟨s',by rw [ypl,if_neg (by simpa using hc7)];rfl,rfl⟩
theorem yb5 (h:Hist) (la:Lim 3000 h):y8 Tryz.prog 123 [.agg (w7 h)] [] (fun r h'=>h'= []∧r= .agg [zbc (zcu h 0),zbc (zcu h 1),zbc (zcu h 2),zbc (zcu h 3)]):=by
 refine z6 Tryz.func123 rfl rfl rfl ?_
 refine rn ?_;refine z8 rfl (q6 rfl rfl rfl fun b1=> ?_)
 refine z8 rfl (y3 rfl fun b2=> ?_)
 refine rn ?_;refine z8 rfl (y3 rfl fun b3=> ?_)
 refine rn ?_;refine zjm h.evs.length (fun k s0 s1 s2 s3=>⟨[(21,iv k),(1,pZ b1),(2,pZ b2),(3,pZ b3),(19,zri h.evs),(20,iv (h.evs.map evR).length)],[.row s0.v 1 3 (((spE h k) 0).map zal),.row s1.v 1 3 (((spE h k) 1).map zal),.row s2.v 1 3 (((spE h k) 2).map zal),.row s3.v 1 3 (((spE h k) 3).map zal),.box b3 154 [.v s0.v,.v s1.v,.v s2.v,.v s3.v],.box b2 154 [.v (.slice none 0 0),.v (.slice none 0 0),.v (.slice none 0 0),.v (.slice none 0 0)],.box b1 28 (w7 h)],[]⟩) (⟨none,0,0⟩) (⟨none,0,0⟩) (⟨none,0,0⟩) (⟨none,0,0⟩) (v7 (zam 1 3) (v7 (zam 1 3) (v7 (zam 1 3) (v7 (zam 1 3) es)))) ?_
 intro k s0 s1 s2 s3 lk
 refine rn ?_;refine z7 rfl (fun hc22=> ?_) (fun hc22=> ?_)
 ·have hk:=za4 hc22
  have rk:=zak (f:=evR) hk
  have bd:=bdE la k lk
  have ls:=la.scans h.evs[k] (List.getElem_mem hk)
  have le:=la.evs
  refine rn ?_;refine z8 rfl (y3 rfl fun b5=> ?_)
  refine rn ?_;refine qq rfl rfl (y6 rfl rfl (by decide) (by decide)) ?_
  refine rn ?_;refine z8 rfl (u3 rfl rfl (zay (y0.of_fun (zbv _ _ _ (by have:=bd 0;omega)))) rfl ?_)
  rintro _ _ ⟨s',rfl,rfl⟩
  refine qq rfl rfl (y6 rfl rfl (by decide) (by decide)) ?_
  refine rn0 ?_;refine ype (fun s0 s1 s2 s3=>⟨[(5,pZ b5),(21,iv k),(20,iv (h.evs.map evR).length),(19,zri h.evs),(1,pZ b1),(2,pZ b2),(3,pZ b3)],[.box b5 60 (evR h.evs[k]),.row s0.v 1 3 (((zgc (zax (spE h k) (0,h.evs[k].t)) h.evs[k]) 0).map zal),.row s1.v 1 3 (((zgc (zax (spE h k) (0,h.evs[k].t)) h.evs[k]) 1).map zal),.row s2.v 1 3 (((zgc (zax (spE h k) (0,h.evs[k].t)) h.evs[k]) 2).map zal),.row s3.v 1 3 (((zgc (zax (spE h k) (0,h.evs[k].t)) h.evs[k]) 3).map zal),.box b3 154 [.v s0.v,.v s1.v,.v s2.v,.v s3.v],.box b2 154 [.v (.slice none 0 0),.v (.slice none 0 0),.v (.slice none 0 0),.v (.slice none 0 0)],.box b1 28 (w7 h)],[]⟩) ?_ ?_
  ·refine rn ?_;refine z7 rfl (fun hc33=> ?_) (fun hc33=> ?_)
   ·refine rn ?_;refine qq rfl rfl (y6 rfl rfl (by decide) (by decide)) ?_
    refine rn ?_;refine z8 rfl (u3 rfl rfl (zay (y0.of_fun (zbv _ _ _ (by have:=bd 1;omega)))) rfl ?_)
    rintro _ _ ⟨s',rfl,rfl⟩
    refine qq rfl rfl (y6 rfl rfl (by decide) (by decide)) ?_
    refine rn ?_;exact ⟨_,_,_,_,by unfold zgc;first|(rw [if_pos (by simpa using hc33)];exact eA)|(rw [if_neg (by simpa using hc33),if_pos (by simp at hc33;simp_all)];exact eA)|(rw [if_neg (by simpa using hc33),if_neg (by simp at hc33;simp_all),if_pos (by simpa using hc56)];exact eA)|(rw [if_neg (by simpa using hc33),if_neg (by simp at hc33;simp_all),if_neg (by simpa using hc56)];exact eA)⟩
   ·refine rn ?_;refine z7 rfl (fun hc41=> ?_) (fun hc41=> ?_)
    ·refine rn ?_;refine z7 rfl (fun hc41=> ?_) (fun hc41=> ?_)
     ·refine rn ?_;refine qq rfl rfl (y6 rfl rfl (by decide) (by decide)) ?_
      refine rn ?_;refine z8 rfl (u3 rfl rfl (zay (y0.of_fun (zbv _ _ _ (by have:=bd 2;omega)))) rfl ?_)
      rintro _ _ ⟨s',rfl,rfl⟩
      refine qq rfl rfl (y6 rfl rfl (by decide) (by decide)) ?_
      refine rn ?_;refine qq rfl rfl (y6 rfl rfl (by decide) (by decide)) ?_
      refine rn ?_;refine z8 rfl (u3 rfl rfl (zay (y0.of_fun (zne _ _ _ (by have:=(bd.f (0,h.evs[k].t)) 0;exact Nat.le_trans this (by omega))))) rfl ?_)
      rintro _ _ ⟨s',rfl,rfl⟩
      refine qq rfl rfl (y6 rfl rfl (by decide) (by decide)) ?_
      refine rn ?_;exact ⟨_,_,_,_,by unfold zgc;first|(rw [if_pos (by simpa using hc33)];exact eA)|(rw [if_neg (by simpa using hc33),if_pos (by simp at hc33;simp_all)];exact eA)|(rw [if_neg (by simpa using hc33),if_neg (by simp at hc33;simp_all),if_pos (by simpa using hc56)];exact eA)|(rw [if_neg (by simpa using hc33),if_neg (by simp at hc33;simp_all),if_neg (by simpa using hc56)];exact eA)⟩
     ·first|cases hc41|exact absurd hc41 (by decide)|(exfalso;simp_all;done)
    ·refine rn ?_;refine z7 rfl (fun hc41=> ?_) (fun hc41=> ?_)
     ·refine rn ?_;refine qq rfl rfl (y6 rfl rfl (by decide) (by decide)) ?_
      refine rn ?_;refine z8 rfl (u3 rfl rfl (zay (y0.of_fun (zbv _ _ _ (by have:=bd 2;omega)))) rfl ?_)
      rintro _ _ ⟨s',rfl,rfl⟩
      refine qq rfl rfl (y6 rfl rfl (by decide) (by decide)) ?_
      refine rn ?_;refine qq rfl rfl (y6 rfl rfl (by decide) (by decide)) ?_
      refine rn ?_;refine z8 rfl (u3 rfl rfl (zay (y0.of_fun (zne _ _ _ (by have:=(bd.f (0,h.evs[k].t)) 0;exact Nat.le_trans this (by omega))))) rfl ?_)
      rintro _ _ ⟨s',rfl,rfl⟩
      refine qq rfl rfl (y6 rfl rfl (by decide) (by decide)) ?_
      refine rn ?_;exact ⟨_,_,_,_,by unfold zgc;first|(rw [if_pos (by simpa using hc33)];exact eA)|(rw [if_neg (by simpa using hc33),if_pos (by simp at hc33;simp_all)];exact eA)|(rw [if_neg (by simpa using hc33),if_neg (by simp at hc33;simp_all),if_pos (by simpa using hc56)];exact eA)|(rw [if_neg (by simpa using hc33),if_neg (by simp at hc33;simp_all),if_neg (by simpa using hc56)];exact eA)⟩
     ·refine rn ?_;refine z7 rfl (fun hc56=> ?_) (fun hc56=> ?_)
      ·refine rn ?_;refine qq rfl rfl (y6 rfl rfl (by decide) (by decide)) ?_
       refine rn ?_;refine z8 rfl (u3 rfl rfl (zay (y0.of_fun (zbv _ _ _ (by have:=bd 3;omega)))) rfl ?_)
       rintro _ _ ⟨s',rfl,rfl⟩
       refine qq rfl rfl (y6 rfl rfl (by decide) (by decide)) ?_
       refine rn ?_;exact ⟨_,_,_,_,by unfold zgc;first|(rw [if_pos (by simpa using hc33)];exact eA)|(rw [if_neg (by simpa using hc33),if_pos (by simp at hc33;simp_all)];exact eA)|(rw [if_neg (by simpa using hc33),if_neg (by simp at hc33;simp_all),if_pos (by simpa using hc56)];exact eA)|(rw [if_neg (by simpa using hc33),if_neg (by simp at hc33;simp_all),if_neg (by simpa using hc56)];exact eA)⟩
      ·refine rn ?_;exact ⟨_,_,_,_,by unfold zgc;first|(rw [if_pos (by simpa using hc33)];exact eA)|(rw [if_neg (by simpa using hc33),if_pos (by simp at hc33;simp_all)];exact eA)|(rw [if_neg (by simpa using hc33),if_neg (by simp at hc33;simp_all),if_pos (by simpa using hc56)];exact eA)|(rw [if_neg (by simpa using hc33),if_neg (by simp at hc33;simp_all),if_neg (by simpa using hc56)];exact eA)⟩
  ·intro s0 s1 s2 s3
   refine rn ?_;refine zjm h.evs[k].scan.length (fun j s0 s1 s2 s3=>⟨[(67,iv j),(1,pZ b1),(2,pZ b2),(3,pZ b3),(19,zri h.evs),(20,iv (h.evs.map evR).length),(21,iv k),(65,zft h.evs[k].scan),(66,iv (h.evs[k].scan.map zap).length)],[.box b5 60 (evR h.evs[k]),.row s0.v 1 3 ((((h.evs[k].scan.take j).foldl stepS (zgc (zax (spE h k) (0,h.evs[k].t)) h.evs[k])) 0).map zal),.row s1.v 1 3 ((((h.evs[k].scan.take j).foldl stepS (zgc (zax (spE h k) (0,h.evs[k].t)) h.evs[k])) 1).map zal),.row s2.v 1 3 ((((h.evs[k].scan.take j).foldl stepS (zgc (zax (spE h k) (0,h.evs[k].t)) h.evs[k])) 2).map zal),.row s3.v 1 3 ((((h.evs[k].scan.take j).foldl stepS (zgc (zax (spE h k) (0,h.evs[k].t)) h.evs[k])) 3).map zal),.box b3 154 [.v s0.v,.v s1.v,.v s2.v,.v s3.v],.box b2 154 [.v (.slice none 0 0),.v (.slice none 0 0),.v (.slice none 0 0),.v (.slice none 0 0)],.box b1 28 (w7 h)],[]⟩) _ _ _ _ (es) ?_
   intro j s0 s1 s2 s3 lj
   refine rn ?_;refine z7 rfl (fun hc68=> ?_) (fun hc68=> ?_)
   ·have hj:=za4 hc68
    have rj:=zak (f:=zap) hj
    have bj:=Bd.fold (c:=2) (l:=h.evs[k].scan.take j) (fun s _ L n h=>h.s s) ((bd.f (0,h.evs[k].t)).k h.evs[k])
    have bl:(h.evs[k].scan.take j).length≤3000:=by rw [List.length_take];omega
    refine rn ?_;refine z8 rfl (y3 rfl fun b7=> ?_)
    refine rn ?_;refine qq rfl rfl (y6 rfl rfl (by decide) (by decide)) ?_
    refine rn ?_;refine z8 rfl (u3 rfl rfl (zay (y0.of_fun (zbv _ _ _ (by have:=bj 2;omega)))) rfl ?_)
    rintro _ _ ⟨s',rfl,rfl⟩
    refine qq rfl rfl (y6 rfl rfl (by decide) (by decide)) ?_
    refine rn ?_;refine qq rfl rfl (y6 rfl rfl (by decide) (by decide)) ?_
    refine rn ?_;refine z8 rfl (u3 rfl rfl (zay (y0.of_fun (zne _ _ _ (by have:=bj 0;omega)))) rfl ?_)
    rintro _ _ ⟨s',rfl,rfl⟩
    refine qq rfl rfl (y6 rfl rfl (by decide) (by decide)) ?_
    refine rn ?_;have e:(h.evs[k].scan.take (j+1)).foldl stepS (zgc (zax (spE h k) (0,h.evs[k].t)) h.evs[k])=stepS ((h.evs[k].scan.take j).foldl stepS (zgc (zax (spE h k) (0,h.evs[k].t)) h.evs[k])) h.evs[k].scan[j]:=zhd _ _ hj
    exact ⟨hj,_,_,_,_,by simp only [e];exact eA⟩
   ·have qj:=za5 hc68 lj
    refine rn ?_;have e:spE h (k+1)=(h.evs[k].scan.take j).foldl stepS (zgc (zax (spE h k) (0,h.evs[k].t)) h.evs[k]):=by rw [spE,zhd _ _ hk,H.stepE,zji _ _ qj];rfl
    exact ⟨hk,_,_,_,_,by simp only [e];exact eA⟩
 ·have qk:=za5 hc22 lk
  refine rn ?_;refine zjm h.ords.length (fun k s0 s1 s2 s3=>⟨[(88,iv k),(1,pZ b1),(2,pZ b2),(3,pZ b3),(86,zz2 h.ords),(87,iv (h.ords.map zer).length)],[.row s0.v 1 3 (((spO h k) 0).map zal),.row s1.v 1 3 (((spO h k) 1).map zal),.row s2.v 1 3 (((spO h k) 2).map zal),.row s3.v 1 3 (((spO h k) 3).map zal),.box b3 154 [.v s0.v,.v s1.v,.v s2.v,.v s3.v],.box b2 154 [.v (.slice none 0 0),.v (.slice none 0 0),.v (.slice none 0 0),.v (.slice none 0 0)],.box b1 28 (w7 h)],[]⟩) _ _ _ _ (by rw [show spO h 0=spE h k from (zji stepE noR qk).symm];exact es) ?_
  intro k s0 s1 s2 s3 lk
  refine rn ?_;refine z7 rfl (fun hc89=> ?_) (fun hc89=> ?_)
  ·have hk:=za4 hc89
   have rk:=zak (f:=zer) hk
   have bd:=bdO la k lk
   have ls:=la.ordts h.ords[k] (List.getElem_mem hk)
   have le:=la.ords
   refine rn ?_;refine z8 rfl (y3 rfl fun b9=> ?_)
   refine rn ?_;refine qq rfl rfl (y6 rfl rfl (by decide) (by decide)) ?_
   refine rn ?_;refine z8 rfl (u3 rfl rfl (zay (y0.of_fun (zbv _ _ _ (by have:=bd 2;omega)))) rfl ?_)
   rintro _ _ ⟨s',rfl,rfl⟩
   refine qq rfl rfl (y6 rfl rfl (by decide) (by decide)) ?_
   refine rn ?_;refine zjm h.ords[k].ts.length (fun j s0 s1 s2 s3=>⟨[(101,iv j),(1,pZ b1),(2,pZ b2),(3,pZ b3),(86,zz2 h.ords),(87,iv (h.ords.map zer).length),(88,iv k),(99,zbc h.ords[k].ts),(100,iv (h.ords[k].ts.map zal).length)],[.box b9 87 (zer h.ords[k]),.row s0.v 1 3 ((((h.ords[k].ts.take j).foldl zp9 (zax (spO h k) (2,h.ords[k].o))) 0).map zal),.row s1.v 1 3 ((((h.ords[k].ts.take j).foldl zp9 (zax (spO h k) (2,h.ords[k].o))) 1).map zal),.row s2.v 1 3 ((((h.ords[k].ts.take j).foldl zp9 (zax (spO h k) (2,h.ords[k].o))) 2).map zal),.row s3.v 1 3 ((((h.ords[k].ts.take j).foldl zp9 (zax (spO h k) (2,h.ords[k].o))) 3).map zal),.box b3 154 [.v s0.v,.v s1.v,.v s2.v,.v s3.v],.box b2 154 [.v (.slice none 0 0),.v (.slice none 0 0),.v (.slice none 0 0),.v (.slice none 0 0)],.box b1 28 (w7 h)],[]⟩) _ _ _ _ (es) ?_
   intro j s0 s1 s2 s3 lj
   refine rn ?_;refine z7 rfl (fun hc102=> ?_) (fun hc102=> ?_)
   ·have hj:=za4 hc102
    have rj:=zak (f:=zal) hj
    have bj:=Bd.fold (c:=1) (l:=h.ords[k].ts.take j) (fun s _ L n h=>h.t s) (bd.f (2,h.ords[k].o))
    have bl:(h.ords[k].ts.take j).length≤3000:=by rw [List.length_take];omega
    refine rn ?_;refine qq rfl rfl (y6 rfl rfl (by decide) (by decide)) ?_
    refine rn ?_;refine z8 rfl (u3 rfl rfl (zay (y0.of_fun (zbv _ _ _ (by have:=bj 0;omega)))) rfl ?_)
    rintro _ _ ⟨s',rfl,rfl⟩
    refine qq rfl rfl (y6 rfl rfl (by decide) (by decide)) ?_
    refine rn ?_;have e:(h.ords[k].ts.take (j+1)).foldl zp9 (zax (spO h k) (2,h.ords[k].o))=zp9 ((h.ords[k].ts.take j).foldl zp9 (zax (spO h k) (2,h.ords[k].o))) h.ords[k].ts[j]:=zhd _ _ hj
    exact ⟨hj,_,_,_,_,by simp only [e];exact eA⟩
   ·have qj:=za5 hc102 lj
    refine rn ?_;have e:spO h (k+1)=(h.ords[k].ts.take j).foldl zp9 (zax (spO h k) (2,h.ords[k].o)):=by rw [spO,zhd _ _ hk,zr5,zji _ _ qj];rfl
    exact ⟨hk,_,_,_,_,by simp only [e];exact eA⟩
  ·have qk:=za5 hc89 lk
   refine rn ?_;refine zjm h.mats.length (fun k s0 s1 s2 s3=>⟨[(115,iv k),(1,pZ b1),(2,pZ b2),(3,pZ b3),(113,zvr h.mats),(114,iv (h.mats.map zd9).length)],[.row s0.v 1 3 (((spM h k) 0).map zal),.row s1.v 1 3 (((spM h k) 1).map zal),.row s2.v 1 3 (((spM h k) 2).map zal),.row s3.v 1 3 (((spM h k) 3).map zal),.box b3 154 [.v s0.v,.v s1.v,.v s2.v,.v s3.v],.box b2 154 [.v (.slice none 0 0),.v (.slice none 0 0),.v (.slice none 0 0),.v (.slice none 0 0)],.box b1 28 (w7 h)],[]⟩) _ _ _ _ (by rw [show spM h 0=spO h k from (zji zr5 _ qk).symm];exact es) ?_
   intro k s0 s1 s2 s3 lk
   refine rn ?_;refine z7 rfl (fun hc116=> ?_) (fun hc116=> ?_)
   ·have hk:=za4 hc116
    have rk:=zak (f:=zd9) hk
    have bd:=bdM la k lk
    have ls:=la.matts h.mats[k] (List.getElem_mem hk)
    have le:=la.mats
    refine rn ?_;refine z8 rfl (y3 rfl fun b13=> ?_)
    refine rn ?_;refine qq rfl rfl (y6 rfl rfl (by decide) (by decide)) ?_
    refine rn ?_;refine z8 rfl (u3 rfl rfl (zay (y0.of_fun (zbv _ _ _ (by have:=bd 3;omega)))) rfl ?_)
    rintro _ _ ⟨s',rfl,rfl⟩
    refine qq rfl rfl (y6 rfl rfl (by decide) (by decide)) ?_
    refine rn ?_;refine qq rfl rfl (y6 rfl rfl (by decide) (by decide)) ?_
    refine rn ?_;refine z8 rfl (u3 rfl rfl (zay (y0.of_fun (zbv _ _ _ (by have:=bd 2;omega)))) rfl ?_)
    rintro _ _ ⟨s',rfl,rfl⟩
    refine qq rfl rfl (y6 rfl rfl (by decide) (by decide)) ?_
    refine rn ?_;refine zjm h.mats[k].ts.length (fun j s0 s1 s2 s3=>⟨[(134,iv j),(1,pZ b1),(2,pZ b2),(3,pZ b3),(113,zvr h.mats),(114,iv (h.mats.map zd9).length),(115,iv k),(132,zbc h.mats[k].ts),(133,iv (h.mats[k].ts.map zal).length)],[.box b13 109 (zd9 h.mats[k]),.row s0.v 1 3 ((((h.mats[k].ts.take j).foldl zp9 (zax (zax (spM h k) (3,h.mats[k].p)) (2,h.mats[k].o))) 0).map zal),.row s1.v 1 3 ((((h.mats[k].ts.take j).foldl zp9 (zax (zax (spM h k) (3,h.mats[k].p)) (2,h.mats[k].o))) 1).map zal),.row s2.v 1 3 ((((h.mats[k].ts.take j).foldl zp9 (zax (zax (spM h k) (3,h.mats[k].p)) (2,h.mats[k].o))) 2).map zal),.row s3.v 1 3 ((((h.mats[k].ts.take j).foldl zp9 (zax (zax (spM h k) (3,h.mats[k].p)) (2,h.mats[k].o))) 3).map zal),.box b3 154 [.v s0.v,.v s1.v,.v s2.v,.v s3.v],.box b2 154 [.v (.slice none 0 0),.v (.slice none 0 0),.v (.slice none 0 0),.v (.slice none 0 0)],.box b1 28 (w7 h)],[]⟩) _ _ _ _ (es) ?_
    intro j s0 s1 s2 s3 lj
    refine rn ?_;refine z7 rfl (fun hc135=> ?_) (fun hc135=> ?_)
    ·have hj:=za4 hc135
     have rj:=zak (f:=zal) hj
     have bj:=Bd.fold (c:=1) (l:=h.mats[k].ts.take j) (fun s _ L n h=>h.t s) ((bd.f (3,h.mats[k].p)).f (2,h.mats[k].o))
     have bl:(h.mats[k].ts.take j).length≤3000:=by rw [List.length_take];omega
     refine rn ?_;refine qq rfl rfl (y6 rfl rfl (by decide) (by decide)) ?_
     refine rn ?_;refine z8 rfl (u3 rfl rfl (zay (y0.of_fun (zbv _ _ _ (by have:=bj 0;omega)))) rfl ?_)
     rintro _ _ ⟨s',rfl,rfl⟩
     refine qq rfl rfl (y6 rfl rfl (by decide) (by decide)) ?_
     refine rn ?_;have e:(h.mats[k].ts.take (j+1)).foldl zp9 (zax (zax (spM h k) (3,h.mats[k].p)) (2,h.mats[k].o))=zp9 ((h.mats[k].ts.take j).foldl zp9 (zax (zax (spM h k) (3,h.mats[k].p)) (2,h.mats[k].o))) h.mats[k].ts[j]:=zhd _ _ hj
     exact ⟨hj,_,_,_,_,by simp only [e];exact eA⟩
    ·have qj:=za5 hc135 lj
     refine rn ?_;have e:spM h (k+1)=(h.mats[k].ts.take j).foldl zp9 (zax (zax (spM h k) (3,h.mats[k].p)) (2,h.mats[k].o)):=by rw [spM,zhd _ _ hk,stepM,zji _ _ qj];rfl
     exact ⟨hk,_,_,_,_,by simp only [e];exact eA⟩
   ·have qk:=za5 hc116 lk
    refine rn ?_;refine zjm h.wants.length (fun k s0 s1 s2 s3=>⟨[(148,iv k),(2,pZ b2),(3,pZ b3),(146,zur h.wants),(147,iv (h.wants.map zf3).length)],[.row s0.v 1 3 (((spW h k) 0).map zal),.row s1.v 1 3 (((spW h k) 1).map zal),.row s2.v 1 3 (((spW h k) 2).map zal),.row s3.v 1 3 (((spW h k) 3).map zal),.box b3 154 [.v s0.v,.v s1.v,.v s2.v,.v s3.v],.box b2 154 [.v (.slice none 0 0),.v (.slice none 0 0),.v (.slice none 0 0),.v (.slice none 0 0)],.box b1 28 (w7 h)],[]⟩) _ _ _ _ (by rw [show spW h 0=spM h k from (zji stepM _ qk).symm];exact es) ?_
    intro k s0 s1 s2 s3 lk
    refine rn ?_;refine z7 rfl (fun hc149=> ?_) (fun hc149=> ?_)
    ·have hk:=za4 hc149
     have rk:=zak (f:=zf3) hk
     have bd:=bdW la k lk
     have le:=la.wants
     refine rn ?_;refine z8 rfl (y3 rfl fun b17=> ?_)
     refine rn ?_;refine qq rfl rfl (y6 rfl rfl (by decide) (by decide)) ?_
     refine rn ?_;refine z8 rfl (u3 rfl rfl (zay (y0.of_fun (zbv _ _ _ (by have:=bd 1;omega)))) rfl ?_)
     rintro _ _ ⟨s',rfl,rfl⟩
     refine qq rfl rfl (y6 rfl rfl (by decide) (by decide)) ?_
     refine rn ?_;have e:spW h (k+1)=ygi (spW h k) h.wants[k]:=zhd _ _ hk
     exact ⟨hk,_,_,_,_,by simp only [e];exact eA⟩
    ·have qk:=za5 hc149 lk
     refine rn ?_;exact ze9 (.cons _ _ _ _ (.agg _ _ _ _ _ _ _ rfl inferInstance inferInstance inferInstance rfl) .nil) (.trans (zc0 [] _) (.trans (zc0 [_] _) (.trans (zc0 [_,_] _) (.trans (zc0 [_,_,_] _) (.drop [_,_,_] _ _))))) ⟨rfl,by rw [←show spW h k=zcu h from zji _ _ qk];rfl⟩
theorem yg6 (h:Hist) (la:Lim 4611686018427387904 h):y8 Tryz.prog 65 [.agg (w7 h)] [] (fun r h'=>h'= []∧r=bv (zj1 h)):=by
 refine z6 Tryz.func65 rfl rfl rfl ?_
 refine rn ?_;refine z8 rfl (q6 rfl rfl rfl fun b1=> ?_)
 refine rn ?_;refine qv rfl rfl (y1 rfl rfl (u7 (yb6 h la) (Sbs.refl _))) ?_
 refine rn ?_;refine z7 rfl (fun hc10=> ?_) (fun hc10=> ?_)
 ·refine rn ?_;refine rq 1 ?_
  exact ⟨rfl,congrArg bv (by rw [ymv (by simpa using hc10)])⟩
 ·have hs:zad h=true:=by simpa using hc10
  have la3:=zpb hs
  refine rn ?_;refine qv rfl rfl (y1 rfl rfl (u7 (yb5 h la3) (Sbs.refl _))) ?_
  refine rn ?_;refine zdg (4) (fun k:Nat=>∀j,j < k→okS h j=true) (fun k=> [(13,iv k)]) [(1,_),(12,_)] (fun j hj=>by omega) ?_
  intro k lk zk
  refine rn ?_;refine z7 rfl (fun hc14=> ?_) (fun hc14=> ?_)
  ·have hk:k < 4:=by simp at hc14;omega
   have r0:=yuj h hk
   have r1:=yn7 h hk
   have bl:=zy5 la3 k
   refine rn ?_;refine z7 rfl (fun hc35=> ?_) (fun hc35=> ?_)
   ·refine rn ?_;refine rq 1 ?_
    exact ⟨rfl,congrArg bv (by rw [yb3 hk];rw [okS,beq_eq_false_iff_ne.2 (by simp at hc35;omega),Bool.false_and])⟩
   ·have hlen:(zcu h k).length=(nmK h k).length:=by simp at hc35;omega
    refine rn ?_;refine zdg ((zcu h k).length) (fun i:Nat=>zf4 0 (zcu h k)=zf4 i ((zcu h k).drop i)) (fun i=> [(38,iv i)]) [(1,_),(12,_),(13,_),(36,_),(37,_)] rfl ?_
    intro i li zi
    refine rn ?_;refine z7 rfl (fun hc39=> ?_) (fun hc39=> ?_)
    ·have hi:=za4 hc39
     have ri:=zak (f:=zal) hi
     refine rn ?_;refine z7 rfl (fun hc45=> ?_) (fun hc45=> ?_)
     ·refine rn ?_;refine rq 1 ?_
      exact ⟨rfl,congrArg bv (by rw [yb3 hk];rw [okS,yp6 hi zi (by simp at hc45;omega),Bool.and_false])⟩
     ·refine rn ?_;exact ⟨hi,ya6 hi zi (by simp at hc45;omega),eA⟩
    ·have qi:=za5 hc39 li
     refine rn ?_;exact ⟨hk,fun j hj=>(Nat.lt_or_ge j k).elim (zk j) (fun q=>by
      obtain rfl:j=k:=by omega
      rw [okS,hlen,yp7 qi zi];simp),eA⟩
  ·have qk:k=4:=by simp at hc14;omega
   subst qk
   refine rn ?_;refine rq 1 ?_
   exact ⟨rfl,congrArg bv (by rw [ymu hs zk])⟩
theorem zss (h:Hist) (la:Lim 4611686018427387904 h):y8 Tryz.prog 65 [.agg (w7 h)] [] (fun r h'=>h'= []∧r=bv (zf9 h)):=
 (yg6 h la).mono fun _ _ q=>⟨q.1,by rw [q.2,yb4]⟩
attribute [local irreducible] zd2 jch zfe
theorem zpn {l:List Ev} {t x:Int} {j:Nat} (h:j < l.length) (hw:zat t x l[j]=true):zd1 l t x (j+1)=some (l[j].v,j):=by
 rw [zd1,List.getElem?_eq_getElem h];simp only [hw,if_true]
theorem zg9 {l:List Ev} {t x:Int} {j:Nat} (h:j < l.length) (hw:zat t x l[j]=false):zd1 l t x (j+1)=zd1 l t x j:=by
 rw [zd1,List.getElem?_eq_getElem h];simp [hw]
theorem yg2 {l:List Ev} {j:Nat} (h:j < l.length):(l.map evR)[(((j+1:Nat):Int) - 1).toNat]? =some (evR l[j]):=by
 rw [show (((j+1:Nat):Int) - 1).toNat=j by omega,List.getElem?_map,List.getElem?_eq_getElem h];rfl
theorem ykx (a b:Int):(decide (a ≥ 0) && decide (a < b))=decide (0≤a∧a < b):=by
 rw [Bool.eq_iff_iff];simp only [Bool.and_eq_true,decide_eq_true_eq,ge_iff_le]
theorem ygw {l:List Ev} {a:Nat} {t x:Int} (ha:a < l.length):zd1 l t x a=zpx (l.take a) t x:=by
 rw [zpx,zpo (by rw [List.length_take];omega),List.length_take,Nat.min_eq_left (by omega)]
theorem zmx {α:Type} {l:List α} {q:α→Bool} {k:Nat} (hk:k < l.length):(l.take (k+1)).all q=((l.take k).all q && q l[k]):=by
 rw [List.take_succ_eq_append_getElem hk,List.all_append,List.all_cons,List.all_nil,Bool.and_true]
theorem yg4 (h:Hist) (la:Lim 4611686018427387904 h):y8 Tryz.prog 66 [.agg (w7 h)] [] (fun r h'=>h'= []∧r=bv (za2 h)):=by
 refine z6 Tryz.func66 rfl rfl rfl ?_
 refine rn ?_;refine z8 rfl (q6 rfl rfl rfl fun b1=> ?_)
 refine rn ?_;refine qv rfl rfl (y1 rfl rfl (u7 (zss h la) (Sbs.refl _))) ?_
 refine rn ?_;refine z7 rfl (fun hc7=> ?_) (fun hc7=> ?_)
 ·have hm:zf9 h=false:=by simpa using hc7
  refine rn ?_;refine rq 1 ?_
  exact ⟨rfl,congrArg bv (by rw [za2,hm];rfl)⟩
 ·have hm:zf9 h=true:=by simpa using hc7
  refine rn ?_;refine qv rfl rfl (y1 rfl rfl (u7 (zzj h ((zq0 hm).mono (by decide))) (Sbs.refl _))) ?_
  obtain ⟨bi,bj,be⟩:=ye4 (za7 (zfj h) rules10)
  rw [be]
  refine rn ?_;refine z8 rfl (y3 rfl fun b3=> ?_)
  refine rn ?_;refine rq 2 ?_
  exact ⟨rfl,congrArg bv (by rw [za2,hm,show zke h=za7 (zfj h) rules10 from zx6 hm];cases za7 (zfj h) rules10 <;> rfl)⟩
theorem zzm (h:Hist) (la:Lim 4611686018427387904 h):y8 Tryz.prog 16 [.agg (w7 h)] [] (fun r h'=>h'= []∧r=iv (u6 h)):=by
 refine z6 Tryz.func16 rfl rfl rfl ?_
 refine rn ?_;refine z8 rfl (q6 rfl rfl rfl fun b1=> ?_)
 refine rn ?_;refine qv rfl rfl (y1 rfl rfl (u7 (zss h la) (Sbs.refl _))) ?_
 refine rn ?_;refine z7 rfl (fun hc5=> ?_) (fun hc5=> ?_)
 ·have hm:zf9 h=false:=by simpa using hc5
  refine rn ?_;refine rq 1 ?_
  exact ⟨rfl,by rw [u6,hm];rfl⟩
 ·have hm:zf9 h=true:=by simpa using hc5
  refine rn ?_;refine qv rfl rfl (y1 rfl rfl (u7 (yg4 h la) (Sbs.refl _))) ?_
  refine rn ?_;refine z7 rfl (fun hc8=> ?_) (fun hc8=> ?_)
  ·refine rn ?_;refine rq 1 ?_
   exact ⟨rfl,by rw [u6,hm,if_pos rfl,if_neg (by simpa using hc8)];rfl⟩
  ·refine rn ?_;refine rq 1 ?_
   exact ⟨rfl,by rw [u6,hm,if_pos rfl,if_pos (by simpa using hc8)];rfl⟩
theorem zkz (h:Hist) (la:h.evs.length≤1000000) (t x:Int):y8 Tryz.prog 75 [.agg (w7 h),iv t,iv x] [] (fun r h'=>h'= []∧r= .tup [.agg (yf8 (zr1 (zpx h.evs t x))),iv (atO (zpx h.evs t x)),bv (zpx h.evs t x).isSome]):=by
 refine z6 Tryz.func75 rfl rfl rfl ?_
 refine rn ?_;refine z8 rfl (q6 rfl rfl rfl fun b3=> ?_)
 refine z8 rfl (y3 rfl fun b6=> ?_)
 refine q1 ?_;refine q1 ?_;refine j4 (zac ?_)
 refine w8 ?_;refine w8 (y4 ?_)
 refine q1 ?_;refine q1 ?_;refine q1 ?_;refine qq rfl rfl (zca rfl rfl rfl (by rw [oM];omega)) ?_
 refine rn ?_;refine zhj (fun k:Nat=>k≤h.evs.length∧zd1 h.evs t x h.evs.length=zd1 h.evs t x k) (fun k=>⟨[(9,iv ((k:Int) - 1)),(1,iv t),(2,iv x),(3,pZ b3),(6,pZ b6),(7,iv 0),(8,bv false)],.box b6 57 [iv 0,iv 0]:: .box b3 28 (w7 h):: [],[]⟩) (fun k=>k) h.evs.length ⟨Nat.le_refl _,rfl⟩ (by rw [oM];exact es) ?_
 rintro k ⟨lk,zk⟩
 refine rn ?_;refine z7 rfl (fun hc16=> ?_) (fun hc16=> ?_)
 ·obtain ⟨j,rfl⟩:∃j,k=j+1:=⟨k - 1,by have:=oT hc16;omega⟩
  have hj:j < h.evs.length:=by omega
  refine zar ?_;refine zac ?_;refine w8 ?_;refine zcx ?_;refine w8 (y4 ?_)
  refine q1 ?_;refine q1 ?_;refine q1 ?_;refine qq rfl rfl (zaw rfl rfl (by omega) (yg2 hj)) ?_
  refine rn ?_;refine z8 rfl (y3 rfl fun b10=> ?_)
  refine rn ?_;refine w6 (fun hg5_3=> ?_) (fun hg5_3=> ?_)
  ·refine rn ?_;refine w6 (fun hg5_9=> ?_) (fun hg5_9=> ?_)
   ·refine rn ?_;refine z7 rfl (fun hc38=> ?_) (fun hc38=> ?_)
    ·have hw:zat t x h.evs[j]=true:=by rw [zat];first|(rw [hg5_3,hg5_9,hc38];rfl)|(rw [hg5_3,hg5_9];rfl)|(rw [hg5_3];rfl)
     refine rn ?_;exact ze9 (.cons _ _ _ _ (.agg _ _ _ _ _ _ _ rfl inferInstance inferInstance inferInstance rfl) (.cons _ _ _ _ (.tmp _ _ rfl) (.cons _ _ _ _ (.tmp _ _ rfl) .nil))) (.drop [_,_,_] _ _) ⟨rfl,by rw [zpx,zk,zpn hj hw];simp only [zr1,atO];rw [show (((j+1:Nat):Int) - 1)=(j:Int) by omega];rfl⟩
    ·have hw:zat t x h.evs[j]=false:=by rw [zat];first|(rw [hg5_3,hg5_9,hc38];rfl)|(rw [hg5_3,hg5_9];rfl)|(rw [hg5_3];rfl)
     refine zar ?_;refine zjh ?_;refine zac ?_;refine y4 ?_;refine q1 ?_;refine qq rfl rfl (zca rfl rfl rfl (by omega)) ?_
     refine rn ?_;exact ⟨j,⟨by omega,by rw [zk,zg9 hj hw]⟩,by rw [show (((j+1:Nat):Int) - 1 - 1)=(j:Int) - 1 by omega];exact eA,by omega⟩
   ·refine rn ?_;refine zfh rfl ?_;have hw:zat t x h.evs[j]=false:=by rw [zat];first|(rw [hg5_3,hg5_9,hc38];rfl)|(rw [hg5_3,hg5_9];rfl)|(rw [hg5_3];rfl)
    refine zar ?_;refine zjh ?_;refine zac ?_;refine y4 ?_;refine q1 ?_;refine qq rfl rfl (zca rfl rfl rfl (by omega)) ?_
    refine rn ?_;exact ⟨j,⟨by omega,by rw [zk,zg9 hj hw]⟩,by rw [show (((j+1:Nat):Int) - 1 - 1)=(j:Int) - 1 by omega];exact eA,by omega⟩
  ·refine rn ?_;refine zfh rfl ?_;have hw:zat t x h.evs[j]=false:=by rw [zat];first|(rw [hg5_3,hg5_9,hc38];rfl)|(rw [hg5_3,hg5_9];rfl)|(rw [hg5_3];rfl)
   refine zar ?_;refine zjh ?_;refine zac ?_;refine y4 ?_;refine q1 ?_;refine qq rfl rfl (zca rfl rfl rfl (by omega)) ?_
   refine rn ?_;exact ⟨j,⟨by omega,by rw [zk,zg9 hj hw]⟩,by rw [show (((j+1:Nat):Int) - 1 - 1)=(j:Int) - 1 by omega];exact eA,by omega⟩
 ·have qk:k=0:=by have:=oF hc16;omega
  subst qk
  refine zol ?_;refine zm1 ?_;refine zm1 ?_;refine zgo ?_;refine zac ?_;refine w8 (y4 ?_)
  refine qq rfl rfl (zaf (out:= [iv 0,iv 0]) rfl (by rfl)) ?_
  refine rn ?_;exact ze9 (.cons _ _ _ _ (.agg _ _ _ _ _ _ _ rfl inferInstance inferInstance inferInstance rfl) (.cons _ _ _ _ (.tmp _ _ rfl) (.cons _ _ _ _ (.tmp _ _ rfl) .nil))) (.drop [_,_] _ _) ⟨rfl,by rw [zpx,zk];rfl⟩
theorem yiz {h:Hist} {x:Int} {k:Nat} (hk:k < h.ords.length) (hx:(h.ords[k].o==x)=true) (hz:((h.ords.take k).all fun o:Ord=> !(o.o==x))=true):zdn h x=h.ords[k].ts:=by
 have:h.ords.find? (fun o=>o.o==x)=some h.ords[k]:=by
  rw [List.find?_eq_some_iff_getElem]
  exact ⟨hx,k,hk,rfl,fun j hj=>by have:=List.all_eq_true.1 hz h.ords[j] (zje (by omega) hj);exact this⟩
 rw [zdn,this]
theorem yok {h:Hist} {x:Int} (hz:(h.ords.all fun o:Ord=> !(o.o==x))=true):zdn h x=zbo h x:=by
 have:h.ords.find? (fun o=>o.o==x)=none:=by
  rw [List.find?_eq_none];intro s hs q
  have:=List.all_eq_true.1 hz s hs
  rw [q] at this;cases this
 rw [zdn,this]
theorem znw {h:Hist} {N:Nat} (la:Lim N h) (x:Int):(zdn h x).length≤N:=by
 unfold zdn
 split
 ·rename_i o ho;exact la.ordts o (List.mem_of_find?_eq_some ho)
 ·exact Nat.le_trans (zgw _ _) la.ts
def zej (h:Hist) (x n:Int):Option Int:=if 0≤n then (zdn h x)[n.toNat]? else none
theorem ywc {h:Hist} {x n:Int} (h2:decide (n < 0)=true):zej h x n=none:=by rw [zej,if_neg (by have:=oT h2;omega)]
theorem ywb {h:Hist} {x n:Int} (hn:decide (n ≥ (((zdn h x).map zal).length:Int))=true):zej h x n=none:=by
 have hn:=oT hn
 rw [oM] at hn
 rw [zej];split
 ·rw [List.getElem?_eq_none (by omega)]
 ·rfl
theorem yw8 {h:Hist} {x n:Int} (h2:decide (n < 0)=false) (hn:decide (n ≥ (((zdn h x).map zal).length:Int))=false):∃a,0≤n∧((zdn h x).map zal)[n.toNat]? =some (zal a)∧zej h x n=some a:=by
 have hn:=oF hn
 have h2:=oF h2
 rw [oM] at hn
 refine ⟨(zdn h x)[n.toNat]'(by omega),by omega,?_,?_⟩
 ·rw [List.getElem?_map,List.getElem?_eq_getElem (by omega)];rfl
 ·rw [zej,if_pos (by omega),List.getElem?_eq_getElem (by omega)]
def rkQ (h:Hist) (x:Int) (v:Ver) (t:Int):Bool:=zr1 (zpx h.evs t x)==v
def zcl (h:Hist) (x:Int) (v:Ver):Int×Bool:=if v=⟨0,0⟩ then (0,true) else if zbx (rkQ h x v) 0 (zdn h x) ≥ 0 then (zbx (rkQ h x v) 0 (zdn h x)+1,true) else (0,false)
theorem yqw {h:Hist} {x:Int} {v:Ver} {k:Nat} (hv:v≠⟨0,0⟩) (hk:k < (zdn h x).length) (hq:rkQ h x v (zdn h x)[k]=true) (hz:(((zdn h x).take k).all fun t=> !rkQ h x v t)=true):zcl h x v=((k:Int)+1,true):=by
 have:zbx (rkQ h x v) 0 (zdn h x)=(k:Int):=by
  have:=zv5 (p:=rkQ h x v) (l:=zdn h x) (i:=0) hk hq (fun j hj=>by
   have:=List.all_eq_true.1 hz (zdn h x)[j] (zje (by omega) hj)
   simpa using this)
  rw [this];congr 1;omega
 rw [zcl,if_neg hv,this,if_pos (by omega)]
theorem yur {h:Hist} {x:Int} {v:Ver} (hv:v≠⟨0,0⟩) (hz:((zdn h x).all fun t=> !rkQ h x v t)=true):zcl h x v=(0,false):=by
 have:decide (zbx (rkQ h x v) 0 (zdn h x) ≥ 0)=false:=by
  rw [ze2,List.any_eq_false];intro t ht
  have:=List.all_eq_true.1 hz t ht
  simpa using this
 rw [zcl,if_neg hv,if_neg (oF this)]
theorem zh0 (h:Hist) (la:Lim 1000000 h) (x:Int):y8 Tryz.prog 74 [.agg (w7 h),iv x] [] (fun r h'=>h'= []∧r=zbc (zdn h x)):=by
 refine z6 Tryz.func74 rfl rfl rfl ?_
 have bo:=la.ords
 refine rn ?_;refine z8 rfl (q6 rfl rfl rfl fun b2=> ?_)
 refine rn ?_;refine zdg (h.ords.length) (fun k:Nat=>((h.ords.take k).all fun o:Ord=> !(o.o==x))=true) (fun k=> [(10,iv k)]) [(1,_),(2,_),(8,_),(9,_)] rfl ?_
 intro k lk zk
 refine rn ?_;refine z7 rfl (fun hc11=> ?_) (fun hc11=> ?_)
 ·have hk:=za4 hc11
  have rk:=zak (f:=zer) hk
  refine rn ?_;refine z8 rfl (y3 rfl fun b6=> ?_)
  refine rn ?_;refine z7 rfl (fun hc17=> ?_) (fun hc17=> ?_)
  ·refine rn ?_;refine rq 2 ?_
   exact ⟨rfl,by rw [yiz hk hc17 zk];rfl⟩
  ·refine rn ?_;exact ⟨hk,by rw [zmx hk,zk,hc17];rfl,eA⟩
 ·have qk:=za5 hc11 lk
  rw [qk,List.take_length] at zk
  refine rn ?_;refine qv rfl rfl (y1 rfl rfl (u7 (zij h x la) (Sbs.refl _))) ?_
  refine rn ?_;refine rq 1 ?_
  exact ⟨rfl,by rw [yok zk];rfl⟩
theorem yca (h:Hist) (la:Lim 1000000 h) (x n:Int):y8 Tryz.prog 186 [.agg (w7 h),iv x,iv n] [] (fun r h'=>h'= []∧r= .tup [iv ((zej h x n).getD 0),bv (zej h x n).isSome]):=by
 refine z6 Tryz.func186 rfl rfl rfl ?_
 refine rn ?_;refine z8 rfl (q6 rfl rfl rfl fun b3=> ?_)
 refine rn ?_;refine qv rfl rfl (y1 rfl rfl (u7 (zh0 h la x) (Sbs.refl _))) ?_
 refine rn ?_;refine w6 (fun hg2_2=> ?_) (fun hg2_2=> ?_)
 ·refine rn ?_;refine zcw rfl ?_;have hn:zej h x n=none:=by first|exact ywc hg2_2|exact ywb hc19
  refine rn ?_;refine rq 1 ?_
  exact ⟨rfl,by rw [hn];rfl⟩
 ·refine rn ?_;refine z7 rfl (fun hc19=> ?_) (fun hc19=> ?_)
  ·have hn:zej h x n=none:=by first|exact ywc hg2_2|exact ywb hc19
   refine rn ?_;refine rq 1 ?_
   exact ⟨rfl,by rw [hn];rfl⟩
  ·obtain ⟨a,h0,ha,hn⟩:=yw8 hg2_2 hc19
   refine zar ?_;refine zac ?_;refine w8 (y4 ?_)
   refine q1 ?_;refine q1 ?_;refine qq rfl rfl (zaw rfl rfl h0 ha) ?_
   refine rn ?_;refine rq 1 ?_
   exact ⟨rfl,by rw [hn];rfl⟩
theorem zst (h:Hist) (la:Lim 1000000 h) (x:Int) (v:Ver):y8 Tryz.prog 119 [.agg (w7 h),iv x,.agg (yf8 v)] [] (fun r h'=>h'= []∧r= .tup [iv (zcl h x v).1,bv (zcl h x v).2]):=by
 refine z6 Tryz.func119 rfl rfl rfl ?_
 have be:=la.evs
 have bi:=znw la x
 refine rn ?_;refine z8 rfl (q6 rfl rfl rfl fun b3=> ?_)
 refine z8 rfl (q6 rfl rfl rfl fun b5=> ?_)
 refine q1 ?_;refine q1 ?_;refine j4 (zac ?_)
 refine w8 ?_;refine w8 (y4 ?_)
 refine q1 ?_;refine qq rfl rfl (zaf (out:= [iv 0,iv 0]) rfl (by rfl)) ?_
 refine rn ?_;refine z7 rfl (fun hc15=> ?_) (fun hc15=> ?_)
 ·have hv:v=⟨0,0⟩:=eq_of_beq (by rw [←zcs];exact hc15)
  refine rn ?_;refine rq 2 ?_
  exact ⟨rfl,by rw [zcl,if_pos hv];rfl⟩
 ·have hv:v≠⟨0,0⟩:=beq_eq_false_iff_ne.1 (by rw [←zcs];exact hc15)
  refine rn ?_;refine qv rfl rfl (y1 rfl rfl (u7 (zh0 h la x) (Sbs.refl _))) ?_
  refine rn ?_;refine zdg ((zdn h x).length) (fun k:Nat=>(((zdn h x).take k).all fun t=> !rkQ h x v t)=true) (fun k=> [(20,iv k)]) [(1,_),(3,_),(5,_),(18,_),(19,_)] rfl ?_
  intro k lk zk
  refine rn ?_;refine z7 rfl (fun hc21=> ?_) (fun hc21=> ?_)
  ·have hk:=za4 hc21
   have rk:=zak (f:=zal) hk
   refine rn ?_;refine qv rfl rfl (y1 rfl rfl (u7 (zkz h la.evs (zdn h x)[k] x) (Sbs.refl _))) ?_
   refine rn ?_;refine z8 rfl (y3 rfl fun b10=> ?_)
   refine rn ?_;refine z7 rfl (fun hc35=> ?_) (fun hc35=> ?_)
   ·have hq:(zr1 (zpx h.evs (zdn h x)[k] x)==v)=true:=by rw [←zcs];exact hc35
    refine w8 (y4 ?_)
    refine q1 ?_;refine qq rfl rfl (zca rfl rfl rfl (by omega)) ?_
    refine rn ?_;refine rq 3 ?_
    exact ⟨rfl,by rw [yqw hv hk hq zk];rfl⟩
   ·have hq:(zr1 (zpx h.evs (zdn h x)[k] x)==v)=false:=by rw [←zcs];exact hc35
    refine rn ?_;exact ⟨hk,by rw [zmx hk,zk,rkQ,hq];rfl,eA⟩
  ·have qk:=za5 hc21 lk
   rw [qk,List.take_length] at zk
   refine rn ?_;refine rq 2 ?_
   exact ⟨rfl,by rw [yur hv zk];rfl⟩
def wlM (l:List Ev):Nat→List ((Int×Int)×Int)
 |0=> []
 |k+1=>match l[k]? with
  |some e=>if (e.kind==2)=true then ze0 (e.t,e.o) (k:Int) (wlM l k) else wlM l k
  |none=>wlM l k
theorem ylk {l:List Ev} {k:Nat} (hk:k < l.length) (hw:(l[k].kind==2)=true):wlM l (k+1)=ze0 (l[k].t,l[k].o) (k:Int) (wlM l k):=by
 rw [wlM,List.getElem?_eq_getElem hk];simp only [hw,if_true]
theorem yll {l:List Ev} {k:Nat} (hk:k < l.length) (hw:(l[k].kind==2)=false):wlM l (k+1)=wlM l k:=by
 rw [wlM,List.getElem?_eq_getElem hk];simp only [hw];rfl
theorem ya0 (l:List Ev) (t x:Int):∀k,k≤l.length→(zbt (t,x) (wlM l k)).getD 0=atO (zd1 l t x k)
 |0,_=>rfl
 |k+1,hk=>by
  have ih:=ya0 l t x k (by omega)
  have hk':k < l.length:=hk
  cases hw:l[k].kind==2 with
  |false=>
   have:zat t x l[k]=false:=by rw [zat,hw];rfl
   rw [yll hk' hw,zg9 hk' this,ih]
  |true=>
   rw [ylk hk' hw,zde]
   cases hq:zat t x l[k] with
   |true=>
    rw [zpn hk' hq,if_pos]
    ·rfl
    ·simp only [zat,Bool.and_eq_true,beq_iff_eq] at hq
     rw [hq.1.2,hq.2]
   |false=>
    rw [zg9 hk' hq,if_neg,ih]
    intro e
    rw [Prod.mk.injEq] at e
    simp [zat,hw,e.1,e.2] at hq
theorem zwq (h:Hist) (t x:Int):(zbt (t,x) (wlM h.evs h.evs.length)).getD 0=zek h t x:=ya0 _ _ _ _ (Nat.le_refl _)
abbrev ysq (h:Hist):AV:= .list false 1 (((upR h.os.length).map (zb6 h)).map yps)
abbrev zbf (h:Hist) (rm:Nat):Res:= .map rm (zas zbg (zbw iv (wlM h.evs h.evs.length)))
theorem zx0 (h:Hist) {x:Int} (h0:0≤x) (h1:x < h.os.length):(((upR h.os.length).map (zb6 h)).map yps)[x.toNat]? =some (yps (zb6 h x)):=by
 have hx:(upR h.os.length)[x.toNat]? =some x:=by
  rw [upR,List.getElem?_map,List.getElem?_range (by omega)];simp [Int.toNat_of_nonneg h0]
 rw [List.getElem?_map,List.getElem?_map,hx];rfl
theorem ysm (h:Hist) (la:Lim 4611686018427387904 h) (hc:u6 h=0) (x:Int) (h0:0≤x) (h1:x < h.os.length):y8 Tryz.prog 101 [.agg (w7 h),iv x] (.glob 2 156 y5:: .glob 4 305 y7:: .glob 5 308 y2:: .glob 3 246 u5:: []) (fun r h'=>h'= .glob 2 156 y5:: .glob 4 305 y7:: .glob 5 308 y2:: .glob 3 246 u5:: []∧r= .tup [zbc (zb6 h x),iv 0]):=(ykt h la x).mono fun _ _ q=>⟨q.1,by rw [q.2,zwl hc ⟨h0,h1⟩];rfl⟩
theorem ztk {h:Hist} (hc:u6 h=0) {x:Int} (h0:0≤x) (h1:x < h.os.length):(zb6 h x).length≤3000:=by
 rw [(zjg (zbh.1 hc) h0 h1).2.1]
 exact Nat.le_trans (zkn h.evs x) (zfg hc).evs
end Go.Proofs
namespace Go.H
open Go Go.Ab
def zvy (k:Int):Int:=if k=3 then 3 else if k=4 then 4 else 0
def KO (o:Obj):Prop:=∃(ents:Array MapEntry) (clock:Nat) (m:List (Int×Int)),o= .map ents clock∧ents.toList.map (·.key)=(m.map (·.1)).map intK∧(∀i (h1:i < m.length) (h2:i < ents.size),ents[i].val= .int .i64 m[i].2)∧m.length=ents.size∧∀k,(zbt k m).getD 0=zvy k
section
variable {P:Program} {dst:Option Tmp} {ty:TypeId} {pos:String} {after:Array Edge} {guard:Option (Nat×Bool)} {x y:Operand} {h:List Res} {f:Operand→Option AV} {kt et T:TypeId} {r i:Nat} {k:Int}
theorem yhm {kv:AV} {o:Obj} {z:Value} (ho:KO o) (hx:f x=some (.v (.map (some r)))) (hy:f y=some kv) [hkv:KeyV kv (intK k)] [hm:HasObj h r i o] [hu:Und P T (.map kt et)] [hkt:KeyT P kt intK] [hz:ZerV P et z] [hd:ZV z (iv 0)]:
 QR P h f ⟨dst,.lookup T x y false,ty,pos,after,guard⟩ (iv (zvy k)):=by
 obtain ⟨ents,clock,m,rfl,hks,hv,hl,hk⟩:=ho
 rw [←hk]
 refine zg3 (b:=iv ((zbt k m).getD 0)) (a:=(zea k (zbw iv m)).getD (.v z)) (fun w O v hr=>zmm hr) fun X ρ w hev=> ?_
 have hob:=(hev.heap.holds _ (List.mem_of_getElem? hm.h)).1
 have hl':(zbw iv m).length=ents.toList.length:=by simpa [zbw] using hl
 have hks':ents.toList.map (·.key)=((zbw iv m).map (·.1)).map intK:=by rw [hks];simp [zbw]
 have hfind:=hkt.find w k ents.toList ((zbw iv m).map (·.1)) hks'
 have hkey:=hkv.h w _ _ (hev.rel y _ hy)
 rcases zld k (zbw iv m) ents.toList 0 hl' with ⟨a,b,c⟩|⟨j,g1,g2,a,b,c,d⟩
 ·refine ⟨z,run_v _ ?_,by rw [b];exact .v _⟩
  rw [(hev.rel x _ hx).v_eq,hkey]
  simp only [Instr.lookup,Sem.run_bind,Go.Ab.run_underlying (h:=hu),Result.andThen_ok,MapKept.run_getObj_map hob,Sem.run_pure,hkt.chk,hfind]
  rw [a]
  simp [run_zeroValue hz.h]
 ·have g3:j < m.length:=by simpa [zbw] using g1
  refine ⟨(ents[j]'(by simpa using g2)).val,run_v _ ?_,?_⟩
  ·rw [(hev.rel x _ hx).v_eq,hkey]
   simp only [Instr.lookup,Sem.run_bind,Go.Ab.run_underlying (h:=hu),Result.andThen_ok,MapKept.run_getObj_map hob,Sem.run_pure,hkt.chk,hfind]
   rw [a]
   simp
  ·rw [b,hv j g3 (by omega)]
   simp only [zbw,List.getElem_map,Option.getD_some]
   exact .v _
end
end Go.H
set_option maxRecDepth 10000
namespace Go.Proofs
open Go Go.Ab
attribute [local irreducible] QR QV OE zcr aw zdf zcf zbm za3 thn zfo zd2 jch zfe
open Go.H
abbrev rcR (h:Hist) (rc:Nat):Res:= .map rc (zas intK (zbw bv (dnM (zfz h.evs))))
abbrev rkS (h:Hist) (rk:Nat):Res:= .map rk (zas zfw (zbw iv (rkM h h.os.length)))
abbrev rgR (rg:Nat) (M:List ((Int×Int)×List Int)):Res:= .map rg (zas zbg (zbw zbc M))
abbrev rwP (h:Hist) (rc rl rk rg:Nat):List AV:=w7 h++ [mpv rc,ysq h,mpv rl,mpv rk,mpv rg]
instance:ZV (.slice none 0 0) (zbc []):=⟨fun w O u h=>by rw [h.v_eq];exact .lnil _ _ _ _ (fun q=>by cases q)⟩
theorem yus (h:Hist) (n:Nat):rkM h (n+1)=zit h n 0 (zb6 h n) (ze0 (zuj n ⟨0,0⟩) 0 (rkM h n)):=rfl
def zoq (h:Hist) (M:List ((Int×Int)×List Int)):Prop:=∀p l,zbt p M=some l→l=chL h p.1 p.2
theorem zmv (h:Hist):zoq h []:=fun p l e=>by cases e
theorem zyj {h:Hist} {M:List ((Int×Int)×List Int)} (hM:zoq h M) (p x:Int):zoq h (ze0 (p,x) (chL h p x) M):=fun q l e=>by
 rw [zde] at e
 split at e
 ·rename_i z;injection e with e;rw [←e,←z]
 ·exact hM q l e
theorem zyl {h:Hist} {M:List ((Int×Int)×List Int)} (hM:zoq h M) {p x:Int} (hs:(!(zbt (p,x) M).isSome)=false):(zbt (p,x) M).getD []=chL h p x:=by
 cases hq:zbt (p,x) M with
 |none=>rw [hq] at hs;simp at hs
 |some v=>exact hM (p,x) v hq
theorem zyk {h:Hist} {M:List ((Int×Int)×List Int)} (p x:Int):(zbt (p,x) (ze0 (p,x) (chL h p x) M)).getD []=chL h p x:=by rw [zde,if_pos rfl];rfl
instance:Chk3 Tryz.prog 170:=⟨fun e w a b c=>by kernel_rfl⟩
theorem ywu (h:Hist) (la:Lim 4611686018427387904 h):y8 Tryz.prog 87 [.agg (w7 h)] (.glob 2 156 y5:: .glob 4 305 y7:: .glob 5 308 y2:: .glob 3 246 u5:: []) (fun r h'=>(u6 h=0∧∃rc rl rk rg,h'=rgR rg []::rkS h rk::zbf h rl::rcR h rc:: .glob 2 156 y5:: .glob 4 305 y7:: .glob 5 308 y2:: .glob 3 246 u5:: []∧r= .tup [.agg (rwP h rc rl rk rg),iv 0])∨(u6 h≠0∧h'= .glob 2 156 y5:: .glob 4 305 y7:: .glob 5 308 y2:: .glob 3 246 u5:: []∧r= .tup [.agg (ztn++ [nmp,.v (.slice none 0 0),nmp,nmp,nmp]),iv (u6 h)])):=by
 refine z6 Tryz.func87 rfl rfl rfl ?_
 refine rn ?_;refine z8 rfl (q6 rfl rfl rfl fun b1=> ?_)
 refine z8 rfl (y3 rfl fun b2=> ?_)
 refine rn ?_;refine qv rfl rfl (y1 rfl rfl (y0.qt (y0.of_fun (ykv h la)) ((pt2 _ _ _ _).trans (.cons _ ((pt2 _ _ _ _).trans (.cons _ ((pt2 _ _ _ _).trans (.cons _ (pt2 _ _ _ _))))))))) ?_
 refine rn ?_;refine z7 rfl (fun hc22=> ?_) (fun hc22=> ?_)
 ·have hc:=nzT hc22
  refine rn ?_;exact ze9 (.cons _ _ _ _ (.agg _ _ _ _ _ _ _ rfl inferInstance inferInstance inferInstance rfl) (.cons _ _ _ _ (.tmp _ _ rfl) .nil)) (.drop [_,_] _ _) (.inr ⟨hc,rfl,rfl⟩)
 ·have hc:=nzF hc22
  have hts:onE (u6 h) (zfz h.evs)=(zfz h.evs):=by rw [hc,onE,if_pos rfl]
  rw [hts]
  have hs:=zbh.1 hc
  have lA:=zfg hc
  have lO:=lA.os
  have lE:=lA.evs
  have bC:=Nat.le_trans (yo5 h.evs) lA.evs
  refine rn ?_;refine z8 rfl (zbb (enc:=intK) rfl fun b26=> ?_)
  refine z8 rfl (zbb (enc:=zbg) rfl fun b27=> ?_)
  refine z8 rfl (zbb (enc:=zfw) rfl fun b28=> ?_)
  refine z8 rfl (zbb (enc:=zbg) rfl fun b29=> ?_)
  refine qq rfl rfl (zaf (out:=w7 h++ [mpv b26,.v (.slice none 0 0),mpv b27,mpv b28,mpv b29]) rfl (by rfl)) ?_
  refine z8 rfl (y3 rfl fun b6=> ?_)
  refine rn ?_;refine zcv (zfz h.evs).length (fun _=>True) (fun k=>⟨[(33,iv k),(1,pZ b1),(2,pZ b2),(6,pZ b6),(31,zbc (zfz h.evs)),(32,iv ((zfz h.evs).map zal).length)],.box b6 119 (w7 h++ [mpv b26,.v (.slice none 0 0),mpv b27,mpv b28,mpv b29]):: .map b29 (zas zbg (zbw zbc [])):: .map b28 (zas zfw (zbw iv [])):: .map b27 (zas zbg (zbw iv (wlM h.evs 0))):: .map b26 (zas intK (zbw bv (dnM ((zfz h.evs).take k)))):: .box b2 119 (ztn++ [nmp,.v (.slice none 0 0),nmp,nmp,nmp]):: .box b1 28 (w7 h):: .glob 2 156 y5:: .glob 4 305 y7:: .glob 5 308 y2:: .glob 3 246 u5:: [],[]⟩) trivial es ?_
  intro k lk _
  refine rn ?_;refine z7 rfl (fun hc34=> ?_) (fun hc34=> ?_)
  ·have hk:=za4 hc34
   have rk:=zak (f:=zal) hk
   refine rn ?_;refine z8 rfl (za6 (g:=bv) (enc:=intK) (k:=(zfz h.evs)[k]) (v:=true) rfl rfl rfl ?_)
   refine rn ?_;exact ⟨hk,trivial,by rw [yvs hk];exact eA⟩
  ·have qk:=za5 hc34 lk
   rw [qk,List.take_length]
   refine rn ?_;refine zcv h.evs.length (fun _=>True) (fun j=>⟨[(44,iv j),(1,pZ b1),(2,pZ b2),(6,pZ b6),(42,zri h.evs),(43,iv (h.evs.map evR).length)],.box b6 119 (w7 h++ [mpv b26,.v (.slice none 0 0),mpv b27,mpv b28,mpv b29]):: .map b29 (zas zbg (zbw zbc [])):: .map b28 (zas zfw (zbw iv [])):: .map b27 (zas zbg (zbw iv (wlM h.evs j))):: .map b26 (zas intK (zbw bv (dnM (zfz h.evs)))):: .box b2 119 (ztn++ [nmp,.v (.slice none 0 0),nmp,nmp,nmp]):: .box b1 28 (w7 h):: .glob 2 156 y5:: .glob 4 305 y7:: .glob 5 308 y2:: .glob 3 246 u5:: [],[]⟩) trivial es ?_
   intro j lj _
   refine rn ?_;refine z7 rfl (fun hc45=> ?_) (fun hc45=> ?_)
   ·have hj:=za4 hc45
    have rj:=zak (f:=evR) hj
    refine rn ?_;refine z8 rfl (y3 rfl fun b10=> ?_)
    refine rn ?_;refine z7 rfl (fun hc51=> ?_) (fun hc51=> ?_)
    ·have hw:(h.evs[j].kind==2)=true:=by simpa using hc51
     refine y4 ?_;refine q1 ?_;refine q1 ?_;refine q1 ?_;refine q1 ?_;refine q1 ?_;refine q1 ?_;refine qq rfl rfl (zdb (out:= [iv h.evs[j].t,iv h.evs[j].o]) rfl (by rfl)) ?_
     refine rn ?_;refine z8 rfl (za6 (g:=iv) (enc:=zbg) (k:=(h.evs[j].t,h.evs[j].o)) (v:=(j:Int)) rfl rfl rfl ?_)
     refine rn ?_;first|exact ⟨hj,trivial,by rw [ylk hj hw];exact eA⟩|exact ⟨hj,trivial,by rw [yll hj hw];exact eA⟩
    ·have hw:(h.evs[j].kind==2)=false:=by simpa using hc51
     refine rn ?_;first|exact ⟨hj,trivial,by rw [ylk hj hw];exact eA⟩|exact ⟨hj,trivial,by rw [yll hj hw];exact eA⟩
   ·have qj:=za5 hc45 lj
    subst qj
    refine rn ?_;refine zep h.os.length (fun k s=>⟨[(64,iv k),(1,pZ b1),(2,pZ b2),(6,pZ b6),(63,iv (h.os.map zf5).length)],.row s.v 1 29 (((upR k).map (zb6 h)).map yps):: .box b6 119 (w7 h++ [mpv b26,.v s.v,mpv b27,mpv b28,mpv b29]):: .map b29 (zas zbg (zbw zbc [])):: .map b28 (zas zfw (zbw iv (rkM h k))):: .map b27 (zas zbg (zbw iv (wlM h.evs h.evs.length))):: .map b26 (zas intK (zbw bv (dnM (zfz h.evs)))):: .box b2 119 (ztn++ [nmp,.v (.slice none 0 0),nmp,nmp,nmp]):: .box b1 28 (w7 h):: .glob 2 156 y5:: .glob 4 305 y7:: .glob 5 308 y2:: .glob 3 246 u5:: [],[]⟩) ⟨none,0,0⟩ (v7 (zam 1 29) es) ?_
    intro k s lk
    refine rn ?_;refine z7 rfl (fun hc65=> ?_) (fun hc65=> ?_)
    ·have hk:k < h.os.length:=by have q:=oT hc65;rw [oM] at q;omega
     have k0:(0:Int)≤(k:Int):=by omega
     have k1:(k:Int) < h.os.length:=by omega
     have hb:=ztk hc k0 k1
     refine rn ?_;refine qv rfl rfl (y1 rfl rfl (y0.qt (y0.of_fun (ysm h la hc k k0 k1)) ((pt8 _ _ _ _ _ _ _ _ _ _).trans (.cons _ ((pt8 _ _ _ _ _ _ _ _ _ _).trans (.cons _ ((pt8 _ _ _ _ _ _ _ _ _ _).trans (.cons _ (pt8 _ _ _ _ _ _ _ _ _ _))))))))) ?_
     refine rn ?_;refine qv rfl rfl (w9 rfl rfl) ?_
     refine z8 rfl (q7 rfl rfl (by simp only [oM,upR,List.length_range,List.length_cons,List.length_nil];omega) rfl (fun s77=> ?_) (fun r hr=>by rw [List.mem_singleton.1 hr];rfl))
     refine u9 s77 fun sv hsv=> ?_
     subst hsv
     refine q1 ?_;first|refine z8 rfl (k8 rfl rfl rfl ?_)|refine z8 rfl (zaq rfl rfl rfl rfl (Nat.le_of_ble_eq_true rfl) ?_)
     refine j4 (zac ?_)
     refine w8 (y4 ?_)
     refine q1 ?_;refine q1 ?_;refine q1 ?_;refine qq rfl rfl (zaf (out:= [iv k,iv 0,iv 0]) rfl (by rfl)) ?_
     refine z8 rfl (za6 (g:=iv) (enc:=zfw) (k:=((k:Int),(0:Int),(0:Int))) (v:=(0:Int)) rfl rfl rfl ?_)
     refine rn ?_;refine zcv (zb6 h k).length (fun _=>True) (fun j=>⟨[(85,iv j),(1,pZ b1),(2,pZ b2),(6,pZ b6),(11,iv k),(63,iv (h.os.map zf5).length),(64,iv k),(83,zbc (zb6 h k)),(84,iv ((zb6 h k).map zal).length)],.row sv.v 1 29 (((upR k).map (zb6 h)).map yps++ [yps (zb6 h k)]):: .box b6 119 (w7 h++ [mpv b26,.v sv.v,mpv b27,mpv b28,mpv b29]):: .map b29 (zas zbg (zbw zbc [])):: .map b28 (zas zfw (zbw iv (zit h k 0 ((zb6 h k).take j) (ze0 (zuj k ⟨0,0⟩) 0 (rkM h k))))):: .map b27 (zas zbg (zbw iv (wlM h.evs h.evs.length))):: .map b26 (zas intK (zbw bv (dnM (zfz h.evs)))):: .box b2 119 (ztn++ [nmp,.v (.slice none 0 0),nmp,nmp,nmp]):: .box b1 28 (w7 h):: .glob 2 156 y5:: .glob 4 305 y7:: .glob 5 308 y2:: .glob 3 246 u5:: [],[]⟩) trivial es ?_
     intro j lj _
     refine rn ?_;refine z7 rfl (fun hc86=> ?_) (fun hc86=> ?_)
     ·have hj:=za4 hc86
      have rj:=zak (f:=zal) hj
      obtain ⟨i,hi,a1,a2, -⟩:=zq9 hs k0 k1 hj
      have ri:=zak (f:=evR) hi
      have hfv:zlc h k (zb6 h k)[j]=h.evs[i].v:=by rw [zlc,a1];rfl
      refine rn ?_;refine k9 17 rfl ?_
      refine dq rfl rfl qrA ?_;refine dq rfl rfl qrA ?_;refine dq rfl rfl qrA ?_;refine dq rfl rfl qrA ?_;refine dq rfl rfl qrA ?_;refine dq rfl rfl qrA ?_;refine dq rfl rfl qrA ?_;refine dq rfl rfl qrA ?_;refine dq rfl rfl qrA ?_;refine dq rfl rfl (zdb (out:= [iv (zb6 h k)[j],iv k]) rfl (by rfl)) ?_
      refine dq rfl rfl (zj3 (zch (enc:=zbg) (k:=((zb6 h k)[j],(k:Int))) 0 rfl rfl) (show iv _=iv (i:Nat) from congrArg iv (by rw [zwq,a2]))) ?_
      refine dq rfl rfl (zdj rfl rfl ri) ?_
      refine dq rfl rfl qrA ?_;refine dq rfl rfl qrA ?_;refine dq rfl rfl (zaf (out:= [iv k,iv h.evs[i].v.t,iv h.evs[i].v.k]) rfl (by rfl)) ?_
      refine dq rfl rfl qrA ?_;refine dq rfl rfl (zca rfl rfl rfl (by omega)) ?_
      refine rn ?_;refine z8 rfl (za6 (g:=iv) (enc:=zfw) (k:=((k:Int),h.evs[i].v.t,h.evs[i].v.k)) (v:=(j:Int)+1) rfl rfl rfl ?_)
      refine rn ?_;exact ⟨hj,trivial,by rw [ymt hj,hfv];exact eA⟩
     ·have qj:=za5 hc86 lj
      rw [qj,List.take_length]
      refine rn ?_;exact ⟨hk,sv,by rw [zy1,List.map_append,List.map_append,yus];exact eA⟩
    ·have qk:k=h.os.length:=by have q:=oF hc65;rw [oM] at q;omega
     refine zol ?_;refine zm1 ?_;refine zm1 ?_;refine zgo ?_;refine zac ?_;refine w8 (y4 ?_)
     refine zkl (zo3 (w7 h++ [mpv b26]) [mpv b27,mpv b28,mpv b29]) ?_
     refine rn ?_;exact ze9 (.cons _ _ _ _ (.agg _ _ _ _ _ _ _ rfl inferInstance inferInstance inferInstance rfl) (.cons _ _ _ _ (.tmp _ _ rfl) .nil)) (.trans (.perm (.cons _ ((pt4 _ _ _ _ _ _).trans (.cons _ (pt4 _ _ _ _ _ _)))) _) (.drop [_,_,_] _ _)) (.inl ⟨hc,b26,b27,b28,b29,by rw [qk],by rw [qk];rfl⟩)
theorem yub {a:Int} (h:(a !=0)=true):a≠0:=by simpa using h
theorem yu6 {a:Int} (h:(a !=0)=false):a=0:=by simpa using h
theorem ywd {p:Prop} [Decidable p] (h:(!decide p)=true):¬p:=by simpa using h
theorem ywe {p:Prop} [Decidable p] (h:(!decide p)=false):p:=by simpa using h
theorem ys5 {l:List Mat} {q:Mat→Bool} (hc:decide (zbx q 0 l < 0)=false):∃k,∃hk:k < l.length,zbx q 0 l=(k:Int)∧l.find? q=some l[k]:=by
 have:=zgp q l 0
 cases hf:l.find? q with
 |none=>rw [hf] at this;simp only at this;rw [this] at hc;exact absurd hc (by decide)
 |some o=>
  rw [hf] at this
  obtain ⟨k,hk,e,eo,_⟩:=this
  exact ⟨k,hk,by rw [e,Nat.zero_add],by rw [eo]⟩
theorem yvm {l:List Mat} {q:Mat→Bool} (hc:decide (zbx q 0 l < 0)=true):l.find? q=none:=by
 have:=zgp q l 0
 cases hf:l.find? q with
 |none=>rfl
 |some o=>
  rw [hf] at this
  obtain ⟨k,hk,e,eo,_⟩:=this
  rw [e] at hc
  have:=oT hc
  omega
theorem yij {h:Hist} {N:Nat} (la:Lim N h) (p x:Int):(yfx h p x).ts.length≤N:=by
 rw [yfx,ykr]
 cases hf:h.mats.find? (zq1 p x) with
 |none=>exact Nat.zero_le _
 |some m=>exact la.matts m (List.mem_of_find?_eq_some hf)
def ylx (h:Hist) (p o:Int):List Bool:=if zjo h p o=0 then zwx h p o else []
theorem ysd (a b:Int):y8 Tryz.prog 145 [iv a,iv b] [] (fun r h'=>h'= []∧r=bv (decide (0≤a∧a < b))):=by
 refine z6 Tryz.func145 rfl rfl rfl ?_
 refine rn ?_;refine w6 (fun hg1_2=> ?_) (fun hg1_2=> ?_)
 ·refine rn ?_;refine rq 0 ?_
  exact ⟨rfl,by rw [←ykx,hg1_2];rfl⟩
 ·refine rn ?_;refine rq 0 ?_
  exact ⟨rfl,by rw [←ykx,hg1_2];rfl⟩
theorem yvb (m:Mat) (p x:Int) (b2 b3:Nat) (G:List Res):y8 Tryz.prog 147 [.agg (zd9 m),pZ b2,pZ b3] (.box b2 3 [iv p]:: .box b3 3 [iv x]::G) (fun r h'=>h'=(.box b2 3 [iv p]:: .box b3 3 [iv x]::G)∧r=bv (zq1 p x m)):=by
 refine z6 Tryz.func147 rfl rfl rfl ?_
 refine rn ?_;refine z8 rfl (q6 rfl rfl rfl fun b3=> ?_)
 refine rn ?_;refine w6 (fun hg1_4=> ?_) (fun hg1_4=> ?_)
 ·refine rn ?_;refine rq 1 ?_
  exact ⟨rfl,congrArg bv (by unfold zq1;first|rfl|(simp_all;done))⟩
 ·refine rn ?_;refine rq 1 ?_
  exact ⟨rfl,congrArg bv (by unfold zq1;first|rfl|(simp_all;done))⟩
theorem yn4 (l:List Mat) (fv:AV) (q:Mat→Bool) (G:List Res) (hp:∀a∈l,y0 Tryz.prog fv [.agg (zd9 a)] G (fun r h'=>h'=G∧r=bv (q a))) (hl:l.length≤4611686018427387904):y8 Tryz.prog 146 [zvr l,fv] G (fun r h'=>h'=G∧r= .tup [.agg (zd9 ((l.find? q).getD ypw)),bv (l.find? q).isSome]):=by
 refine z6 Tryz.func146 rfl rfl rfl ?_
 refine rn ?_;refine z8 rfl (y3 rfl fun b4=> ?_)
 refine rn ?_;refine qv rfl rfl (y1 rfl rfl (y0.qt (h2:= [_]) (y0.of_fun (zl1 l _ q G hp hl)) (za9 [_] _))) ?_
 refine rn ?_;refine z7 rfl (fun hc11=> ?_) (fun hc11=> ?_)
 ·have hn:=yvm hc11
  refine w8 (y4 ?_)
  refine qq rfl rfl (zg3 (fun w O v hr=>Sb.rel (Sb.aggs (bs:=zd9 ypw) (by exact ⟨.refl _,.refl _,.refl _,.nil _ _,trivial⟩)) hr) (znh rfl rfl)) ?_
  refine rn ?_;exact ze9 (.cons _ _ _ _ (.agg _ _ _ _ _ _ _ rfl inferInstance inferInstance inferInstance rfl) (.cons _ _ _ _ (.tmp _ _ rfl) .nil)) (.drop [_] _ _) ⟨rfl,by rw [hn];rfl⟩
 ·obtain ⟨k,hk,ek,hx⟩:=ys5 hc11
  have rk:=zak (f:=zd9) hk
  rw [ek]
  refine rn ?_;exact ze9 (.cons _ _ _ _ (.agg _ _ _ _ _ _ _ rfl inferInstance inferInstance inferInstance rfl) (.cons _ _ _ _ (.tmp _ _ rfl) .nil)) (.drop [_] _ _) ⟨rfl,by rw [hx];rfl⟩
theorem ywn {h:Hist} {p x:Int} (he:yfz h x≠0):zjo h p x=yfz h x∧zjo h p x≠0:=by
 have:zjo h p x=yfz h x:=by rw [zjo,if_neg he]
 exact ⟨this,by rw [this];exact he⟩
theorem ywm {h:Hist} {p x:Int} (hi:yfz h x=0) (hp:¬(0≤p∧p < ((h.ps.map zf5).length:Int))):zjo h p x=2∧zjo h p x≠0:=by
 rw [oM] at hp
 have:zjo h p x=2:=by rw [zjo,if_pos hi,if_neg hp]
 exact ⟨this,by rw [this];decide⟩
theorem ywl {h:Hist} {p x:Int} (hi:yfz h x=0) (hp:0≤p∧p < ((h.ps.map zf5).length:Int)):zjo h p x=0:=by
 rw [oM] at hp
 rw [zjo,if_pos hi,if_pos hp]
theorem ygg {b:Bool} {l:List Int} {q:Int→Bool} {k:Nat} (hk:k < l.length):(b::(l.take (k+1)).map q).map zoj=(b::(l.take k).map q).map zoj++ [[bv (q l[k])]]:=by
 rw [List.take_succ_eq_append_getElem hk,List.map_append,←List.cons_append,List.map_append];rfl
theorem yn2 (h:Hist) (la:Lim 4611686018427387904 h) (p x:Int):y8 Tryz.prog 98 [.agg (w7 h),iv p,iv x] (.glob 2 156 y5:: .glob 4 305 y7:: .glob 5 308 y2:: .glob 3 246 u5:: []) (fun r h'=>∃s:SV,h'= .row s.v 1 4 ((ylx h p x).map zoj):: .glob 2 156 y5:: .glob 4 305 y7:: .glob 5 308 y2:: .glob 3 246 u5:: []∧r= .tup [.v s.v,iv (zjo h p x)]):=by
 refine z6 Tryz.func98 rfl rfl rfl ?_
 refine rn ?_;refine z8 rfl (q6 rfl rfl rfl fun b3=> ?_)
 refine z8 rfl (q6 rfl rfl rfl fun b4=> ?_)
 refine z8 rfl (q6 rfl rfl rfl fun b5=> ?_)
 refine rn ?_;refine qv rfl rfl (y1 rfl rfl (y0.qt (y0.of_fun (ykt h la x)) ((pt3 _ _ _ _ _).trans (.cons _ ((pt3 _ _ _ _ _).trans (.cons _ ((pt3 _ _ _ _ _).trans (.cons _ (pt3 _ _ _ _ _))))))))) ?_
 refine rn ?_;refine z7 rfl (fun hc21=> ?_) (fun hc21=> ?_)
 ·have he:=ywn (p:=p) (yub hc21)
  refine rn ?_;exact zb9 rfl rfl (.trans (.drop [_,_,_] _ _) (zaj 1 4 _)) ⟨⟨none,0,0⟩,by rw [ylx,if_neg (he.2)];rfl,by rw [he.1];rfl⟩
 ·have hi:yfz h x=0:=yu6 hc21
  refine rn ?_;refine qv rfl rfl (y1 rfl rfl (u7 (ysd p (h.ps.map zf5).length) (Sbs.refl _))) ?_
  refine rn ?_;refine z7 rfl (fun hc25=> ?_) (fun hc25=> ?_)
  ·have he:=ywm (p:=p) hi (ywd hc25)
   refine rn ?_;exact zb9 rfl rfl (.trans (.drop [_,_,_] _ _) (zaj 1 4 _)) ⟨⟨none,0,0⟩,by rw [ylx,if_neg (he.2)];rfl,by rw [he.1];rfl⟩
  ·have he:zjo h p x=0:=ywl hi (ywe hc25)
   have lA:=zfg (zy3.1 he).1
   have lM:=yij la p x
   have lI:(zb6 h x).length≤3000:=by rw [zqh he];exact znw lA x
   refine rn ?_;refine qv rfl rfl (y1 rfl rfl (y0.of_fun (yn4 h.mats _ (zq1 p x) _ (fun a _=>y0.qt (y0.of_acall (fs:= []) (cs:= [pZ b4,pZ b5]) (yvb a p x b4 b5 (.box b3 28 (w7 h):: .glob 2 156 y5:: .glob 4 305 y7:: .glob 5 308 y2:: .glob 3 246 u5:: []))) (pt1 _ _ _)) la.mats))) ?_
   refine rn ?_;refine z8 rfl (y3 rfl fun b10=> ?_)
   refine rn ?_;refine z8 rfl (zb0 (rows:=(((yfx h p x).first::((zb6 h x).take 0).map (fun t=>(yfx h p x).ts.contains t)).map zoj)) rfl rfl rfl fun s41=> ?_)
   refine u9 s41 fun sv0 hsv0=> ?_
   subst hsv0
   refine rn ?_;have hii:onE (zho h x h.os.length) (zb6 h x)=zb6 h x:=by rw [show zho h x h.os.length=0 from hi];rfl
   rw [hii]
   refine rn ?_;refine zep (zb6 h x).length (fun k s=>⟨[(44,iv k),(12,.v s.v),(10,pZ b10),(42,zbc (zb6 h x)),(43,iv ((zb6 h x).map zal).length)],.row s.v 1 4 (((yfx h p x).first::((zb6 h x).take k).map (fun t=>(yfx h p x).ts.contains t)).map zoj):: .box b10 109 (zd9 (yfx h p x)):: .box b5 3 [iv x]:: .box b4 3 [iv p]:: .box b3 28 (w7 h):: .glob 2 156 y5:: .glob 4 305 y7:: .glob 5 308 y2:: .glob 3 246 u5:: [],[]⟩) sv0 es ?_
   intro k s lk
   refine rn ?_;refine z7 rfl (fun hc45=> ?_) (fun hc45=> ?_)
   ·have hk:=za4 hc45
    have rk:=zak (f:=zal) hk
    refine rn ?_;refine qv rfl rfl (y1 rfl rfl (u7 (zt6 (yfx h p x).ts (zb6 h x)[k] lM) (Sbs.refl _))) ?_
    refine qv rfl rfl (w9 rfl rfl) ?_
    refine z8 rfl (q7 rfl rfl (by simp only [oM,List.length_cons,List.length_nil];have:=List.length_take_le k (zb6 h x);omega) rfl (fun s54=> ?_) (yh6 [(yfx h p x).ts.contains (zb6 h x)[k]]))
    refine u9 s54 fun sv hsv=> ?_
    subst hsv
    refine rn ?_;exact ⟨hk,sv,by rw [ygg hk];exact eA⟩
   ·have qk:=za5 hc45 lk
    refine rn ?_;exact zb9 rfl rfl (.trans (.perm ((pt1 _ _ _).trans (.cons _ ((pt1 _ _ _).trans (.cons _ ((pt1 _ _ _).trans (.cons _ (pt1 _ _ _))))))) _) (.drop [_,_,_,_] _ _)) ⟨s,by rw [ylx,if_pos he,zwx,yj2,qk,List.take_length],by rw [he];rfl⟩
theorem ysb (h:Hist) (la:Lim 4611686018427387904 h) (p x:Int):y8 Tryz.prog 98 [.agg (w7 h),iv p,iv x] (.glob 2 156 y5:: .glob 4 305 y7:: .glob 5 308 y2:: .glob 3 246 u5:: []) (fun r h'=>h'= .glob 2 156 y5:: .glob 4 305 y7:: .glob 5 308 y2:: .glob 3 246 u5:: []∧r= .tup [zoi (ylx h p x),iv (zjo h p x)]):=
 (yn2 h la p x).ventR (by rintro _ _ ⟨s,rfl,rfl⟩;exact ⟨_,_,zbj [] [_],rfl,rfl⟩)
def zps {α:Type} (d:Nat→Option α):Nat→List α
 |0=> []
 |k+1=>zps d k++(d k).toList
theorem ys1 {α:Type} {d:Nat→Option α} {k:Nat} (h:d k=none):zps d (k+1)=zps d k:=by rw [zps,h];simp
theorem ys0 {α:Type} {d:Nat→Option α} {k:Nat} {a:α} (h:d k=some a):zps d (k+1)=zps d k++ [a]:=by rw [zps,h];rfl
theorem zx2 {α:Type} (d:Nat→Option α):∀n,(zps d n).length≤n
 |0=>by simp [zps]
 |n+1=>by
  have:=zx2 d n
  rw [zps,List.length_append]
  cases d n <;> simp <;> omega
def chD (l:List Bool) (k:Nat):Option Int:=if 0 < k∧l[k]? ≠l[k - 1]? then some (k:Int) else none
theorem ye0 (l:List Bool):∀n,zps (chD l) n=zub l n
 |0=>rfl
 |n+1=>by
  rw [zps,zub,ye0 l n,chD]
  split <;> rfl
theorem ypb {l:List Bool} {k:Nat} (h:decide ((k:Int) > 0)=false):chD l k=none:=by
 have:=oF h
 rw [chD,if_neg (by omega)]
theorem yvw {l:List Bool} {k:Nat} (h:decide ((k:Int) > 0)=true) (hk:k < l.length) (hb:(l[k] !=l[k - 1]'(by omega))=true):chD l k=some (k:Int):=by
 have:=oT h
 rw [chD,if_pos ⟨by omega,by rw [List.getElem?_eq_getElem hk,List.getElem?_eq_getElem (by omega)];intro e;injection e with e;rw [e] at hb;simp at hb⟩]
theorem ypa {l:List Bool} {k:Nat} (hk:k < l.length) (hb:(l[k] !=l[k - 1]'(by omega))=false):chD l k=none:=by
 rw [chD,if_neg (by rintro ⟨_,q⟩;apply q;rw [List.getElem?_eq_getElem hk,List.getElem?_eq_getElem (by omega)];congr 1;simpa using hb)]
theorem yk8 {k:Nat} (h:decide ((k:Int) > 0)=true):((k:Int) - 1).toNat=k - 1∧0≤(k:Int) - 1:=by
 have:=oT h
 omega
theorem ymq {l:List Bool} {k:Nat} (h:decide ((k:Int) > 0)=true) (hk:k < l.length):(l.map zoj)[((k:Int) - 1).toNat]? =some (zoj (l[k - 1]'(by omega))):=by
 rw [(yk8 h).1,List.getElem?_map,List.getElem?_eq_getElem (by omega)];rfl
theorem yr3 (l:List Bool) (hl:l.length≤1000000) (b1:Nat) (y:AV) (I:Nat→SV→List Res) (x0:SV) (hy:∀k x a,k < l.length→chD l k=some a→y0 Tryz.prog y [iv a] (.box b1 130 [zoi l]::I k x) (fun r h'=>∃x',r=bv true∧h'= .box b1 130 [zoi l]::I (k+1) x')) (hs:∀k x,k < l.length→chD l k=none→I (k+1) x=I k x):y8 Tryz.prog 149 [y,pZ b1] (.box b1 130 [zoi l]::I 0 x0) (fun r h'=>∃x,h'=I l.length x):=by
 refine z6 Tryz.func149 rfl rfl rfl ?_
 refine rn ?_;refine zie l.length (fun _ _=>True) (fun k (x:SV)=>⟨[(6,iv k),(0,y),(1,pZ b1),(5,iv (l.map zoj).length)],.box b1 130 [zoi l]::I k x,[]⟩) x0 trivial es ?_
 intro k x lk _
 refine rn ?_;refine z7 rfl (fun hc7=> ?_) (fun hc7=> ?_)
 ·have hk:=za4 hc7
  have rk:=zak (f:=zoj) hk
  refine rn ?_;refine k9 17 rfl ?_
  refine rn ?_;refine zcq (fun hg3_2=> ?_) (fun hg3_2=> ?_)
  ·refine dq rfl rfl qrA ?_;refine dq rfl rfl qrA ?_;refine dq rfl rfl qrA ?_;refine dq rfl rfl qrA ?_;refine dq rfl rfl qrA ?_;refine dq rfl rfl qrA ?_;refine dq rfl rfl (zca rfl rfl rfl (by omega)) ?_
   refine dq rfl rfl (zaw rfl rfl (yk8 hg3_2).2 (ymq hg3_2 hk)) ?_
   refine dq rfl rfl qrA ?_;refine dq rfl rfl (yrm (c:=l[k] !=l[k - 1]'(by omega)) (zng rfl rfl) rfl) ?_
   refine rn ?_;refine zcq (fun hg3_14=> ?_) (fun hg3_14=> ?_)
   ·refine rn ?_;refine z8 rfl (u3 rfl rfl (hy k x _ hk (yvw hg3_2 hk (by exact hg3_14))) rfl ?_)
    rintro _ _ ⟨x',rfl,rfl⟩
    refine rn ?_;refine z7 rfl (fun hc28=> ?_) (fun hc28=> ?_)
    ·refine rn ?_;exact absurd hc28 (by simp)
    ·refine rn ?_;first|exact ⟨hk,x',trivial,eA⟩|exact ⟨hk,x,trivial,by rw [hs k x hk (ypa hk (by exact hg3_14))];exact eA⟩|exact ⟨hk,x,trivial,by rw [hs k x hk (ypb hg3_2)];exact eA⟩
   ·refine rn ?_;refine zfh rfl ?_;refine rn ?_;first|exact ⟨hk,x',trivial,eA⟩|exact ⟨hk,x,trivial,by rw [hs k x hk (ypa hk (by exact hg3_14))];exact eA⟩|exact ⟨hk,x,trivial,by rw [hs k x hk (ypb hg3_2)];exact eA⟩
  ·refine rn ?_;refine zfh rfl ?_;refine rn ?_;first|exact ⟨hk,x',trivial,eA⟩|exact ⟨hk,x,trivial,by rw [hs k x hk (ypa hk (by exact hg3_14))];exact eA⟩|exact ⟨hk,x,trivial,by rw [hs k x hk (ypb hg3_2)];exact eA⟩
 ·have qk:=za5 hc7 lk
  subst qk
  refine rn ?_;exact zf7 .nil (.drop [_] _ _) ⟨x,rfl⟩
theorem yu7 (l:List Bool) (W:List Res):y8 Tryz.prog 100 [zoi l] W (fun r h'=>∃b1,h'= .box b1 130 [zoi l]::W∧r= .fn (.func 149) [] [pZ b1]):=by
 refine z6 Tryz.func100 rfl rfl rfl ?_
 refine rn ?_;refine z8 rfl (q6 rfl rfl rfl fun b1=> ?_)
 refine rn ?_;exact k7 rfl (.refl _ _) ⟨_,rfl,rfl⟩
theorem ypj (f:FuncId) [Go.Ab.Enters Tryz.prog f] (cs:List AV) (w1:Res) (n:Nat) (hn:n≤1000000) (d:Nat→Option (Int)) (W:List Res) (hseq:∀(y:AV) (I:Nat→SV→List Res) (x0:SV),(∀k x a,k < n→d k=some a→y0 Tryz.prog y [iv a] (w1::I k x) (fun r h'=>∃x',r=bv true∧h'=w1::I (k+1) x'))→(∀k x,k < n→d k=none→I (k+1) x=I k x)→y8 Tryz.prog f (y::cs) (w1::I 0 x0) (fun _ h'=>∃x,h'=I n x)):y8 Tryz.prog 148 [.v (.slice none 0 0),.fn (.func f) [] cs] (w1::W) (fun r h'=>∃s:SV,h'= .row s.v 1 3 ((zps d n).map zal)::W∧r= .v s.v):=by
 refine z6 Tryz.func148 rfl rfl rfl ?_
 refine rn ?_;refine z8 rfl (q6 rfl rfl rfl fun b2=> ?_)
 refine rn ?_;refine zfd (s':=⟨[(6,.fn (.func f) [] cs),(2,pZ b2)],w1:: .box b2 29 [.v (⟨none,0,0⟩:SV).v]:: .row (⟨none,0,0⟩:SV).v 1 3 ((zps d 0).map zal)::W,[]⟩) (v7 (v7 (zam 1 3) (zao ((pt2 _ _ _ _).trans (.cons _ (pt1 _ _ _))))) es) ?_
 refine zo4 (fun pend h''=>pend=none∧∃s:SV,h''= .box b2 29 [.v s.v]:: .row s.v 1 3 ((zps d n).map zal)::W) rfl (fun fn l q lp hlp=> ?_) (fun q h'' hK=> ?_) (fun q h'' c hK=> ?_)
 ·suffices hy:∀k (s:SV) a,k < n→d k=some a→y0 Tryz.prog (yv l) [iv a] (w1::lp .ready none:: .defs q:: .box b2 29 [.v s.v]:: .row s.v 1 3 ((zps d k).map zal)::W) (fun r h'=>∃s':SV,r=bv true∧h'=w1::lp .ready none:: .defs q:: .box b2 29 [.v s'.v]:: .row s'.v 1 3 ((zps d (k+1)).map zal)::W) by
   refine y8.mono (y8.perm (pt2 _ _ _ _) (hseq (yv l) (fun k (s:SV)=>lp .ready none:: .defs q:: .box b2 29 [.v s.v]:: .row s.v 1 3 ((zps d k).map zal)::W) ⟨none,0,0⟩ hy (fun k s hk hn=>by rw [ys1 hn]))) ?_
   rintro _ _ ⟨s,rfl⟩
   exact ⟨none,.ready,_,.refl _,by simp,rfl,s,rfl⟩
  intro k s a hk hd
  refine y0.perm (pt1 _ _ _) (y0.ventE ?_)
  refine zfb hlp rfl rfl ?_
  refine rn ?_;refine ⟨[(5,iv a),(2,pZ b2)],w1:: .defs q:: .box b2 29 [.v s.v]:: .row s.v 1 3 ((zps d k).map zal)::W,es,?_⟩
  refine rn ?_;refine qv rfl rfl (w9 rfl rfl) ?_
  refine z8 rfl (q7 rfl rfl (by simp only [oM,List.length_cons,List.length_nil];have:=zx2 d k;omega) rfl (fun s11=> ?_) (zh5 [a]))
  refine u9 s11 fun sv hsv=> ?_
  subst hsv
  refine rn ?_;exact zey (.refl _) ⟨_,_,.perm (pt1 _ _ _) _,sv,rfl,by rw [ys0 hd,List.map_append];rfl⟩
 ·obtain ⟨_,s,rfl⟩:=hK
  refine rn ?_;exact zja (.refl _) (.cons _ _ _ _ (.tmp _ _ rfl) .nil) (.drop1 _ _ _) ⟨s,rfl,rfl⟩
 ·obtain ⟨hc,_⟩:=hK
  exact absurd hc (by simp)
theorem yjj (f:FuncId) [Go.Ab.Enters Tryz.prog f] (cs:List AV) (w1:Res) (n:Nat) (hn:n≤1000000) (d:Nat→Option (Int)) (W:List Res) (hseq:∀(y:AV) (I:Nat→SV→List Res) (x0:SV),(∀k x a,k < n→d k=some a→y0 Tryz.prog y [iv a] (w1::I k x) (fun r h'=>∃x',r=bv true∧h'=w1::I (k+1) x'))→(∀k x,k < n→d k=none→I (k+1) x=I k x)→y8 Tryz.prog f (y::cs) (w1::I 0 x0) (fun _ h'=>∃x,h'=I n x)):y8 Tryz.prog 99 [.fn (.func f) [] cs] (w1::W) (fun r h'=>∃s:SV,h'= .row s.v 1 3 ((zps d n).map zal)::W∧r= .v s.v):=by
 refine z6 Tryz.func99 rfl rfl rfl ?_
 refine rn ?_;refine z8 rfl (u3 rfl rfl (y0.of_fun (ypj f cs w1 n hn d W hseq)) rfl ?_)
 rintro _ _ ⟨s,rfl,rfl⟩
 refine rn ?_;exact k7 rfl (.refl _ _) ⟨s,rfl,rfl⟩
theorem ylw {h:Hist} {N:Nat} (la:Lim N h) {p x:Int} (he:zjo h p x=0):(zwx h p x).length≤1000000:=by
 have lA:=zfg (zy3.1 he).1
 have:=znw lA x
 rw [zm2,zqh he];omega
theorem yn6 (h:Hist) (la:Lim 4611686018427387904 h) (p x:Int):y8 Tryz.prog 42 [.agg (w7 h),iv p,iv x] (.glob 2 156 y5:: .glob 4 305 y7:: .glob 5 308 y2:: .glob 3 246 u5:: []) (fun r h'=>∃s:SV,h'= .row s.v 1 3 ((chL h p x).map zal):: .glob 2 156 y5:: .glob 4 305 y7:: .glob 5 308 y2:: .glob 3 246 u5:: []∧r= .tup [.v s.v,iv (zjo h p x)]):=by
 refine z6 Tryz.func42 rfl rfl rfl ?_
 refine rn ?_;refine z8 rfl (q6 rfl rfl rfl fun b3=> ?_)
 refine rn ?_;refine qv rfl rfl (y1 rfl rfl (y0.qt (y0.of_fun (ysb h la p x)) ((pt1 _ _ _).trans (.cons _ ((pt1 _ _ _).trans (.cons _ ((pt1 _ _ _).trans (.cons _ (pt1 _ _ _))))))))) ?_
 refine rn ?_;refine z7 rfl (fun hc18=> ?_) (fun hc18=> ?_)
 ·have he:=yxa (h:=h) (p:=p) (x:=x) (r:=0) (yub hc18)
  refine rn ?_;exact zb9 rfl rfl (.trans (.drop [_] _ _) (zaj 1 3 _)) ⟨⟨none,0,0⟩,by rw [he.2.2];rfl,rfl⟩
 ·have he:zjo h p x=0:=yu6 hc18
  have hl:ylx h p x=zwx h p x:=by rw [ylx,if_pos he]
  have lt:=ylw la he
  rw [hl]
  refine rn ?_;refine z8 rfl (u3 rfl rfl (y0.of_fun (yu7 (zwx h p x) _)) rfl ?_)
  rintro _ _ ⟨b1,rfl,rfl⟩
  refine z8 rfl (u3 rfl rfl (y0.of_fun (yjj 149 [pZ b1] _ (zwx h p x).length lt (chD (zwx h p x)) _ (fun y I x0 hy hs=>yr3 (zwx h p x) lt b1 y I x0 hy hs))) rfl ?_)
  rintro _ _ ⟨s,rfl,rfl⟩
  refine rn ?_;exact zb9 rfl rfl (.trans (.perm (pt1 _ _ _) _) (.drop [_] _ _)) ⟨s,by rw [chL,if_pos he,yp1,ye0],by rw [he];rfl⟩
theorem yse (h:Hist) (la:Lim 4611686018427387904 h) (p x:Int):y8 Tryz.prog 42 [.agg (w7 h),iv p,iv x] (.glob 2 156 y5:: .glob 4 305 y7:: .glob 5 308 y2:: .glob 3 246 u5:: []) (fun r h'=>h'= .glob 2 156 y5:: .glob 4 305 y7:: .glob 5 308 y2:: .glob 3 246 u5:: []∧r= .tup [zbc (chL h p x),iv (zjo h p x)]):=
 (yn6 h la p x).ventR (by rintro _ _ ⟨s,rfl,rfl⟩;exact ⟨_,_,zbj [] [_],rfl,rfl⟩)
def ev0:Ev:=⟨0,0,0,0,0,⟨0,0⟩,0,[]⟩
def evA (h:Hist) (n:Int):Ev:=if zho h n h.evs.length=0 then evD h.evs n else ev0
def yj6 (h:Hist) (n:Int):List Seen:=if zfi h n=0 then zau h (evD h.evs n) n.toNat else []
theorem yuh {p:Prop} (c d:Prop) [Decidable c] [Decidable d] (x:c→d→p) (y:c→¬d→p) (z:¬c→p):p:=if h:c then (if k:d then x h k else y h k) else z h
theorem yaf {h:Hist} {n:Int} (he:zho h n h.evs.length=0):∃a:Nat,∃ha:a < h.evs.length,n=a∧evA h n=h.evs[a]∧u6 h=0:=by
 obtain ⟨hs,n0,n1⟩:=ypi he
 obtain ⟨a,rfl⟩:=Int.eq_ofNat_of_zero_le n0
 exact ⟨a,by omega,rfl,by rw [evA,if_pos he,zya (by omega)],zbh.2 hs⟩
theorem ytg {h:Hist} {n:Int} (he:zho h n h.evs.length≠0):evA h n=ev0:=by rw [evA,if_neg he]
theorem yv5 {h:Hist} {a:Nat} (ha:a < h.evs.length) (hc:u6 h=0) (h4:h.evs[a].kind=4):zfi h a=0∧yj6 h a=zau h h.evs[a] a:=by
 have:=(ywp hc ha h4).1
 exact ⟨this,by rw [yj6,this,if_pos rfl,zya ha,Int.toNat_natCast]⟩
theorem yqd {h:Hist} {n:Int} (hc:u6 h=0) (hn:¬(0≤n∧n < h.evs.length∧(evD h.evs n).kind=4)):zfi h n=2∧yj6 h n= []:=by
 have:=(ywq hc hn).1
 exact ⟨this,by rw [yj6,this];rfl⟩
theorem yt6 {h:Hist} {n:Int} (he:zho h n h.evs.length≠0):zfi h n=zho h n h.evs.length∧yj6 h n= []:=by
 by_cases hc:u6 h=0
 ·have hn:¬(0≤n∧n < (h.evs.length:Int)):=fun q=>he (zwl hc q)
  obtain ⟨a,b⟩:=yqd (h:=h) (n:=n) hc (fun q=>hn ⟨q.1,q.2.1⟩)
  exact ⟨by rw [a,yao hc hn],b⟩
 ·have:=(ywr (n:=n) hc).1
  exact ⟨by rw [this,ask_c hc],by rw [yj6,this,if_neg hc]⟩
theorem yuc {h:Hist} {n:Int} (he:zho h n h.evs.length=0):evA h n=evD h.evs n:=by rw [evA,if_pos he]
theorem yih (h:Hist) (la:Lim 4611686018427387904 h) (n:Int):y8 Tryz.prog 97 [.agg (w7 h),iv n] (.glob 2 156 y5:: .glob 4 305 y7:: .glob 5 308 y2:: .glob 3 246 u5:: []) (fun r h'=>h'= .glob 2 156 y5:: .glob 4 305 y7:: .glob 5 308 y2:: .glob 3 246 u5:: []∧r= .tup [.agg (evR (evA h n)),iv (zho h n h.evs.length)]):=by
 refine z6 Tryz.func97 rfl rfl rfl ?_
 refine rn ?_;refine z8 rfl (q6 rfl rfl rfl fun b2=> ?_)
 refine z8 rfl (y3 rfl fun b4=> ?_)
 refine rn ?_;refine qv rfl rfl (y1 rfl rfl (y0.qt (y0.of_fun (ykv h la)) ((pt2 _ _ _ _).trans (.cons _ ((pt2 _ _ _ _).trans (.cons _ ((pt2 _ _ _ _).trans (.cons _ (pt2 _ _ _ _))))))))) ?_
 refine rn ?_;refine z7 rfl (fun hc14=> ?_) (fun hc14=> ?_)
 ·have he:zho h n h.evs.length=u6 h:=ask_c (yub hc14)
  have hn:zho h n h.evs.length≠0:=by rw [he];exact yub hc14
  refine w8 (y4 ?_)
  refine qq rfl rfl (zg3 (fun w O v hr=>Sb.rel (Sb.aggs (bs:=evR ev0) (by exact ⟨.refl _,.refl _,.refl _,.refl _,.refl _,.refl _,.refl _,.refl _,.nil _ _,trivial⟩)) hr) (zaf (out:= [iv 0,iv 0,iv 0,iv 0,iv 0,iv 0,iv 0,iv 0,.v (.slice none 0 0)]) rfl (by rfl))) ?_
  refine rn ?_;exact ze9 (.cons _ _ _ _ (.agg _ _ _ _ _ _ _ rfl inferInstance inferInstance inferInstance rfl) (.cons _ _ _ _ (.tmp _ _ rfl) .nil)) (.drop [_,_] _ _) ⟨rfl,by rw [ytg hn,he];rfl⟩
 ·have hc:=yu6 hc14
  refine rn ?_;refine qv rfl rfl (y1 rfl rfl (u7 (ysd n (h.evs.map evR).length) (Sbs.refl _))) ?_
  refine rn ?_;refine z7 rfl (fun hc22=> ?_) (fun hc22=> ?_)
  ·have he:zho h n h.evs.length=2:=yao hc (by have q:=ywd hc22;rw [oM] at q;exact q)
   have hn:zho h n h.evs.length≠0:=by rw [he];decide
   refine w8 (y4 ?_)
   refine qq rfl rfl (zg3 (fun w O v hr=>Sb.rel (Sb.aggs (bs:=evR ev0) (by exact ⟨.refl _,.refl _,.refl _,.refl _,.refl _,.refl _,.refl _,.refl _,.nil _ _,trivial⟩)) hr) (zaf (out:= [iv 0,iv 0,iv 0,iv 0,iv 0,iv 0,iv 0,iv 0,.v (.slice none 0 0)]) rfl (by rfl))) ?_
   refine rn ?_;exact ze9 (.cons _ _ _ _ (.agg _ _ _ _ _ _ _ rfl inferInstance inferInstance inferInstance rfl) (.cons _ _ _ _ (.tmp _ _ rfl) .nil)) (.drop [_,_] _ _) ⟨rfl,by rw [ytg hn,he];rfl⟩
  ·have q:=ywe hc22
   rw [oM] at q
   have he:=zwl hc q
   obtain ⟨a,ha,rfl,ea,_⟩:=yaf he
   have ra:=zak (f:=evR) ha
   refine zar ?_;refine zac ?_;refine w8 (y4 ?_)
   refine q1 ?_;refine q1 ?_;refine q1 ?_;refine qq rfl rfl (zaw rfl rfl q.1 ra) ?_
   refine rn ?_;exact ze9 (.cons _ _ _ _ (.agg _ _ _ _ _ _ _ rfl inferInstance inferInstance inferInstance rfl) (.cons _ _ _ _ (.tmp _ _ rfl) .nil)) (.drop [_,_] _ _) ⟨rfl,by rw [ea,he];rfl⟩
theorem yn3 (h:Hist) (la:Lim 4611686018427387904 h) (n:Int):y8 Tryz.prog 41 [.agg (w7 h),iv n] (.glob 2 156 y5:: .glob 4 305 y7:: .glob 5 308 y2:: .glob 3 246 u5:: []) (fun r h'=>∃s:SV,h'= .row s.v 3 70 ((yj6 h n).map zap):: .glob 2 156 y5:: .glob 4 305 y7:: .glob 5 308 y2:: .glob 3 246 u5:: []∧r= .tup [.v s.v,iv (zfi h n)]):=by
 refine z6 Tryz.func41 rfl rfl rfl ?_
 refine rn ?_;refine z8 rfl (q6 rfl rfl rfl fun b2=> ?_)
 refine rn ?_;refine zkk ?_;refine rn ?_;refine qv rfl rfl (y1 rfl rfl (y0.qt (y0.of_fun (yih h la n)) ((pt1 _ _ _).trans (.cons _ ((pt1 _ _ _).trans (.cons _ ((pt1 _ _ _).trans (.cons _ (pt1 _ _ _))))))))) ?_
 refine rn ?_;refine z8 rfl (y3 rfl fun b6=> ?_)
 first|refine z8 rfl (k8 rfl rfl rfl ?_)|refine z8 rfl (zaq rfl rfl rfl rfl (Nat.le_of_ble_eq_true rfl) ?_)
 refine q1 ?_;refine j4 (zac ?_)
 refine w8 ?_;refine w8 (y4 ?_)
 refine q1 ?_;refine yuh (zho h n h.evs.length=0) ((evA h n).kind=4) (fun hc h4=>qq rfl rfl (zc2 (c:=true) rfl rfl (congrArg some (by rw [hc];rfl))) ?_) (fun hc h4=>qq rfl rfl (zc2 (c:=true) rfl rfl (congrArg some (by rw [hc];rfl))) ?_) (fun hc=>qq rfl rfl (zc2 (c:=false) rfl rfl (congrArg some (by simpa using hc))) ?_)
 ·refine q1 ?_;refine q1 ?_;refine q1 ?_;refine qq rfl rfl (by first|exact zc2 (c:=false) rfl rfl (congrArg some (by rw [h4];rfl))|exact zc2 (c:=true) rfl rfl (congrArg some (by simpa using h4))) ?_
  refine rn ?_;refine z7 rfl (fun hc29=> ?_) (fun hc29=> ?_)
  ·first|cases hc29|exact absurd hc29 (by decide)|(exfalso;simp_all;done)
  ·refine zar ?_;refine zac ?_;refine w8 ?_;refine w8 (y4 ?_)
   refine q1 ?_;refine qq rfl rfl (by first|exact zc2 (c:=false) rfl rfl (congrArg some (by rw [hc];rfl))|exact zc2 (c:=true) rfl rfl rfl|exact zc2 (c:=true) rfl rfl (congrArg some (by simpa using hc))) ?_
   refine rn ?_;refine z7 rfl (fun hc31=> ?_) (fun hc31=> ?_)
   ·first|cases hc31|exact absurd hc31 (by decide)|(exfalso;simp_all;done)
   ·refine zar ?_;refine rn0 ?_;refine w8 ?_;obtain ⟨a,ha,rfl,ea,hk0⟩:=yaf hc
    rw [ea] at h4
    rw [ea]
    obtain ⟨hse,hsl⟩:=yv5 ha hk0 h4
    have lA:=zfg hk0
    have be:=lA.evs
    have bs:=lA.scans h.evs[a] (List.getElem_mem ha)
    refine rn ?_;refine z8 rfl (zbb (enc:=intK) rfl fun rm=> ?_)
    refine rn ?_;refine zcv h.evs.length (fun k=>k≤a) (fun k=>⟨[(37,iv k),(1,iv (a:Int)),(2,pZ b2),(6,pZ b6),(8,mpv rm),(35,zri h.evs),(36,iv (h.evs.map evR).length)],.map rm (zas intK (zbw ya5 (yas (h.evs.take k) h.evs[a].t))):: .box b6 60 (evR h.evs[a]):: .box b2 28 (w7 h):: .glob 2 156 y5:: .glob 4 305 y7:: .glob 5 308 y2:: .glob 3 246 u5:: [],[]⟩) (Nat.zero_le _) es ?_
    intro k lk ka
    refine rn ?_;refine z7 rfl (fun hc38=> ?_) (fun hc38=> ?_)
    ·have hk:=za4 hc38
     have rk:=zak (f:=evR) hk
     refine rn ?_;refine z8 rfl (y3 rfl fun b10=> ?_)
     refine rn ?_;refine z7 rfl (fun hc42=> ?_) (fun hc42=> ?_)
     ·obtain rfl:a=k:=by have:=eq_of_beq hc42;omega
      refine rn ?_;refine zcv h.evs[a].scan.length (fun _=>True) (fun j=>⟨[(66,iv j),(2,pZ b2),(8,mpv rm),(64,zft h.evs[a].scan),(65,iv (h.evs[a].scan.map zap).length)],.map rm (zas intK (zbw ya5 (ymc (yas (h.evs.take a) h.evs[a].t) (h.evs[a].scan.take j)))):: .box b6 60 (evR h.evs[a]):: .box b2 28 (w7 h):: .glob 2 156 y5:: .glob 4 305 y7:: .glob 5 308 y2:: .glob 3 246 u5:: [],[]⟩) trivial eA ?_
      intro j lj _
      refine rn ?_;refine z7 rfl (fun hc67=> ?_) (fun hc67=> ?_)
      ·have hj:=za4 hc67
       have rj:=zak (f:=zap) hj
       refine rn ?_;refine z8 rfl (y3 rfl fun b12=> ?_)
       refine rn ?_;refine z8 rfl (za6 (g:=ya5) (enc:=intK) (k:=h.evs[a].scan[j].o) (v:=h.evs[a].scan[j].v) rfl rfl rfl ?_)
       refine rn ?_;exact ⟨hj,trivial,by rw [yqk hj];exact eA⟩
      ·have qj:=za5 hc67 lj
       subst qj
       rw [List.take_length]
       refine rn ?_;refine zep h.os.length (fun k s=>⟨[(79,iv k),(13,.v s.v),(8,mpv rm),(78,iv (h.os.map zf5).length)],.row s.v 3 70 (((upR k).map fun x:Int=>(⟨x,yft h.evs h.evs[a].t a h.evs[a].scan x⟩:Seen)).map zap):: .map rm (zas intK (zbw ya5 (ymc (yas (h.evs.take a) h.evs[a].t) h.evs[a].scan))):: .box b6 60 (evR h.evs[a]):: .box b2 28 (w7 h):: .glob 2 156 y5:: .glob 4 305 y7:: .glob 5 308 y2:: .glob 3 246 u5:: [],[]⟩) ⟨none,0,0⟩ (v7 (zam 3 70) es) ?_
       intro k s lk
       refine rn ?_;refine z7 rfl (fun hc80=> ?_) (fun hc80=> ?_)
       ·have hk:k < h.os.length:=by have q:=oT hc80;rw [oM] at q;omega
        have bo:=lA.os
        have hv:=ynk (l:=h.evs) (t:=h.evs[a].t) (x:=(k:Int)) h.evs[a].scan (Nat.le_of_lt ha)
        refine zar ?_;refine zac ?_;refine w8 ?_;refine zcx ?_;refine w8 (y4 ?_)
        refine q1 ?_;refine q1 ?_;refine j4 (zac ?_)
        refine w8 (y4 ?_)
        refine q1 ?_;refine qq rfl rfl (zaf (out:= [iv (k:Int),iv 0,iv 0]) rfl (by rfl)) ?_
        refine z8 rfl (y3 rfl fun b15=> ?_)
        first|refine z8 rfl (k8 rfl rfl rfl ?_)|refine z8 rfl (zaq rfl rfl rfl rfl (Nat.le_of_ble_eq_true rfl) ?_)
        refine j4 (zac ?_)
        refine w8 ?_;refine w8 (y4 ?_)
        refine q1 ?_;refine q1 ?_;refine qq rfl rfl (zch (g:=ya5) (enc:=intK) (k:=(k:Int)) (⟨0,0⟩:Ver) rfl rfl) ?_
        rw [hv]
        generalize hV:yft h.evs h.evs[a].t a h.evs[a].scan (k:Int)=V
        refine z8 rfl (y3 rfl fun b16=> ?_)
        first|refine z8 rfl (k8 rfl rfl rfl ?_)|refine z8 rfl (zaq rfl rfl rfl rfl (Nat.le_of_ble_eq_true rfl) ?_)
        refine j4 (zac ?_)
        refine w8 (y4 ?_)
        refine q1 ?_;refine qq rfl rfl (zaf (out:= [iv 0,iv 0]) rfl (by rfl)) ?_
        refine rn ?_;refine z7 rfl (fun hc89=> ?_) (fun hc89=> ?_)
        ·refine rn ?_;refine qv rfl rfl (w9 rfl rfl) ?_
         refine z8 rfl (q7 rfl rfl (by simp only [oM,upR,List.length_range,List.length_cons,List.length_nil];omega) rfl (fun s95=> ?_) (by first|exact zil [(⟨(k:Int),V⟩:Seen)]|exact zil [(⟨(k:Int),⟨0,0⟩⟩:Seen)]))
         refine u9 s95 fun sv hsv=> ?_
         subst hsv
         refine rn ?_;exact ⟨hk,sv,by rw [zy1,List.map_append,List.map_append,List.map_singleton,List.map_singleton,hV];exact eA⟩
        ·have hv0:V=⟨0,0⟩:=eq_of_beq (by rw [←zcs];simpa using hc89)
         subst hv0
         refine rn ?_;refine qv rfl rfl (w9 rfl rfl) ?_
         refine z8 rfl (q7 rfl rfl (by simp only [oM,upR,List.length_range,List.length_cons,List.length_nil];omega) rfl (fun s95=> ?_) (by first|exact zil [(⟨(k:Int),V⟩:Seen)]|exact zil [(⟨(k:Int),⟨0,0⟩⟩:Seen)]))
         refine u9 s95 fun sv hsv=> ?_
         subst hsv
         refine rn ?_;exact ⟨hk,sv,by rw [zy1,List.map_append,List.map_append,List.map_singleton,List.map_singleton,hV];exact eA⟩
       ·have qk:k=h.os.length:=by have q:=oF hc80;rw [oM] at q;omega
        subst qk
        refine rn ?_;refine ⟨fun l h=>(by cases h),?_⟩
        exact zb9 rfl rfl (.trans (.perm ((pt1 _ _ _).trans (.cons _ ((pt1 _ _ _).trans (.cons _ (pt1 _ _ _))))) _) (.drop [_,_,_] _ _)) ⟨s,by rw [hsl];rfl,by rw [hse];rfl⟩
     ·have hka:k < a:=by have:=beq_eq_false_iff_ne.1 hc42;omega
      refine rn ?_;refine w6 (fun hg11_5=> ?_) (fun hg11_5=> ?_)
      ·refine rn ?_;refine z7 rfl (fun hc46=> ?_) (fun hc46=> ?_)
       ·have hw:(h.evs[k].t==h.evs[a].t && h.evs[k].kind==2)=true:=by first|(rw [hg11_5];exact hc46)|(rw [Bool.and_eq_true];exact ⟨hg11_5,hc46⟩)
        refine rn ?_;refine z8 rfl (za6 (g:=ya5) (enc:=intK) (k:=h.evs[k].o) (v:=h.evs[k].v) rfl rfl rfl ?_)
        refine rn ?_;first|exact ⟨hk,hka,by rw [ycy hk hw];exact eA⟩|exact ⟨hk,hka,by rw [ycz hk hw];exact eA⟩
       ·have hw:(h.evs[k].t==h.evs[a].t && h.evs[k].kind==2)=false:=by first|(rw [hg11_5,hc46];rfl)|(rw [hg11_5];rfl)
        refine rn ?_;first|exact ⟨hk,hka,by rw [ycy hk hw];exact eA⟩|exact ⟨hk,hka,by rw [ycz hk hw];exact eA⟩
      ·refine rn ?_;refine z7 rfl (fun hc46=> ?_) (fun hc46=> ?_)
       ·first|cases hc46|exact absurd hc46 (by decide)|(exfalso;simp_all;done)
       ·have hw:(h.evs[k].t==h.evs[a].t && h.evs[k].kind==2)=false:=by first|(rw [hg11_5,hc46];rfl)|(rw [hg11_5];rfl)
        refine rn ?_;first|exact ⟨hk,hka,by rw [ycy hk hw];exact eA⟩|exact ⟨hk,hka,by rw [ycz hk hw];exact eA⟩
    ·exfalso;have qk:=za5 hc38 lk;omega
 ·refine q1 ?_;refine q1 ?_;refine q1 ?_;refine qq rfl rfl (by first|exact zc2 (c:=false) rfl rfl (congrArg some (by rw [h4];rfl))|exact zc2 (c:=true) rfl rfl (congrArg some (by simpa using h4))) ?_
  refine rn ?_;refine z7 rfl (fun hc29=> ?_) (fun hc29=> ?_)
  ·refine y4 ?_;refine q1 ?_;refine j4 (zac ?_)
   refine w8 ?_;refine w8 (y4 ?_)
   refine q1 ?_;refine qq rfl rfl (by first|exact zc2 (c:=false) rfl rfl (congrArg some (by rw [hc];rfl))|exact zc2 (c:=true) rfl rfl rfl|exact zc2 (c:=true) rfl rfl (congrArg some (by simpa using hc))) ?_
   refine rn ?_;refine z7 rfl (fun hc31=> ?_) (fun hc31=> ?_)
   ·refine rn ?_;refine ⟨fun l h=>(by cases h),?_⟩
    exact zb9 rfl rfl (.trans (.drop [_,_] _ _) (zaj 3 70 _)) ⟨⟨none,0,0⟩,by first|(rw [(yt6 hc).2];rfl)|(obtain ⟨a,ha,rfl,ea,hk0⟩:=yaf hc;rw [(yqd hk0 (by rw [←yuc hc];exact fun q=>h4 q.2.2)).2];rfl),by first|(rw [(yt6 hc).1];rfl)|(obtain ⟨a,ha,rfl,ea,hk0⟩:=yaf hc;rw [(yqd hk0 (by rw [←yuc hc];exact fun q=>h4 q.2.2)).1];rfl)⟩
   ·first|cases hc31|exact absurd hc31 (by decide)|(exfalso;simp_all;done)
  ·first|cases hc29|exact absurd hc29 (by decide)|(exfalso;simp_all;done)
 ·refine rn ?_;refine z7 rfl (fun hc29=> ?_) (fun hc29=> ?_)
  ·first|cases hc29|exact absurd hc29 (by decide)|(exfalso;simp_all;done)
  ·refine zar ?_;refine zac ?_;refine w8 ?_;refine w8 (y4 ?_)
   refine q1 ?_;refine qq rfl rfl (by first|exact zc2 (c:=false) rfl rfl (congrArg some (by rw [hc];rfl))|exact zc2 (c:=true) rfl rfl rfl|exact zc2 (c:=true) rfl rfl (congrArg some (by simpa using hc))) ?_
   refine rn ?_;refine z7 rfl (fun hc31=> ?_) (fun hc31=> ?_)
   ·refine rn ?_;refine ⟨fun l h=>(by cases h),?_⟩
    exact zb9 rfl rfl (.trans (.drop [_,_] _ _) (zaj 3 70 _)) ⟨⟨none,0,0⟩,by first|(rw [(yt6 hc).2];rfl)|(obtain ⟨a,ha,rfl,ea,hk0⟩:=yaf hc;rw [(yqd hk0 (by rw [←yuc hc];exact fun q=>h4 q.2.2)).2];rfl),by first|(rw [(yt6 hc).1];rfl)|(obtain ⟨a,ha,rfl,ea,hk0⟩:=yaf hc;rw [(yqd hk0 (by rw [←yuc hc];exact fun q=>h4 q.2.2)).1];rfl)⟩
   ·first|cases hc31|exact absurd hc31 (by decide)|(exfalso;simp_all;done)
theorem ysc (h:Hist) (la:Lim 4611686018427387904 h) (n:Int):y8 Tryz.prog 41 [.agg (w7 h),iv n] (.glob 2 156 y5:: .glob 4 305 y7:: .glob 5 308 y2:: .glob 3 246 u5:: []) (fun r h'=>h'= .glob 2 156 y5:: .glob 4 305 y7:: .glob 5 308 y2:: .glob 3 246 u5:: []∧r= .tup [zft (yj6 h n),iv (zfi h n)]):=
 (yn3 h la n).ventR (by rintro _ _ ⟨s,rfl,rfl⟩;exact ⟨_,_,zbj [] [_],rfl,rfl⟩)
def zqo (p:Int×List Int):List AV:= [iv p.1,zbc p.2]
abbrev zi8 (l:List (Int×List Int)):AV:= .list false 2 (l.map zqo)
theorem yrx (l:List (Int×List Int)):∀r∈l.map zqo,r.all AV.one=true:=by
 intro r hr;obtain ⟨a,_,rfl⟩:=List.mem_map.1 hr;rfl
theorem yk9 {h:Hist} (hc:u6 h=0) (p x:Int):(chL h p x).length≤4000:=by
 rw [chL];split
 ·rename_i he
  have h1:=(zy3.1 he).2.1
  rw [yp1]
  refine Nat.le_trans (zyg _ _) ?_
  have:=ztk hc h1.1 h1.2
  rw [zm2];omega
 ·exact Nat.zero_le _
theorem zrh {α:Type} (p:α→Bool):∀(l:List α) (i:Nat), -1≤zbx p i l∧zbx p i l < (i+l.length:Nat)+1
 | [],i=>by simp only [zbx,List.length_nil];omega
 |a::r,i=>by
  have:=zrh p r (i+1)
  simp only [zbx,List.length_cons]
  split <;> omega
theorem yqy {h:Hist} (hc:u6 h=0) {x:Int} (h0:0≤x) (h1:x < h.os.length) {v:Ver} {r:Int} (hr:zmb h x v=some r):0≤r∧r≤4000:=by
 have hb:=ztk hc h0 h1
 rw [zmb,zqq (zbh.1 hc) v h0 h1 _ (Nat.le_refl _) h1] at hr
 split at hr
 ·injection hr with hr;omega
 ·split at hr
  ·injection hr with hr
   have:zou h x v < ((0+(zb6 h x).length:Nat):Int)+1:=by rw [zou];exact (zrh _ _ _).2
   omega
  ·cases hr
theorem zzq {h:Hist} {e:Ev} (hn:(!(zmb h e.o e.v).isSome)=true):ze5 h e= []:=by
 rw [ze5];cases hq:zmb h e.o e.v with
 |none=>rfl
 |some r=>rw [hq] at hn;cases hn
theorem zzp {h:Hist} {e:Ev} {r:Int} (hr:zmb h e.o e.v=some r):ze5 h e= [(e.o,[r+1])]:=by rw [ze5,hr]
theorem zx8 {α:Type} (p:α→Bool):∀(l:List α) (i:Nat),zbx p i l= -1∨(i:Int)≤zbx p i l
 | [],i=>by simp [zbx]
 |a::r,i=>by
  have:=zx8 p r (i+1)
  simp only [zbx]
  split
  ·right;omega
  ·omega
theorem yjf {l:List Int} {q:Int→Bool} {i n:Nat} (h:zbx q i l=((i+n:Nat):Int)):l.dropWhile (fun k=> !q k)=l.drop n:=by
 induction l generalizing i n with
 |nil=>simp [zbx] at h;omega
 |cons a r ih=>
  rw [zbx] at h
  by_cases hq:q a=true
  ·rw [if_pos hq] at h
   have:n=0:=by omega
   subst this
   simp [hq]
  ·rw [if_neg hq] at h
   have hf:q a=false:=by simpa using hq
   obtain ⟨m,rfl⟩:∃m,n=m+1:=⟨n - 1,by
    have:=zx8 q r (i+1);omega⟩
   rw [List.dropWhile_cons,hf]
   simp only [Bool.not_false,if_true,List.drop_succ_cons]
   exact ih (i:=i+1) (n:=m) (by rw [h];congr 1;omega)
theorem ywo {h:Hist} {e:Ev} {s:Seen} {r:Int} {n:Nat} (hr:zmb h s.o s.v=some r) (hn:zbx (fun k=>decide (k > r)) 0 (chL h e.p s.o)=(n:Int)):zdz h e s=some (s.o,rwOver h e.p s.o r)∧rwOver h e.p s.o r=(chL h e.p s.o).drop n:=by
 have ha:(chL h e.p s.o).any (fun k=>decide (k > r))=true:=by rw [←ze2 _ _ 0,hn];exact decide_eq_true (by omega)
 exact ⟨by rw [zdz,hr];simp only;rw [if_pos ha],by rw [rwOver];exact yjf (i:=0) (by rw [hn];congr 1;omega)⟩
theorem yv6 {h:Hist} {e:Ev} {s:Seen} (hn:(zmb h s.o s.v).isSome=false∨decide (zbx (fun k=>decide (k > (zmb h s.o s.v).getD 0)) 0 (chL h e.p s.o) ≥ 0)=false):zdz h e s=none:=by
 rw [zdz]
 cases hr:zmb h s.o s.v with
 |none=>rfl
 |some r=>
  rw [hr] at hn
  rcases hn with q|q
  ·cases q
  ·rw [Option.getD_some,ze2] at q
   simp only
   rw [if_neg (by rw [q];decide)]
theorem ys9 {α β:Type} (f:α→Option β) (l:List α) (k:Nat):((l.take k).filterMap f).length≤k:=Nat.le_trans (List.length_filterMap_le _ _) (List.length_take_le _ _)
theorem ys8 {α β:Type} {f:α→Option β} {l:List α} {k:Nat} {b:β} (hk:k < l.length) (h:f l[k]=some b):(l.take (k+1)).filterMap f=(l.take k).filterMap f++ [b]:=by
 rw [List.take_succ_eq_append_getElem hk,List.filterMap_append];simp [h]
theorem yox {α β:Type} {f:α→Option β} {l:List α} {k:Nat} (hk:k < l.length) (h:f l[k]=none):(l.take (k+1)).filterMap f=(l.take k).filterMap f:=by
 rw [List.take_succ_eq_append_getElem hk,List.filterMap_append];simp [h]
theorem yup (h:Hist) (la:Lim 4611686018427387904 h) (hc:u6 h=0) (p x:Int) (rc rl rk rg:Nat) (M:List ((Int×Int)×List Int)) (hM:zoq h M) (W:List Res):y8 Tryz.prog 305 [.agg (rwP h rc rl rk rg),iv p,iv x] (rgR rg M::rkS h rk::zbf h rl::rcR h rc:: .glob 2 156 y5:: .glob 4 305 y7:: .glob 5 308 y2:: .glob 3 246 u5::W) (fun r h'=>∃M',zoq h M'∧h'=rgR rg M'::rkS h rk::zbf h rl::rcR h rc:: .glob 2 156 y5:: .glob 4 305 y7:: .glob 5 308 y2:: .glob 3 246 u5::W∧r=zbc (chL h p x)):=by
 refine z6 Tryz.func305 rfl rfl rfl ?_
 refine rn ?_;refine z8 rfl (q6 rfl rfl rfl fun b3=> ?_)
 refine q1 ?_;refine j4 (zac ?_)
 refine w8 (y4 ?_)
 refine q1 ?_;refine q1 ?_;refine qq rfl rfl (zdb (out:= [iv p,iv x]) rfl (by rfl)) ?_
 refine z8 rfl (y3 rfl fun b7=> ?_)
 first|refine z8 rfl (k8 rfl rfl rfl ?_)|refine z8 rfl (zaq rfl rfl rfl rfl (Nat.le_of_ble_eq_true rfl) ?_)
 refine j4 (zac ?_)
 refine w8 ?_;refine w8 (y4 ?_)
 refine q1 ?_;refine q1 ?_;refine q1 ?_;refine qq rfl rfl (zh1 (g:=zbc) (enc:=zbg) (k:=(p,x)) ([]:List Int) rfl rfl rfl) ?_
 refine rn ?_;refine z7 rfl (fun hc21=> ?_) (fun hc21=> ?_)
 ·refine ze8 12 [11] [] (fun he=>∃M,he= .box b7 45 [iv p,iv x]:: .box b3 119 (rwP h rc rl rk rg)::rgR rg M::rkS h rk::zbf h rl::rcR h rc:: .glob 2 156 y5:: .glob 4 305 y7:: .glob 5 308 y2:: .glob 3 246 u5::W) rfl rfl ⟨_,rfl⟩ ?_
  refine jq rfl (fun he hC=>by obtain ⟨M,rfl⟩:=hC <;> exact qrA) ?_
  refine jq rfl (fun he hC=>by obtain ⟨M,rfl⟩:=hC <;> exact qrA) ?_
  refine jq rfl (fun he hC=>by obtain ⟨M,rfl⟩:=hC <;> exact qrA) ?_
  refine jq rfl (fun he hC=>by obtain ⟨M,rfl⟩:=hC <;> exact qrA) ?_
  refine jq rfl (fun he hC=>by obtain ⟨M,rfl⟩:=hC <;> exact qrA) ?_
  refine jq rfl (fun he hC=>by obtain ⟨M,rfl⟩:=hC <;> exact qrA) ?_
  refine jq rfl (fun he hC=>by obtain ⟨M,rfl⟩:=hC <;> exact qrA) ?_
  refine jv rfl (fun he hC=>by obtain ⟨M,rfl⟩:=hC <;> exact (by exact y1 rfl rfl (y0.qt (y0.of_fun (yse h la p x)) ((pt6 _ _ _ _ _ _ _ _).trans (.cons _ ((pt6 _ _ _ _ _ _ _ _).trans (.cons _ ((pt6 _ _ _ _ _ _ _ _).trans (.cons _ (pt6 _ _ _ _ _ _ _ _)))))))))) ?_
  refine jq rfl (fun he hC=>by obtain ⟨M,rfl⟩:=hC <;> exact qrA) ?_
  refine jq rfl (fun he hC=>by obtain ⟨M,rfl⟩:=hC <;> exact qrA) ?_
  refine jq rfl (fun he hC=>by obtain ⟨M,rfl⟩:=hC <;> exact qrA) ?_
  refine je rfl ?_;refine yaa ?_;refine jce rfl fun u=> ?_
  refine za6 (g:=zbc) (enc:=zbg) (k:=(p,x)) (v:=chL h p x) rfl rfl rfl ⟨.any,_,rfl,⟨_,rfl⟩,?_⟩
  refine jcn ?_;refine ln ?_;refine j4 (zac ?_)
  refine w8 (y4 ?_)
  refine q1 ?_;refine q1 ?_;refine q1 ?_;refine qq rfl rfl (zch (g:=zbc) (enc:=zbg) (k:=(p,x)) ([]:List Int) rfl rfl) ?_
  refine rn ?_;first|exact k7 rfl (.drop [_,_] _ _) ⟨_,zyj hM p x,rfl,congrArg zbc (zyk p x)⟩|exact k7 rfl (.drop [_,_] _ _) ⟨_,hM,rfl,congrArg zbc (zyl hM hc21)⟩
 ·refine zar ?_;refine zac ?_;refine w8 (y4 ?_)
  refine q1 ?_;refine q1 ?_;refine q1 ?_;refine qq rfl rfl (zch (g:=zbc) (enc:=zbg) (k:=(p,x)) ([]:List Int) rfl rfl) ?_
  refine rn ?_;first|exact k7 rfl (.drop [_,_] _ _) ⟨_,zyj hM p x,rfl,congrArg zbc (zyk p x)⟩|exact k7 rfl (.drop [_,_] _ _) ⟨_,hM,rfl,congrArg zbc (zyl hM hc21)⟩
theorem ybv (h:Hist) (rc rl rk rg:Nat) (n:Int) (W:List Res):y8 Tryz.prog 302 [.agg (rwP h rc rl rk rg),iv n] W (fun r h'=>h'=W∧r=zi8 []):=by
 refine z6 Tryz.func302 rfl rfl rfl ?_
 refine rn ?_;refine z8 rfl (q6 rfl rfl rfl fun b2=> ?_)
 refine rn ?_;exact k7 rfl (.trans (.drop [_] _ _) (.le (Sb.nil false 2).le)) ⟨rfl,rfl⟩
theorem yqp (h:Hist) (la:Lim 4611686018427387904 h) (hc:u6 h=0) (a:Nat) (ha:a < h.evs.length) (h3:h.evs[a].kind=3) (rc rl rk rg:Nat) (M:List ((Int×Int)×List Int)) (W:List Res):y8 Tryz.prog 303 [.agg (rwP h rc rl rk rg),iv (a:Int)] (rgR rg M::rkS h rk::zbf h rl::rcR h rc:: .glob 2 156 y5:: .glob 4 305 y7:: .glob 5 308 y2:: .glob 3 246 u5::W) (fun r h'=>h'=rgR rg M::rkS h rk::zbf h rl::rcR h rc:: .glob 2 156 y5:: .glob 4 305 y7:: .glob 5 308 y2:: .glob 3 246 u5::W∧r=zi8 (ze5 h h.evs[a])):=by
 refine z6 Tryz.func303 rfl rfl rfl ?_
 have ra:=zak (f:=evR) ha
 refine rn ?_;refine z8 rfl (q6 rfl rfl rfl fun b2=> ?_)
 refine q1 ?_;refine j4 (zac ?_)
 refine w8 (y4 ?_)
 refine q1 ?_;refine q1 ?_;refine q1 ?_;refine q1 ?_;refine qq rfl rfl (zdj rfl rfl ra) ?_
 refine rn ?_;refine z8 rfl (y3 rfl fun b5=> ?_)
 first|refine z8 rfl (k8 rfl rfl rfl ?_)|refine z8 rfl (zaq rfl rfl rfl rfl (Nat.le_of_ble_eq_true rfl) ?_)
 refine j4 (zac ?_)
 refine w8 (y4 ?_)
 refine q1 ?_;refine q1 ?_;refine q1 ?_;refine q1 ?_;refine q1 ?_;refine q1 ?_;refine qq rfl rfl (zaf (out:= [iv h.evs[a].o,iv h.evs[a].v.t,iv h.evs[a].v.k]) rfl (by rfl)) ?_
 refine qq rfl rfl (zh1 (g:=iv) (enc:=zfw) (k:=(h.evs[a].o,h.evs[a].v.t,h.evs[a].v.k)) (0:Int) rfl rfl rfl) ?_
 refine rn ?_;refine z7 rfl (fun hc26=> ?_) (fun hc26=> ?_)
 ·have hn:(!(zmb h h.evs[a].o h.evs[a].v).isSome)=true:=hc26
  refine rn ?_;exact k7 rfl (.trans (.drop [_,_] _ _) (.le (Sb.nil false 2).le)) ⟨rfl,by rw [zzq hn];rfl⟩
 ·obtain ⟨r0,hr⟩:∃r,(zbt (h.evs[a].o,h.evs[a].v.t,h.evs[a].v.k) (rkM h h.os.length))=some r:=Option.isSome_iff_exists.1 (by simpa using hc26)
  have hr':zmb h h.evs[a].o h.evs[a].v=some r0:=hr
  have hb:=yqy hc (zsy (ze3 (zbh.1 hc) _ (List.getElem_mem ha)) h3).1.1 (zsy (ze3 (zbh.1 hc) _ (List.getElem_mem ha)) h3).1.2 hr'
  rw [hr,Option.getD_some]
  refine rn ?_;refine qv rfl rfl (w9 rfl rfl) ?_
  refine qq rfl rfl (zaf (out:= [iv h.evs[a].o,.list true 1 [[iv (r0+1)]]]) rfl (by rfl)) ?_
  refine qv rfl rfl (w9 rfl rfl) ?_
  refine rn ?_;exact k7 rfl (.trans (.drop [_,_] _ _) (.le (Sb.lists (rows:= [[iv h.evs[a].o,.list true 1 [[iv (r0+1)]]]]) (rows':= [[iv h.evs[a].o,.list false 1 [[iv (r0+1)]]]]) (by simp) ⟨⟨.refl _,.unfull,trivial⟩,trivial⟩).le)) ⟨rfl,by rw [zzp hr'];rfl⟩
theorem ymj (k r0:Int) (b:Nat) (W:List Res):y8 Tryz.prog 306 [iv k,pZ b] (.box b 3 [iv r0]::W) (fun r h'=>h'= .box b 3 [iv r0]::W∧r=bv (decide (k > r0))):=by
 refine z6 Tryz.func306 rfl rfl rfl ?_
 refine rn ?_;refine rq 0 ?_
 exact ⟨rfl,rfl⟩
theorem yqo (h:Hist) (la:Lim 4611686018427387904 h) (hc:u6 h=0) (a:Nat) (ha:a < h.evs.length) (h4:h.evs[a].kind=4) (rc rl rk rg:Nat) (M:List ((Int×Int)×List Int)) (hM:zoq h M) (W:List Res):y8 Tryz.prog 304 [.agg (rwP h rc rl rk rg),iv (a:Int)] (rgR rg M::rkS h rk::zbf h rl::rcR h rc:: .glob 2 156 y5:: .glob 4 305 y7:: .glob 5 308 y2:: .glob 3 246 u5::W) (fun r h'=>∃M',zoq h M'∧h'=rgR rg M'::rkS h rk::zbf h rl::rcR h rc:: .glob 2 156 y5:: .glob 4 305 y7:: .glob 5 308 y2:: .glob 3 246 u5::W∧r=zi8 (zii h h.evs[a] a)):=by
 refine z6 Tryz.func304 rfl rfl rfl ?_
 have ra:=zak (f:=evR) ha
 have hse:=yv5 ha hc h4
 have lA:=zfg hc
 have lO:=lA.os
 have lS:(zau h h.evs[a] a).length=h.os.length:=zm6 h h.evs[a] a
 refine rn ?_;refine z8 rfl (q6 rfl rfl rfl fun b2=> ?_)
 refine rn ?_;refine qv rfl rfl (y1 rfl rfl (y0.qt (y0.of_fun (ysc h la (a:Int))) ((pt5 _ _ _ _ _ _ _).trans (.cons _ ((pt5 _ _ _ _ _ _ _).trans (.cons _ ((pt5 _ _ _ _ _ _ _).trans (.cons _ (pt5 _ _ _ _ _ _ _))))))))) ?_
 rw [hse.1,hse.2]
 refine rn ?_;refine zie (zau h h.evs[a] a).length (fun j (z:SV×List ((Int×Int)×List Int))=>zoq h z.2) (fun j z=>⟨[(23,iv j),(5,.v z.1.v),(1,iv (a:Int)),(2,pZ b2),(21,zft (zau h h.evs[a] a)),(22,iv ((zau h h.evs[a] a).map zap).length)],.row z.1.v 2 177 ((((zau h h.evs[a] a).take j).filterMap (zdz h h.evs[a])).map zqo):: .box b2 119 (rwP h rc rl rk rg)::rgR rg z.2::rkS h rk::zbf h rl::rcR h rc:: .glob 2 156 y5:: .glob 4 305 y7:: .glob 5 308 y2:: .glob 3 246 u5::W,[]⟩) (⟨none,0,0⟩,M) hM (v7 (zam 2 177) es) ?_
 intro j z lj hz
 refine rn ?_;refine z7 rfl (fun hc24=> ?_) (fun hc24=> ?_)
 ·have hj:=za4 hc24
  have rj:=zak (f:=zap) hj
  have bl:=ys9 (zdz h h.evs[a]) (zau h h.evs[a] a) j
  have bc:=yk9 hc h.evs[a].p (zau h h.evs[a] a)[j].o
  refine rn ?_;refine z8 rfl (y3 rfl fun b9=> ?_)
  first|refine z8 rfl (k8 rfl rfl rfl ?_)|refine z8 rfl (zaq rfl rfl rfl rfl (Nat.le_of_ble_eq_true rfl) ?_)
  refine j4 (zac ?_)
  refine w8 (y4 ?_)
  refine q1 ?_;refine q1 ?_;refine q1 ?_;refine q1 ?_;refine q1 ?_;refine q1 ?_;refine qq rfl rfl (zaf (out:= [iv (zau h h.evs[a] a)[j].o,iv (zau h h.evs[a] a)[j].v.t,iv (zau h h.evs[a] a)[j].v.k]) rfl (by rfl)) ?_
  refine qq rfl rfl (zh1 (g:=iv) (enc:=zfw) (k:=((zau h h.evs[a] a)[j].o,(zau h h.evs[a] a)[j].v.t,(zau h h.evs[a] a)[j].v.k)) (0:Int) rfl rfl rfl) ?_
  refine rn ?_;refine z8 rfl (y3 rfl fun b10=> ?_)
  refine rn ?_;refine k9 10 rfl ?_
  refine dq rfl rfl qrA ?_;refine dq rfl rfl qrA ?_;refine dq rfl rfl qrA ?_;refine dq rfl rfl qrA ?_;refine dq rfl rfl qrA ?_;refine dq rfl rfl (zdj rfl rfl ra) ?_
  refine rn ?_;refine z8 rfl (u3 rfl rfl (y0.fr4 (y0.of_fun (yup h la hc h.evs[a].p (zau h h.evs[a] a)[j].o rc rl rk rg z.2 hz W))) rfl ?_)
  rintro _ _ ⟨_,rfl,M2,hM2,rfl,rfl⟩
  refine rn ?_;refine qv rfl rfl (y1 rfl rfl (y0.of_fun (zl2 (chL h h.evs[a].p (zau h h.evs[a] a)[j].o) _ (fun k=>decide (k > ((zbt ((zau h h.evs[a] a)[j].o,(zau h h.evs[a] a)[j].v.t,(zau h h.evs[a] a)[j].v.k) (rkM h h.os.length)).getD 0))) (.box b10 3 [iv ((zbt ((zau h h.evs[a] a)[j].o,(zau h h.evs[a] a)[j].v.t,(zau h h.evs[a] a)[j].v.k) (rkM h h.os.length)).getD 0)]:: .box b9 70 (zap (zau h h.evs[a] a)[j]):: .row z.1.v 2 177 ((((zau h h.evs[a] a).take j).filterMap (zdz h h.evs[a])).map zqo):: .box b2 119 (rwP h rc rl rk rg)::rgR rg M2::rkS h rk::zbf h rl::rcR h rc:: .glob 2 156 y5:: .glob 4 305 y7:: .glob 5 308 y2:: .glob 3 246 u5::W) (fun k _=>y0.of_acall (fs:= []) (cs:= [pZ b10]) (ymj k ((zbt ((zau h h.evs[a] a)[j].o,(zau h h.evs[a] a)[j].v.t,(zau h h.evs[a] a)[j].v.k) (rkM h h.os.length)).getD 0) b10 _)) (by omega)))) ?_
  refine rn ?_;refine w6 (fun hg9_1=> ?_) (fun hg9_1=> ?_)
  ·refine rn ?_;refine z7 rfl (fun hc56=> ?_) (fun hc56=> ?_)
   ·have q9:decide ((zbx (fun k=>decide (k > ((zbt ((zau h h.evs[a] a)[j].o,(zau h h.evs[a] a)[j].v.t,(zau h h.evs[a] a)[j].v.k) (rkM h h.os.length)).getD 0))) 0 (chL h h.evs[a].p (zau h h.evs[a] a)[j].o)) ≥ 0)=true:=by first|exact hc56|(have q:=hc56;rw [hg9_1] at q;simpa using q)
    have q8:=oT q9
    obtain ⟨n,hn⟩:∃n:Nat,(zbx (fun k=>decide (k > ((zbt ((zau h h.evs[a] a)[j].o,(zau h h.evs[a] a)[j].v.t,(zau h h.evs[a] a)[j].v.k) (rkM h h.os.length)).getD 0))) 0 (chL h h.evs[a].p (zau h h.evs[a] a)[j].o))=n:=⟨(zbx (fun k=>decide (k > ((zbt ((zau h h.evs[a] a)[j].o,(zau h h.evs[a] a)[j].v.t,(zau h h.evs[a] a)[j].v.k) (rkM h h.os.length)).getD 0))) 0 (chL h h.evs[a].p (zau h h.evs[a] a)[j].o)).toNat,by omega⟩
    obtain ⟨r0,hr⟩:∃r,zmb h (zau h h.evs[a] a)[j].o (zau h h.evs[a] a)[j].v=some r:=Option.isSome_iff_exists.1 hg9_1
    obtain ⟨hsr,hov⟩:=ywo (e:=h.evs[a]) (n:=n) hr (by rw [←hn];show _=zbx (fun k=>decide (k > (zmb h (zau h h.evs[a] a)[j].o (zau h h.evs[a] a)[j].v).getD 0)) 0 _;rw [hr];rfl)
    rw [hn]
    have hnl:n≤(chL h h.evs[a].p (zau h h.evs[a] a)[j].o).length:=by have:=(zrh (fun k=>decide (k > ((zbt ((zau h h.evs[a] a)[j].o,(zau h h.evs[a] a)[j].v.t,(zau h h.evs[a] a)[j].v.k) (rkM h h.os.length)).getD 0))) (chL h h.evs[a].p (zau h h.evs[a] a)[j].o) 0).2;omega
    refine k9 8 rfl ?_
    refine dq rfl rfl qrA ?_;refine dq rfl rfl qrA ?_;refine dq rfl rfl qrA ?_;refine dq rfl rfl qrA ?_;refine dq rfl rfl qrA ?_;refine dq rfl rfl (zj3 (zd7 (l:=n) rfl rfl (by rw [oM];exact hnl)) (show AV.list false 1 _=zbc (rwOver h h.evs[a].p (zau h h.evs[a] a)[j].o r0) by rw [←List.map_drop,←hov];rfl)) ?_
    refine dq rfl rfl (zaf (out:=zqo ((zau h h.evs[a] a)[j].o,rwOver h h.evs[a].p (zau h h.evs[a] a)[j].o r0)) rfl (by rfl)) ?_
    refine dv rfl rfl (w9 rfl rfl) ?_
    refine rn ?_;refine z8 rfl (q7 rfl rfl (by simp only [oM,List.length_cons,List.length_nil];omega) rfl (fun s65=> ?_) (yrx [((zau h h.evs[a] a)[j].o,rwOver h h.evs[a].p (zau h h.evs[a] a)[j].o r0)]))
    refine u9 s65 fun sv hsv=> ?_
    subst hsv
    refine rn ?_;first|exact ⟨hj,(sv,M2),hM2,by rw [ys8 hj hsr,List.map_append];exact eA⟩|exact ⟨hj,(z.1,M2),hM2,by rw [yox hj hsr];exact eA⟩
   ·have hsr:zdz h h.evs[a] (zau h h.evs[a] a)[j]=none:=yv6 (by first|exact .inr hc56|exact .inl hg9_1)
    refine rn ?_;first|exact ⟨hj,(sv,M2),hM2,by rw [ys8 hj hsr,List.map_append];exact eA⟩|exact ⟨hj,(z.1,M2),hM2,by rw [yox hj hsr];exact eA⟩
  ·refine rn ?_;refine zfh rfl ?_;have hsr:zdz h h.evs[a] (zau h h.evs[a] a)[j]=none:=yv6 (by first|exact .inr hc56|exact .inl hg9_1)
   refine rn ?_;first|exact ⟨hj,(sv,M2),hM2,by rw [ys8 hj hsr,List.map_append];exact eA⟩|exact ⟨hj,(z.1,M2),hM2,by rw [yox hj hsr];exact eA⟩
 ·have qj:=za5 hc24 lj
  refine rn ?_;exact k7 rfl (.trans zct (.drop [_] _ _)) ⟨_,hz,rfl,by rw [qj,List.take_length];rfl⟩
end Go.Proofs
