/- The walk of the reference's Place. Conditions: none. -/
import Derived.Test.YtfmcbdjnmlcacaaGreatDoorRJuI
set_option maxHeartbeats 4000000
set_option linter.unusedSectionVars false
set_option linter.unusedSimpArgs false
set_option linter.unusedVariables false
set_option maxRecDepth 10000
namespace Go.Proofs
open Go Go.Ab
attribute [local irreducible] QR QV OE zct aw zdf zch zbm za3 thn zfl zd0 jch zfc
open Go.H
theorem ygy (h:Hist) (rl:Nat) (h1:1≤rl) (h10:rl≤10) (la:Lim 1000000 h):y8 Tryz.prog 168 [.agg (w6 h),iv rl] [] (fun r h'=>h'= []∧r=iv (zxa (zfh h rl))):=by
 refine z6 Tryz.func168 rfl rfl rfl ?_
 refine rn ?_;refine z8 rfl (w9 rfl rfl rfl fun b2=> ?_)
 refine rn0 ?_;refine w8 (y3 ?_)
 refine rn0 ?_;refine zt9 (⟨[(5,iv (zg4 h rl)),(1,iv rl),(2,pZ b2)],.box b2 28 (w6 h):: [],[]⟩) ?_ ?_
 ·refine rn ?_;refine z7 rfl (fun hc11=> ?_) (fun hc11=> ?_)
  ·obtain rfl:rl=7:=by have q:=hc11;simp at q;omega
   refine rn ?_;first|(rw [yc8];exact es)|(rw [yc7];exact es)|(rw [yc6];exact es)|(rw [zs7];exact es)|(rw [yc5 n7 n8 n9 n10];exact es)
  ·have n7:rl≠7:=by intro q;subst q;exact absurd hc11 (by decide)
   refine rn ?_;refine z7 rfl (fun hc16=> ?_) (fun hc16=> ?_)
   ·obtain rfl:rl=8:=by have q:=hc16;simp at q;omega
    refine rn ?_;first|(rw [yc8];exact es)|(rw [yc7];exact es)|(rw [yc6];exact es)|(rw [zs7];exact es)|(rw [yc5 n7 n8 n9 n10];exact es)
   ·have n8:rl≠8:=by intro q;subst q;exact absurd hc16 (by decide)
    refine rn ?_;refine z7 rfl (fun hc21=> ?_) (fun hc21=> ?_)
    ·obtain rfl:rl=9:=by have q:=hc21;simp at q;omega
     refine rn ?_;first|(rw [yc8];exact es)|(rw [yc7];exact es)|(rw [yc6];exact es)|(rw [zs7];exact es)|(rw [yc5 n7 n8 n9 n10];exact es)
    ·have n9:rl≠9:=by intro q;subst q;exact absurd hc21 (by decide)
     refine rn ?_;refine z7 rfl (fun hc26=> ?_) (fun hc26=> ?_)
     ·obtain rfl:rl=10:=by have q:=hc26;simp at q;omega
      refine rn ?_;first|(rw [yc8];exact es)|(rw [yc7];exact es)|(rw [yc6];exact es)|(rw [zs7];exact es)|(rw [yc5 n7 n8 n9 n10];exact es)
     ·have n10:rl≠10:=by intro q;subst q;exact absurd hc26 (by decide)
      refine rn ?_;first|(rw [yc8];exact es)|(rw [yc7];exact es)|(rw [yc6];exact es)|(rw [zs7];exact es)|(rw [yc5 n7 n8 n9 n10];exact es)
 ·refine rn ?_;refine zcu (zg4 h rl) (fun k:Nat=>∀j,j < k→zhe h rl j=false) (fun k=> [(32,iv k)]) [(1,_),(2,_),(31,_)] (fun j q=>absurd q (Nat.not_lt_zero _)) ?_
  intro k lk zk
  refine rn ?_;refine z7 rfl (fun hc33=> ?_) (fun hc33=> ?_)
  ·have hk:k < zg4 h rl:=by have q:=hc33;simp at q;omega
   have mb:zg4 h rl≤1000000:=yh9 la
   refine rn ?_;refine qv rfl rfl (y1 rfl rfl (j4 (yb0 h rl k h1 h10 hk la) (Sbs.refl _))) ?_
   refine rn ?_;refine z7 rfl (fun hc38=> ?_) (fun hc38=> ?_)
   ·refine rn ?_;refine rq 1 ?_
    exact ⟨rfl,by rw [yce hk hc38 zk];rfl⟩
   ·refine rn ?_;exact ⟨hk,yle zk hc38,eA⟩
  ·have qk:k=zg4 h rl:=by have q:=hc33;simp at q;omega
   refine rn ?_;refine rq 1 ?_
   exact ⟨rfl,by rw [zzj (qk ▸ zk)];rfl⟩
theorem ycg {o:Option Nat} (h:decide (zxa o ≥ 0)=true):∃n,o=some n:=by
 cases o with
 |none=>exact absurd h (by decide)
 |some n=>exact ⟨n,rfl⟩
theorem ycf {o:Option Nat} (h:decide (zxa o ≥ 0)=false):o=none:=by
 cases o with
 |none=>rfl
 |some n=>have:=oF h;simp [zxa] at this
theorem zy2 (h:Hist) (la:Lim 1000000 h):y8 Tryz.prog 124 [.agg (w6 h)] [] (fun r h'=>h'= []∧r= .tup [.agg (yvn (za7 (zfh h) rules10)),bv (za7 (zfh h) rules10).isSome]):=by
 refine z6 Tryz.func124 rfl rfl rfl ?_
 refine rn ?_;refine z8 rfl (w9 rfl rfl rfl fun b1=> ?_)
 refine z8 rfl (y4 rfl fun b2=> ?_)
 refine rn ?_;refine zhf (fun k:Nat=>(1≤k∧k≤11)∧za7 (zfh h) rules10=za7 (zfh h) (rules10.drop (k - 1))) (fun k=>⟨[(4,iv k),(1,pZ b1),(2,pZ b2)],(.box b2 158 [iv 0,iv 0]:: .box b1 28 (w6 h):: []),[]⟩) (fun k=>11 - k) 1 ⟨by omega,rfl⟩ es ?_
 rintro k ⟨⟨k1,k3⟩,zk⟩
 refine rn ?_;refine z7 rfl (fun hc7=> ?_) (fun hc7=> ?_)
 ·have k2:k≤10:=by have:=oT hc7;omega
  refine rn ?_;refine qv rfl rfl (y1 rfl rfl (j4 (ygy h k k1 k2 la) (Sbs.refl _))) ?_
  refine rn ?_;refine z7 rfl (fun hc14=> ?_) (fun hc14=> ?_)
  ·refine rn ?_;exact ze6 (.cons _ _ _ _ (.agg _ _ _ _ _ _ _ rfl inferInstance inferInstance inferInstance rfl) (.cons _ _ _ _ (.tmp _ _ rfl) .nil)) (.drop [_,_] _ _) ⟨rfl,by
    obtain ⟨n,hp⟩:=ycg hc14
    rw [ztn k1 k2 zk hp,hp];rfl⟩
  ·refine rn ?_;exact ⟨k+1,⟨by omega,zpq k1 k2 zk (ycf hc14)⟩,eA,by omega⟩
 ·have k2:11≤k:=by have:=oF hc7;omega
  refine rn ?_;exact ze6 (.cons _ _ _ _ (.agg _ _ _ _ _ _ _ rfl inferInstance inferInstance inferInstance rfl) (.cons _ _ _ _ (.tmp _ _ rfl) .nil)) (.drop [_,_] _ _) ⟨rfl,by rw [zpr k2 k3 zk];rfl⟩
theorem ywq (l:Int):y8 Tryz.prog 215 [iv l] [] (fun r h'=>h'= []∧r=bv (ziw l)):=by
 refine z6 Tryz.func215 rfl rfl rfl ?_
 refine rn ?_;refine w7 (fun hg1_2=> ?_) (fun hg1_2=> ?_)
 ·refine rn ?_;exact k8 rfl (.refl _ _) ⟨rfl,congrArg bv (by first|(simp only [ziw, *,Bool.true_and,Bool.false_and,Bool.and_false,Bool.and_true,Bool.true_or,Bool.or_false,Bool.false_or,Bool.or_true,if_true,if_false,Bool.false_eq_true,Bool.not_true,Bool.not_false];done)|(simp_all [ziw];done)|(simp_all [ziw] <;> omega))⟩
 ·refine rn ?_;exact k8 rfl (.refl _ _) ⟨rfl,congrArg bv (by first|(simp only [ziw, *,Bool.true_and,Bool.false_and,Bool.and_false,Bool.and_true,Bool.true_or,Bool.or_false,Bool.false_or,Bool.or_true,if_true,if_false,Bool.false_eq_true,Bool.not_true,Bool.not_false];done)|(simp_all [ziw];done)|(simp_all [ziw] <;> omega))⟩
theorem bvz0_4648 {a b:Bool} (h:a=b:=by first|(simp only [ztc, *,Bool.true_and,Bool.false_and,Bool.and_false,Bool.and_true,Bool.true_or,Bool.or_false,Bool.false_or,Bool.or_true,if_true,if_false,Bool.false_eq_true,Bool.not_true,Bool.not_false];done)|(simp_all [ztc];done)|(simp_all [ztc] <;> omega)):bv a=bv b:=congrArg bv h
theorem zy6 (c:Int):y8 Tryz.prog 257 [.v (.int .i32 c)] [] (fun r h'=>h'= []∧r=bv (ztc c)):=by
 refine z6 Tryz.func257 rfl rfl rfl ?_
 refine rn ?_;refine w7 (fun hg1_2=> ?_) (fun hg1_2=> ?_)
 ·refine rn ?_;refine w7 (fun hg1_6=> ?_) (fun hg1_6=> ?_)
  ·refine rn ?_;exact k8 rfl (.refl _ _) ⟨rfl,bvz0_4648⟩
  ·refine rn ?_;refine w7 (fun hg1_9=> ?_) (fun hg1_9=> ?_)
   ·refine rn ?_;refine w7 (fun hg1_14=> ?_) (fun hg1_14=> ?_)
    ·refine rn ?_;exact k8 rfl (.refl _ _) ⟨rfl,bvz0_4648⟩
    ·refine rn ?_;refine w7 (fun hg1_18=> ?_) (fun hg1_18=> ?_)
     ·refine rn ?_;exact k8 rfl (.refl _ _) ⟨rfl,bvz0_4648⟩
     ·refine rn ?_;exact k8 rfl (.refl _ _) ⟨rfl,bvz0_4648⟩
   ·refine rn ?_;refine w7 (fun hg1_18=> ?_) (fun hg1_18=> ?_)
    ·refine rn ?_;exact k8 rfl (.refl _ _) ⟨rfl,bvz0_4648⟩
    ·refine rn ?_;exact k8 rfl (.refl _ _) ⟨rfl,bvz0_4648⟩
 ·refine rn ?_;refine w7 (fun hg1_9=> ?_) (fun hg1_9=> ?_)
  ·refine rn ?_;refine w7 (fun hg1_14=> ?_) (fun hg1_14=> ?_)
   ·refine rn ?_;exact k8 rfl (.refl _ _) ⟨rfl,bvz0_4648⟩
   ·refine rn ?_;refine w7 (fun hg1_18=> ?_) (fun hg1_18=> ?_)
    ·refine rn ?_;exact k8 rfl (.refl _ _) ⟨rfl,bvz0_4648⟩
    ·refine rn ?_;exact k8 rfl (.refl _ _) ⟨rfl,bvz0_4648⟩
  ·refine rn ?_;refine w7 (fun hg1_18=> ?_) (fun hg1_18=> ?_)
   ·refine rn ?_;exact k8 rfl (.refl _ _) ⟨rfl,bvz0_4648⟩
   ·refine rn ?_;exact k8 rfl (.refl _ _) ⟨rfl,bvz0_4648⟩
theorem zsr (c:Int):y8 Tryz.prog 258 [.v (.int .i32 c)] [] (fun r h'=>h'= []∧r=bv (zkf c)):=by
 refine z6 Tryz.func258 rfl rfl rfl ?_
 refine rn ?_;refine w7 (fun hg1_2=> ?_) (fun hg1_2=> ?_)
 ·refine rn ?_;exact k8 rfl (.refl _ _) ⟨rfl,congrArg bv (by first|(simp only [zkf, *,Bool.true_and,Bool.false_and,Bool.and_false,Bool.and_true,Bool.true_or,Bool.or_false,Bool.false_or,Bool.or_true,if_true,if_false,Bool.false_eq_true,Bool.not_true,Bool.not_false];done)|(simp_all [zkf];done)|(simp_all [zkf] <;> omega))⟩
 ·refine rn ?_;exact k8 rfl (.refl _ _) ⟨rfl,congrArg bv (by first|(simp only [zkf, *,Bool.true_and,Bool.false_and,Bool.and_false,Bool.and_true,Bool.true_or,Bool.or_false,Bool.false_or,Bool.or_true,if_true,if_false,Bool.false_eq_true,Bool.not_true,Bool.not_false];done)|(simp_all [zkf];done)|(simp_all [zkf] <;> omega))⟩
theorem yqp {f:Bool} (h:Hist) (l:List Int) (hl:l.length≤4611686018427387904):y8 Tryz.prog 165 [.agg (w6 h),.list f 1 (l.map zar)] [] (fun r h'=>h'= []∧r=bv (zgy h l)):=by
 refine z6 Tryz.func165 rfl rfl rfl ?_
 refine rn ?_;refine z8 rfl (w9 rfl rfl rfl fun b2=> ?_)
 refine rn ?_;refine zai (fun k:Nat=>k≤l.length∧l.all (fun t=>isB t h.ts.length)=(l.drop k).all (fun t=>isB t h.ts.length)) (fun k=>⟨[(9,iv k),(8,iv (l.map zar).length),(7,.list f 1 (l.map zar)),(1,.list f 1 (l.map zar)),(2,pZ b2)],[.box b2 28 (w6 h)],[]⟩) (fun k=>l.length - k) 0 ⟨Nat.zero_le _,by simp⟩
  (u3 (.cons _ _ _ rfl (.cons _ _ _ rfl (.cons _ _ _ rfl (.cons _ _ _ rfl (.cons _ _ _ rfl (.nil))))))) ?_
 rintro k ⟨hk,hz⟩
 refine rn ?_;refine z7 rfl (fun hc10=> ?_) (fun hc10=> ?_)
 ·have hk2:k < l.length:=by simpa using hc10
  have hrow:(l.map zar)[k]? =some (zar l[k]):=by simp [hk2]
  have hd:=List.drop_eq_getElem_cons hk2
  refine rn ?_;refine qv rfl rfl (y1 rfl rfl (j4 (zio _ _) (Sbs.refl _))) ?_
  refine rn ?_;refine z7 rfl (fun hc18=> ?_) (fun hc18=> ?_)
  ·have hx:isB l[k] h.ts.length=false:=by simpa using hc18
   refine rn ?_;exact k8 rfl (.drop [_] _ _) ⟨rfl,congrArg bv (by rw [zgy,hz,hd,List.all_cons,hx,Bool.false_and];rfl)⟩
  ·have hx:isB l[k] h.ts.length=true:=by simpa using hc18
   refine rn ?_;exact ⟨k+1,⟨by omega,by rw [hz,hd,List.all_cons,hx,Bool.true_and]⟩,(u3 (.cons _ _ _ rfl (.cons _ _ _ rfl (.cons _ _ _ rfl (.cons _ _ _ rfl (.cons _ _ _ rfl (.nil))))))),by omega⟩
 ·have hk3:k=l.length:=by
   have:l.length≤k:=by simpa using hc10
   omega
  refine rn ?_;exact k8 rfl (.drop [_] _ _) ⟨rfl,congrArg bv (by rw [zgy,hz,hk3,List.drop_length];simp)⟩
theorem bvz1_3829 {a b:Bool} (h:a=b:=by first|(simp only [zkr,zwb, *,Bool.true_and,Bool.false_and,Bool.and_false,Bool.and_true,Bool.true_or,Bool.or_false,Bool.false_or,Bool.or_true,if_true,if_false,Bool.false_eq_true,Bool.not_true,Bool.not_false];done)|(simp_all [zkr,zwb];done)|(simp_all [zkr,zwb] <;> omega)):bv a=bv b:=congrArg bv h
theorem zy0 (h:Hist) (e:Ev) (hl:e.scan.length≤4611686018427387904):y8 Tryz.prog 164 [.agg (w6 h),.agg (evR e)] [] (fun r h'=>h'= []∧r=bv (zkr h e)):=by
 refine z6 Tryz.func164 rfl rfl rfl ?_
 refine rn ?_;refine z8 rfl (w9 rfl rfl rfl fun b2=> ?_)
 refine z8 rfl (w9 rfl rfl rfl fun b3=> ?_)
 refine rn ?_;refine qv rfl rfl (y1 rfl rfl (j4 (zio _ _) (Sbs.refl _))) ?_
 refine rn ?_;refine z7 rfl (fun hc16=> ?_) (fun hc16=> ?_)
 ·refine rn ?_;exact k8 rfl (.drop [_,_] _ _) ⟨rfl,bvz1_3829⟩
 ·refine rn ?_;refine z8 rfl (y4 rfl fun b6=> ?_)
  refine rn ?_;refine z7 rfl (fun hc24=> ?_) (fun hc24=> ?_)
  ·refine rn ?_;refine zen 6 [(b6,60,_)] rfl (List.perm_append_comm (l₁:= [_])) ?_
   refine rn ?_;refine dw 0 rfl rfl rfl rfl rfl (Nat.le_of_ble_eq_true rfl) ?_
   refine rn2 ?_;show zct _ _ _ _ _ _ ⟨_,.box b6 60 [iv e.kind,iv e.t,iv e.s,iv 0,iv 0,iv 0,iv 0,iv 0,.v (.slice none 0 0)]:: .box b3 60 (evR e):: .box b2 28 (w6 h):: [],_⟩
   refine rn0 ?_;refine w8 ?_;show aw _ _ _ _ _ ⟨_,.box b6 60 [iv e.kind,iv e.t,iv e.s,iv e.l,iv 0,iv 0,iv 0,iv 0,.v (.slice none 0 0)]:: .box b3 60 (evR e):: .box b2 28 (w6 h):: [],_⟩
   refine rn ?_;refine qv rfl rfl (y1 rfl rfl (j4 (zgz ⟨e.kind,e.t,e.s,e.l,0,⟨0,0⟩,0,[]⟩ e (by simp [hl]) hl) (by exact ⟨(by exact Sb.aggs (by exact ⟨.refl _,.refl _,.refl _,.refl _,.refl _,.refl _,.refl _,.refl _,.nil _ _,trivial⟩)),.refl _,trivial⟩))) ?_
   refine rn ?_;refine w7 (fun hg8_3=> ?_) (fun hg8_3=> ?_)
   ·refine rn ?_;refine qv rfl rfl (y1 rfl rfl (j4 (zio _ _) (Sbs.refl _))) ?_
    refine rn ?_;refine w7 (fun hg8_11=> ?_) (fun hg8_11=> ?_)
    ·refine rn ?_;refine qv rfl rfl (y1 rfl rfl (j4 (ywq _) (Sbs.refl _))) ?_
     refine rn ?_;exact k8 rfl (.drop [_,_,_] _ _) ⟨rfl,bvz1_3829⟩
    ·refine rn ?_;exact k8 rfl (.drop [_,_,_] _ _) ⟨rfl,bvz1_3829⟩
   ·refine rn ?_;exact k8 rfl (.drop [_,_,_] _ _) ⟨rfl,bvz1_3829⟩
  ·refine rn ?_;refine z7 rfl (fun hc48=> ?_) (fun hc48=> ?_)
   ·refine rn ?_;refine z7 rfl (fun hc48=> ?_) (fun hc48=> ?_)
    ·refine rn ?_;refine zen 6 [(b6,60,_)] rfl (List.perm_append_comm (l₁:= [_])) ?_
     refine rn ?_;refine dw 0 rfl rfl rfl rfl rfl (Nat.le_of_ble_eq_true rfl) ?_
     refine rn2 ?_;show zct _ _ _ _ _ _ ⟨_,.box b6 60 [iv e.kind,iv e.t,iv 0,iv 0,iv e.o,iv 0,iv 0,iv 0,.v (.slice none 0 0)]:: .box b3 60 (evR e):: .box b2 28 (w6 h):: [],_⟩
     refine rn0 ?_;refine w8 ?_;refine w8 ?_;show aw _ _ _ _ _ ⟨_,.box b6 60 [iv e.kind,iv e.t,iv 0,iv 0,iv e.o,iv e.v.t,iv e.v.k,iv 0,.v (.slice none 0 0)]:: .box b3 60 (evR e):: .box b2 28 (w6 h):: [],_⟩
     refine rn ?_;refine w7 (fun hg12_3=> ?_) (fun hg12_3=> ?_)
     ·refine rn ?_;refine w7 (fun hg12_8=> ?_) (fun hg12_8=> ?_)
      ·refine rn ?_;refine zfe rfl ?_;refine rn ?_;exact k8 rfl (.drop [_,_,_] _ _) ⟨rfl,bvz1_3829⟩
      ·refine rn ?_;refine z7 rfl (fun hc73=> ?_) (fun hc73=> ?_)
       ·refine rn ?_;exact k8 rfl (.drop [_,_,_] _ _) ⟨rfl,bvz1_3829⟩
       ·refine rn ?_;refine qv rfl rfl (y1 rfl rfl (j4 (zgz ⟨e.kind,e.t,0,0,e.o,e.v,0,[]⟩ e (by simp [hl]) hl) (by exact ⟨(by exact Sb.aggs (by exact ⟨.refl _,.refl _,.refl _,.refl _,.refl _,.refl _,.refl _,.refl _,.nil _ _,trivial⟩)),.refl _,trivial⟩))) ?_
        refine rn ?_;refine w7 (fun hg14_3=> ?_) (fun hg14_3=> ?_)
        ·refine rn ?_;refine qv rfl rfl (y1 rfl rfl (j4 (zio _ _) (Sbs.refl _))) ?_
         refine rn ?_;refine w7 (fun hg14_11=> ?_) (fun hg14_11=> ?_)
         ·refine rn ?_;refine qv rfl rfl (y1 rfl rfl (j4 (zgi e.v _) (Sbs.refl _))) ?_
          refine rn ?_;exact k8 rfl (.drop [_,_,_] _ _) ⟨rfl,bvz1_3829⟩
         ·refine rn ?_;exact k8 rfl (.drop [_,_,_] _ _) ⟨rfl,bvz1_3829⟩
        ·refine rn ?_;exact k8 rfl (.drop [_,_,_] _ _) ⟨rfl,bvz1_3829⟩
     ·refine rn ?_;refine zff rfl ?_;refine rn ?_;refine qv rfl rfl (y1 rfl rfl (j4 (zgz ⟨e.kind,e.t,0,0,e.o,e.v,0,[]⟩ e (by simp [hl]) hl) (by exact ⟨(by exact Sb.aggs (by exact ⟨.refl _,.refl _,.refl _,.refl _,.refl _,.refl _,.refl _,.refl _,.nil _ _,trivial⟩)),.refl _,trivial⟩))) ?_
      refine rn ?_;refine w7 (fun hg14_3=> ?_) (fun hg14_3=> ?_)
      ·refine rn ?_;refine qv rfl rfl (y1 rfl rfl (j4 (zio _ _) (Sbs.refl _))) ?_
       refine rn ?_;refine w7 (fun hg14_11=> ?_) (fun hg14_11=> ?_)
       ·refine rn ?_;refine qv rfl rfl (y1 rfl rfl (j4 (zgi e.v _) (Sbs.refl _))) ?_
        refine rn ?_;exact k8 rfl (.drop [_,_,_] _ _) ⟨rfl,bvz1_3829⟩
       ·refine rn ?_;exact k8 rfl (.drop [_,_,_] _ _) ⟨rfl,bvz1_3829⟩
      ·refine rn ?_;exact k8 rfl (.drop [_,_,_] _ _) ⟨rfl,bvz1_3829⟩
    ·first|cases hc48|exact absurd hc48 (by decide)|(exfalso;simp_all;done)
   ·refine rn ?_;refine z7 rfl (fun hc48=> ?_) (fun hc48=> ?_)
    ·refine rn ?_;refine zen 6 [(b6,60,_)] rfl (List.perm_append_comm (l₁:= [_])) ?_
     refine rn ?_;refine dw 0 rfl rfl rfl rfl rfl (Nat.le_of_ble_eq_true rfl) ?_
     refine rn2 ?_;show zct _ _ _ _ _ _ ⟨_,.box b6 60 [iv e.kind,iv e.t,iv 0,iv 0,iv e.o,iv 0,iv 0,iv 0,.v (.slice none 0 0)]:: .box b3 60 (evR e):: .box b2 28 (w6 h):: [],_⟩
     refine rn0 ?_;refine w8 ?_;refine w8 ?_;show aw _ _ _ _ _ ⟨_,.box b6 60 [iv e.kind,iv e.t,iv 0,iv 0,iv e.o,iv e.v.t,iv e.v.k,iv 0,.v (.slice none 0 0)]:: .box b3 60 (evR e):: .box b2 28 (w6 h):: [],_⟩
     refine rn ?_;refine w7 (fun hg12_3=> ?_) (fun hg12_3=> ?_)
     ·refine rn ?_;refine w7 (fun hg12_8=> ?_) (fun hg12_8=> ?_)
      ·refine rn ?_;refine zfe rfl ?_;refine rn ?_;exact k8 rfl (.drop [_,_,_] _ _) ⟨rfl,bvz1_3829⟩
      ·refine rn ?_;refine z7 rfl (fun hc73=> ?_) (fun hc73=> ?_)
       ·refine rn ?_;exact k8 rfl (.drop [_,_,_] _ _) ⟨rfl,bvz1_3829⟩
       ·refine rn ?_;refine qv rfl rfl (y1 rfl rfl (j4 (zgz ⟨e.kind,e.t,0,0,e.o,e.v,0,[]⟩ e (by simp [hl]) hl) (by exact ⟨(by exact Sb.aggs (by exact ⟨.refl _,.refl _,.refl _,.refl _,.refl _,.refl _,.refl _,.refl _,.nil _ _,trivial⟩)),.refl _,trivial⟩))) ?_
        refine rn ?_;refine w7 (fun hg14_3=> ?_) (fun hg14_3=> ?_)
        ·refine rn ?_;refine qv rfl rfl (y1 rfl rfl (j4 (zio _ _) (Sbs.refl _))) ?_
         refine rn ?_;refine w7 (fun hg14_11=> ?_) (fun hg14_11=> ?_)
         ·refine rn ?_;refine qv rfl rfl (y1 rfl rfl (j4 (zgi e.v _) (Sbs.refl _))) ?_
          refine rn ?_;exact k8 rfl (.drop [_,_,_] _ _) ⟨rfl,bvz1_3829⟩
         ·refine rn ?_;exact k8 rfl (.drop [_,_,_] _ _) ⟨rfl,bvz1_3829⟩
        ·refine rn ?_;exact k8 rfl (.drop [_,_,_] _ _) ⟨rfl,bvz1_3829⟩
     ·refine rn ?_;refine zff rfl ?_;refine rn ?_;refine qv rfl rfl (y1 rfl rfl (j4 (zgz ⟨e.kind,e.t,0,0,e.o,e.v,0,[]⟩ e (by simp [hl]) hl) (by exact ⟨(by exact Sb.aggs (by exact ⟨.refl _,.refl _,.refl _,.refl _,.refl _,.refl _,.refl _,.refl _,.nil _ _,trivial⟩)),.refl _,trivial⟩))) ?_
      refine rn ?_;refine w7 (fun hg14_3=> ?_) (fun hg14_3=> ?_)
      ·refine rn ?_;refine qv rfl rfl (y1 rfl rfl (j4 (zio _ _) (Sbs.refl _))) ?_
       refine rn ?_;refine w7 (fun hg14_11=> ?_) (fun hg14_11=> ?_)
       ·refine rn ?_;refine qv rfl rfl (y1 rfl rfl (j4 (zgi e.v _) (Sbs.refl _))) ?_
        refine rn ?_;exact k8 rfl (.drop [_,_,_] _ _) ⟨rfl,bvz1_3829⟩
       ·refine rn ?_;exact k8 rfl (.drop [_,_,_] _ _) ⟨rfl,bvz1_3829⟩
      ·refine rn ?_;exact k8 rfl (.drop [_,_,_] _ _) ⟨rfl,bvz1_3829⟩
    ·refine rn ?_;refine z7 rfl (fun hc91=> ?_) (fun hc91=> ?_)
     ·refine rn ?_;refine zen 6 [(b6,60,_)] rfl (List.perm_append_comm (l₁:= [_])) ?_
      refine rn ?_;refine dw 0 rfl rfl rfl rfl rfl (Nat.le_of_ble_eq_true rfl) ?_
      refine rn2 ?_;show zct _ _ _ _ _ _ ⟨_,.box b6 60 [iv e.kind,iv e.t,iv 0,iv 0,iv 0,iv 0,iv 0,iv e.p,.v (.slice none 0 0)]:: .box b3 60 (evR e):: .box b2 28 (w6 h):: [],_⟩
      refine rn0 ?_;refine w8 ?_;refine w8 ?_;show aw _ _ _ _ _ ⟨_,.box b6 60 [iv e.kind,iv e.t,iv 0,iv 0,iv 0,iv 0,iv 0,iv e.p,zfq e.scan]:: .box b3 60 (evR e):: .box b2 28 (w6 h):: [],_⟩
      refine rn ?_;refine zai (fun k:Nat=>k≤e.scan.length∧e.scan.all (zb8 h)=(e.scan.drop k).all (zb8 h)) (fun k=>⟨[(102,iv k),(101,iv (e.scan.map zaq).length),(100,zfq e.scan),(2,pZ b2),(3,pZ b3),(6,pZ b6),(5,iv (h.ts.map zid).length)],[.box b6 60 (evR ⟨e.kind,e.t,0,0,0,⟨0,0⟩,e.p,e.scan⟩),.box b3 60 (evR e),.box b2 28 (w6 h)],[]⟩) (fun k=>e.scan.length - k) 0 ⟨Nat.zero_le _,by simp⟩
       (u3 (.cons _ _ _ rfl (.cons _ _ _ rfl (.cons _ _ _ rfl (.cons _ _ _ rfl (.cons _ _ _ rfl (.cons _ _ _ rfl (.cons _ _ _ rfl (.nil))))))))) ?_
      rintro k ⟨hk,hz⟩
      refine rn ?_;refine z7 rfl (fun hc103=> ?_) (fun hc103=> ?_)
      ·have hk2:k < e.scan.length:=by simpa using hc103
       obtain ⟨s,hs⟩:∃s,s=e.scan[k]:=⟨_,rfl⟩
       have hrow:(e.scan.map zaq)[k]? =some (zaq s):=by rw [hs];simp [hk2]
       have hd:=List.drop_eq_getElem_cons hk2
       rw [←hs] at hd
       refine rn ?_;refine z8 rfl (y4 rfl fun b8=> ?_)
       refine rn ?_;refine qv rfl rfl (y1 rfl rfl (j4 (zio _ _) (Sbs.refl _))) ?_
       refine rn ?_;refine w7 (fun hg20_7=> ?_) (fun hg20_7=> ?_)
       ·refine rn ?_;refine zfe rfl ?_;have hx:zb8 h s=false:=by clear hz hd hrow hs hc103 hk2 hk;simp_all [zb8]
        have hall:e.scan.all (zb8 h)=false:=by rw [hz,hd,List.all_cons,hx,Bool.false_and]
        clear hz hd hx hrow
        refine rn ?_;exact k8 rfl (.drop [_,_,_,_] _ _) ⟨rfl,bvz1_3829⟩
       ·refine rn ?_;refine qv rfl rfl (y1 rfl rfl (j4 (zgi s.v _) (Sbs.refl _))) ?_
        refine rn ?_;refine z7 rfl (fun hc119=> ?_) (fun hc119=> ?_)
        ·have hx:zb8 h s=false:=by clear hz hd hrow hs hc103 hk2 hk;simp_all [zb8]
         have hall:e.scan.all (zb8 h)=false:=by rw [hz,hd,List.all_cons,hx,Bool.false_and]
         clear hz hd hx hrow
         refine rn ?_;exact k8 rfl (.drop [_,_,_,_] _ _) ⟨rfl,bvz1_3829⟩
        ·have hx:zb8 h s=true:=by clear hz hd hrow hs hc103 hk2 hk;simp_all [zb8]
         refine rn ?_;exact ⟨k+1,⟨by omega,by rw [hz,hd,List.all_cons,hx,Bool.true_and]⟩,(v7 (zdw (h1:= [_])) (u3 (.cons _ _ _ rfl (.cons _ _ _ rfl (.cons _ _ _ rfl (.cons _ _ _ rfl (.cons _ _ _ rfl (.cons _ _ _ rfl (.cons _ _ _ rfl (.nil)))))))))),by omega⟩
      ·have hk3:k=e.scan.length:=by
        have:e.scan.length≤k:=by simpa using hc103
        omega
       rw [hk3,List.drop_length,List.all_nil] at hz
       refine rn ?_;refine qv rfl rfl (y1 rfl rfl (j4 (zgz ⟨e.kind,e.t,0,0,0,⟨0,0⟩,e.p,e.scan⟩ e (by simp [hl]) hl) (by exact ⟨(by exact Sb.aggs (by exact ⟨.refl _,.refl _,.refl _,.refl _,.refl _,.refl _,.refl _,.refl _,.refl _,trivial⟩)),.refl _,trivial⟩))) ?_
       refine rn ?_;refine w7 (fun hg23_3=> ?_) (fun hg23_3=> ?_)
       ·refine rn ?_;refine qv rfl rfl (y1 rfl rfl (j4 (zio _ _) (Sbs.refl _))) ?_
        refine rn ?_;refine w7 (fun hg23_11=> ?_) (fun hg23_11=> ?_)
        ·refine rn ?_;exact k8 rfl (.drop [_,_,_] _ _) ⟨rfl,bvz1_3829⟩
        ·refine rn ?_;exact k8 rfl (.drop [_,_,_] _ _) ⟨rfl,bvz1_3829⟩
       ·refine rn ?_;exact k8 rfl (.drop [_,_,_] _ _) ⟨rfl,bvz1_3829⟩
     ·refine rn ?_;refine qv rfl rfl (y1 rfl rfl (j4 (zgz ⟨e.kind,e.t,0,0,0,⟨0,0⟩,0,[]⟩ e (by simp [hl]) hl) (by exact ⟨(by exact Sb.aggs (by exact ⟨.refl _,.refl _,.refl _,.refl _,.refl _,.refl _,.refl _,.refl _,.nil _ _,trivial⟩)),.refl _,trivial⟩))) ?_
      refine rn ?_;refine w7 (fun hg24_3=> ?_) (fun hg24_3=> ?_)
      ·refine rn ?_;refine w7 (fun hg24_7=> ?_) (fun hg24_7=> ?_)
       ·refine rn ?_;exact k8 rfl (.drop [_,_,_] _ _) ⟨rfl,bvz1_3829⟩
       ·refine rn ?_;exact k8 rfl (.drop [_,_,_] _ _) ⟨rfl,bvz1_3829⟩
      ·refine rn ?_;exact k8 rfl (.drop [_,_,_] _ _) ⟨rfl,bvz1_3829⟩
end Go.Proofs
namespace Go.Ab
open Go
section
variable {P:Program} {dst:Option Tmp} {ty:TypeId} {pos:String} {after:Array Edge} {guard:Option (Nat×Bool)} {x:Operand} {h:List Res} {f:Operand→Option AV}
theorem zot {S T:TypeId} {k:IntKind} {n:Int} (hx:f x=some (.v (.int k n))) [hs:Und P S (.int k)] [ht:Und P T .string]:
 QR P h f ⟨dst,.convert S T x,ty,pos,after,guard⟩ (.v (.string (Utf8.encode n))):=fun X ρ w he=>by
 refine ⟨_,run_v _ ?_,.v _⟩
 rw [(he.rel x _ hx).v_eq]
 simp only [convert,Sem.run_bind,Go.Ab.run_underlying (d:=TypeDesc.int k),Go.Ab.run_underlying (d:=TypeDesc.string),Result.andThen_ok]
 rfl
theorem zl6 {T E:TypeId} {n i sz:Nat} {cells out:List AV} {y:Operand} (hx:f x=some (.agg cells)) (hy:f y=some (.v (.int .i64 i))) [Und P T (.array n E)] [IsA P E true] [Siz P E sz]
 (hi:i < n) (hle:i * sz+sz≤cells.length) (ho:(cells.drop (i * sz)).take sz=out):QR P h f ⟨dst,.index T x y,ty,pos,after,guard⟩ (.agg out):=fun X ρ w he=>by
 subst ho
 have hr:=he.rel x _ hx
 generalize hv:ρ x=v at hr
 cases hr with
 |agg _ cs g1 g2=>
  refine ⟨.agg (cs.extract (i * sz) (i * sz+sz)),?_,.agg _ _ (by simp;omega) fun j a b=> ?_⟩
  ·refine run_v _ ?_
   rw [hv,(he.rel y _ hy).v_eq]
   simp only [Instr.index,asIntOf,Sem.run_bind,Sem.run_pure,Result.andThen_ok,Go.Ab.run_underlying (d:=TypeDesc.array n E)]
   rw [if_pos (by omega)]
   simp only [Sem.run_bind,run_sizeOf (n:=sz),Result.andThen_ok,part,zge (b:=true),if_true,Int.toNat_natCast]
   rfl
  ·simp at a
   simpa using g2 (i * sz+j) (by omega) (by omega)
end
end Go.Ab
set_option maxRecDepth 10000
namespace Go.Proofs
open Go Go.Ab
attribute [local irreducible] QR QV OE zct aw zdf zch zbm za3 thn zfl
open Go.H
theorem yb1 (s:ByteArray):y8 Tryz.prog 256 [sv s] [] (fun r h'=>h'= []∧r= .tup [.v (.int .i32 (zcq s).1),iv (zcq s).2]):=by
 refine z6 Tryz.func256 rfl rfl rfl ?_
 refine rn ?_;refine z8 rfl (zlk rfl rfl fun b8=> ?_)
 refine rn ?_;refine zai (fun x:Unit=>True) (fun x=>⟨[(8,pZ b8),(0,sv s),(2,.v (.int .i32 0)),(3,iv 0)],[.obj b8 (.stringIter s 0)],[]⟩) (fun x=>0) () trivial
  (u3 (.cons _ _ _ rfl (.cons _ _ _ rfl (.cons _ _ _ rfl (.cons _ _ _ rfl (.nil)))))) ?_
 rintro _ _
 refine w8 (y3 ?_)
 refine z8 rfl (znn rfl rfl (fun hp=> ?_) (fun hp=> ?_))
 ·refine rn ?_;refine z7 rfl (fun hc10=> ?_) (fun hc10=> ?_)
  ·first|cases hc10|exact absurd hc10 (by decide)|(exfalso;simp_all;done)
  ·refine rn ?_;exact zb9 rfl rfl (.drop1 _ _ _) ⟨rfl,by first|(rw [zcq,if_pos hp];rfl)|(rw [zcq,if_neg (by omega)];split <;> first|rfl|(exfalso;simp_all;done)|(exfalso;simp_all;omega))⟩
 ·refine rn ?_;refine z7 rfl (fun hc10=> ?_) (fun hc10=> ?_)
  ·refine rn ?_;refine z7 rfl (fun hc14=> ?_) (fun hc14=> ?_)
   ·exact absurd hc14 (by decide)
   ·refine zan ?_;refine zab ?_;refine w8 (y3 ?_)
    refine q1 ?_;refine qq rfl rfl (zot rfl) ?_
    refine rn ?_;refine w7 (fun hg6_2=> ?_) (fun hg6_2=> ?_)
    ·refine rn ?_;refine w7 (fun hg6_6=> ?_) (fun hg6_6=> ?_)
     ·refine rn ?_;refine z7 rfl (fun hc29=> ?_) (fun hc29=> ?_)
      ·refine rn ?_;exact zb9 rfl rfl (.drop1 _ _ _) ⟨rfl,by first|(rw [zcq,if_pos hp];rfl)|(rw [zcq,if_neg (by omega)];split <;> first|rfl|(exfalso;simp_all;done)|(exfalso;simp_all;omega))⟩
      ·first|cases hc29|exact absurd hc29 (by decide)|(exfalso;simp_all;done)
     ·refine q1 ?_;refine qq rfl rfl (zgj (k:=3) rfl rfl (by have:=hg6_6;simp at this;omega)) ?_
      refine rn ?_;refine z7 rfl (fun hc29=> ?_) (fun hc29=> ?_)
      ·refine rn ?_;exact zb9 rfl rfl (.drop1 _ _ _) ⟨rfl,by first|(rw [zcq,if_pos hp];rfl)|(rw [zcq,if_neg (by omega)];split <;> first|rfl|(exfalso;simp_all;done)|(exfalso;simp_all;omega))⟩
      ·refine rn ?_;exact zb9 rfl rfl (.drop1 _ _ _) ⟨rfl,by first|(rw [zcq,if_pos hp];rfl)|(rw [zcq,if_neg (by omega)];split <;> first|rfl|(exfalso;simp_all;done)|(exfalso;simp_all;omega))⟩
    ·refine rn ?_;refine z7 rfl (fun hc29=> ?_) (fun hc29=> ?_)
     ·first|cases hc29|exact absurd hc29 (by decide)|(exfalso;simp_all;done)
     ·refine rn ?_;exact zb9 rfl rfl (.drop1 _ _ _) ⟨rfl,by first|(rw [zcq,if_pos hp];rfl)|(rw [zcq,if_neg (by omega)];split <;> first|rfl|(exfalso;simp_all;done)|(exfalso;simp_all;omega))⟩
  ·first|cases hc10|exact absurd hc10 (by decide)|(exfalso;simp_all;done)
theorem zy7 (s:ByteArray) (c n:Int) (h:zcq s=(c,n)):y8 Tryz.prog 256 [sv s] [] (fun r h'=>h'= []∧r= .tup [.v (.int .i32 c),iv n]):=
 (yb1 s).mono fun _ _ q=>⟨q.1,by rw [q.2,h]⟩
theorem yg2 (s:ByteArray):y8 Tryz.prog 214 [sv s] [] (fun r h'=>h'= []∧r=bv (zhl s)):=by
 refine z6 Tryz.func214 rfl rfl rfl ?_
 refine rn ?_;refine w7 (fun hg1_2=> ?_) (fun hg1_2=> ?_)
 ·refine rn ?_;refine zfe rfl ?_;refine rn ?_;refine rq 0 ?_
  exact ⟨rfl,congrArg bv (by first|(rw [zgt,←yea,hg1_2];rfl)|(rw [zgt,decide_eq_false (show ¬(s.size:Int)≤24 by simp at hc12;omega),Bool.and_false];rfl))⟩
 ·refine rn ?_;refine z7 rfl (fun hc12=> ?_) (fun hc12=> ?_)
  ·refine rn ?_;refine rq 0 ?_
   exact ⟨rfl,congrArg bv (by first|(rw [zgt,←yea,hg1_2];rfl)|(rw [zgt,decide_eq_false (show ¬(s.size:Int)≤24 by simp at hc12;omega),Bool.and_false];rfl))⟩
  ·have hlen:s.size≤24:=by simp at hc12;omega
   refine rn ?_;refine zhf (fun i:Nat=>zim s 0=zim s i∧i≤48) (fun i=>⟨[(3,iv i),(0,sv s)],[],[]⟩) (fun i=>s.size - i) 0 ⟨rfl,by omega⟩ es ?_
   rintro i ⟨hz,hi⟩
   refine rn ?_;refine z7 rfl (fun hc16=> ?_) (fun hc16=> ?_)
   ·have h1:i < s.size:=by simpa using hc16
    refine zan ?_;refine zab ?_;refine zb4 ?_;refine w8 (y3 ?_)
    refine q1 ?_;refine q1 ?_;refine qq rfl rfl (zev (k:=i) rfl rfl (by omega)) ?_
    obtain ⟨c,n,hw,hn1,hn4⟩:=yiz h1
    refine qv rfl rfl (y1 rfl rfl (j4 (zy7 _ c n hw) (Sbs.refl _))) ?_
    refine rn ?_;refine qv rfl rfl (y1 rfl rfl (j4 (zy6 _) (Sbs.refl _))) ?_
    refine rn ?_;refine w7 (fun hg6_3=> ?_) (fun hg6_3=> ?_)
    ·refine rn ?_;refine w7 (fun hg6_6=> ?_) (fun hg6_6=> ?_)
     ·refine rn ?_;refine zfe rfl ?_;refine rn ?_;refine rq 0 ?_
      exact ⟨rfl,congrArg bv (by rw [zgt,hz,zoz h1 hw (by simpa using hg6_3) (by first|exact .inl (by simpa using hg6_6)|exact .inr (by simpa using hc35)),Bool.and_false])⟩
     ·refine rn ?_;refine qv rfl rfl (y1 rfl rfl (j4 (zsr _) (Sbs.refl _))) ?_
      refine rn ?_;refine z7 rfl (fun hc35=> ?_) (fun hc35=> ?_)
      ·refine rn ?_;refine rq 0 ?_
       exact ⟨rfl,congrArg bv (by rw [zgt,hz,zoz h1 hw (by simpa using hg6_3) (by first|exact .inl (by simpa using hg6_6)|exact .inr (by simpa using hc35)),Bool.and_false])⟩
      ·refine rn ?_;exact ⟨i+n,⟨hz.trans (zwi h1 hw hn1 (.inr ⟨by simpa using hg6_6,by simpa using hc35⟩)),by omega⟩,eA,by omega⟩
    ·refine rn ?_;first|(refine qv rfl rfl (y1 rfl rfl (j4 (zsr _) (Sbs.refl _))) ?_)|refine qs rfl rfl ?_|skip
     refine rn ?_;refine zff rfl ?_;refine rn ?_;exact ⟨i+n,⟨hz.trans (zwi h1 hw hn1 (.inl (by simpa using hg6_3))),by omega⟩,eA,by omega⟩
   ·have h1:¬i < s.size:=by simpa using hc16
    refine rn ?_;refine rq 0 ?_
    exact ⟨rfl,congrArg bv (by rw [zgt,←yea,hg1_2,hz,yaj h1,decide_eq_true (show (s.size:Int)≤24 by omega)];rfl)⟩
theorem zfk (l:List ByteArray) (most:Nat) (hl:l.length≤4611686018427387904):y8 Tryz.prog 163 [zdp l,iv most] [] (fun r h'=>h'= []∧r=bv (zc7 most l)):=by
 refine z6 Tryz.func163 rfl rfl rfl ?_
 refine rn ?_;refine zcu (l.length) (fun k:Nat=>zbt [] l=zbt (l.take k) (l.drop k)) (fun k=> [(11,iv k)]) [(0,_),(1,_),(9,_),(10,_)] rfl ?_
 intro k lk zk
 refine rn ?_;refine z7 rfl (fun hc12=> ?_) (fun hc12=> ?_)
 ·have hk:=za4 hc12
  have rk:=zaj (f:=zid) hk
  refine rn ?_;refine qv rfl rfl (y1 rfl rfl (j4 (yg2 _) (Sbs.refl _))) ?_
  refine rn ?_;refine z7 rfl (fun hc18=> ?_) (fun hc18=> ?_)
  ·refine rn ?_;refine rq 0 ?_
   exact ⟨rfl,congrArg bv (by rw [zc7,yoi hk zk (by simpa using hc18),Bool.and_false])⟩
  ·refine zan ?_;refine zab ?_;refine w8 (y3 ?_)
   refine q1 ?_;refine q1 ?_;refine qq rfl rfl (zbc (k:=k) rfl rfl (by simp;omega)) ?_
   rw [←List.map_take]
   refine rn ?_;refine zcu ((l.take k).length) (fun j:Nat=>(l.take k).all (fun t=> !(l[k].toList==t.toList))=((l.take k).drop j).all (fun t=> !(l[k].toList==t.toList))) (fun j=> [(23,iv j)]) [(0,_),(1,_),(6,_),(9,_),(10,_),(11,_),(21,_),(22,_)] rfl ?_
   intro j lj zj
   refine rn ?_;refine z7 rfl (fun hc24=> ?_) (fun hc24=> ?_)
   ·have hj:=za4 hc24
    have rj:=zaj (f:=zid) hj
    have bj:(l.take k).length≤4611686018427387904:=by simp;omega
    refine rn ?_;refine z7 rfl (fun hc29=> ?_) (fun hc29=> ?_)
    ·refine rn ?_;refine rq 0 ?_
     exact ⟨rfl,congrArg bv (by rw [zc7,yoj hk zk (zuj hj (by simpa using hc29)),Bool.and_false])⟩
    ·refine rn ?_;exact ⟨hj,zui hj zj (by simpa using hc29),eA⟩
   ·have qj:=za5 hc24 lj
    have aj:=zz9 qj zj
    refine rn ?_;exact ⟨hk,zzw hk zk (by simpa using hc18) aj,eA⟩
 ·have qk:=za5 hc12 lk
  refine rn ?_;refine rq 0 ?_
  exact ⟨rfl,congrArg bv (by rw [zc7,yok qk zk];simp)⟩
theorem zu4 (h:Hist) (e:Ev) (hl:e.scan.length≤4611686018427387904):y8 Tryz.prog 164 [.agg (w6 h),.agg (evR e)] [] (fun r h'=>h'= []∧r=bv (zcc h e)):=
 (zy0 h e hl).mono fun _ _ q=>⟨q.1,by rw [q.2,zyx]⟩
theorem bvz2_6008 {a b:Bool} (h:a=b:=by rw [ya3 (by simp_all) (by simp_all) (by simp_all) (by simp_all) ai aj ak am];first|(simp_all;done)|(simp_all;intros;omega)):bv a=bv b:=congrArg bv h
theorem ybt (h:Hist) (la:Lim 4611686018427387904 h):y8 Tryz.prog 122 [.agg (w6 h)] [] (fun r h'=>h'= []∧r=bv (zad h)):=by
 refine z6 Tryz.func122 rfl rfl rfl ?_
 refine rn ?_;refine z8 rfl (w9 rfl rfl rfl fun b1=> ?_)
 refine rn ?_;refine qv rfl rfl (y1 rfl rfl (j4 (zfk h.ts 300 la.ts) (Sbs.refl _))) ?_
 refine rn ?_;refine w7 (fun hg1_4=> ?_) (fun hg1_4=> ?_)
 ·refine rn ?_;refine zfe rfl ?_;refine rn ?_;refine rq 1 ?_
  exact ⟨rfl,congrArg bv (by rw [zjq (by simp_all)])⟩
 ·refine rn ?_;refine qv rfl rfl (y1 rfl rfl (j4 (zfk h.ss 60 la.ss) (Sbs.refl _))) ?_
  refine rn ?_;refine w7 (fun hg1_10=> ?_) (fun hg1_10=> ?_)
  ·refine rn ?_;refine zfe rfl ?_;refine rn ?_;refine rq 1 ?_
   exact ⟨rfl,congrArg bv (by rw [zjq (by simp_all)])⟩
  ·refine rn ?_;refine qv rfl rfl (y1 rfl rfl (j4 (zfk h.os 300 la.os) (Sbs.refl _))) ?_
   refine rn ?_;refine w7 (fun hg1_16=> ?_) (fun hg1_16=> ?_)
   ·refine rn ?_;refine zfe rfl ?_;refine rn ?_;refine rq 1 ?_
    exact ⟨rfl,congrArg bv (by rw [zjq (by simp_all)])⟩
   ·refine rn ?_;refine qv rfl rfl (y1 rfl rfl (j4 (zfk h.ps 60 la.ps) (Sbs.refl _))) ?_
    refine rn ?_;refine z7 rfl (fun hc32=> ?_) (fun hc32=> ?_)
    ·refine rn ?_;refine rq 1 ?_
     exact ⟨rfl,congrArg bv (by rw [zjq (by simp_all)])⟩
    ·refine rn ?_;refine zcu (h.evs.length) (fun i:Nat=>h.evs.all (zcc h)=(h.evs.drop i).all (zcc h)) (fun i=> [(36,iv i)]) [(1,_),(34,_),(35,_)] rfl ?_
     intro i li zi
     refine rn ?_;refine z7 rfl (fun hc37=> ?_) (fun hc37=> ?_)
     ·have hi:=za4 hc37
      have ri:=zaj (f:=evR) hi
      have bi:=la.evs
      have si:=la.scans h.evs[i] (List.getElem_mem hi)
      refine rn ?_;refine z8 rfl (y4 rfl fun b4=> ?_)
      refine rn ?_;refine qv rfl rfl (y1 rfl rfl (j4 (zu4 h h.evs[i] si) (Sbs.refl _))) ?_
      refine rn ?_;refine z7 rfl (fun hc43=> ?_) (fun hc43=> ?_)
      ·refine rn ?_;refine rq 2 ?_
       exact ⟨rfl,congrArg bv (by rw [ya4 (zuj hi (by simpa using hc43))])⟩
      ·refine rn ?_;exact ⟨hi,zui hi zi (by simpa using hc43),eA⟩
     ·have qi:=za5 hc37 li
      have ai:=zz9 qi zi
      refine rn ?_;refine zcu (h.ords.length) (fun j:Nat=>h.ords.all (zrt h)=(h.ords.drop j).all (zrt h)) (fun j=> [(48,iv j)]) [(1,_),(46,_),(47,_)] rfl ?_
      intro j lj zj
      refine rn ?_;refine z7 rfl (fun hc49=> ?_) (fun hc49=> ?_)
      ·have hj:=za4 hc49
       have rj:=zaj (f:=ze7) hj
       have bj:=la.ords
       have sj:=la.ordts h.ords[j] (List.getElem_mem hj)
       refine rn ?_;refine z8 rfl (y4 rfl fun b6=> ?_)
       refine rn ?_;refine qv rfl rfl (y1 rfl rfl (j4 (zio _ _) (Sbs.refl _))) ?_
       refine rn ?_;refine w7 (fun hg12_7=> ?_) (fun hg12_7=> ?_)
       ·refine rn ?_;refine zfe rfl ?_;refine rn ?_;refine rq 2 ?_
        exact ⟨rfl,congrArg bv (by rw [zsa (zuj hj (by rw [zvc];simp_all))])⟩
       ·refine rn ?_;refine qv rfl rfl (y1 rfl rfl (j4 (yqp h h.ords[j].ts sj) (Sbs.refl _))) ?_
        refine rn ?_;refine z7 rfl (fun hc65=> ?_) (fun hc65=> ?_)
        ·refine rn ?_;refine rq 2 ?_
         exact ⟨rfl,congrArg bv (by rw [zsa (zuj hj (by rw [zvc];simp_all))])⟩
        ·refine rn ?_;exact ⟨hj,zui hj zj (by rw [zvc];simp_all),eA⟩
      ·have qj:=za5 hc49 lj
       have aj:=zz9 qj zj
       refine rn ?_;refine zcu (h.mats.length) (fun k:Nat=>h.mats.all (zvk h)=(h.mats.drop k).all (zvk h)) (fun k=> [(70,iv k)]) [(1,_),(68,_),(69,_)] rfl ?_
       intro k lk zk
       refine rn ?_;refine z7 rfl (fun hc71=> ?_) (fun hc71=> ?_)
       ·have hk:=za4 hc71
        have rk:=zaj (f:=zes) hk
        have bk:=la.mats
        have sk:=la.matts h.mats[k] (List.getElem_mem hk)
        refine rn ?_;refine z8 rfl (y4 rfl fun b8=> ?_)
        refine rn ?_;refine qv rfl rfl (y1 rfl rfl (j4 (zio _ _) (Sbs.refl _))) ?_
        refine rn ?_;refine w7 (fun hg18_7=> ?_) (fun hg18_7=> ?_)
        ·refine rn ?_;refine zfe rfl ?_;refine rn ?_;refine rq 2 ?_
         exact ⟨rfl,congrArg bv (by rw [zm3 (zuj hk (by rw [zqx];simp_all))])⟩
        ·refine rn ?_;refine qv rfl rfl (y1 rfl rfl (j4 (zio _ _) (Sbs.refl _))) ?_
         refine rn ?_;refine w7 (fun hg18_16=> ?_) (fun hg18_16=> ?_)
         ·refine rn ?_;refine zfe rfl ?_;refine rn ?_;refine rq 2 ?_
          exact ⟨rfl,congrArg bv (by rw [zm3 (zuj hk (by rw [zqx];simp_all))])⟩
         ·refine rn ?_;refine qv rfl rfl (y1 rfl rfl (j4 (yqp h h.mats[k].ts sk) (Sbs.refl _))) ?_
          refine rn ?_;refine z7 rfl (fun hc96=> ?_) (fun hc96=> ?_)
          ·refine rn ?_;refine rq 2 ?_
           exact ⟨rfl,congrArg bv (by rw [zm3 (zuj hk (by rw [zqx];simp_all))])⟩
          ·refine rn ?_;exact ⟨hk,zui hk zk (by rw [zqx];simp_all),eA⟩
       ·have qk:=za5 hc71 lk
        have ak:=zz9 qk zk
        refine rn ?_;refine zcu (h.wants.length) (fun m:Nat=>h.wants.all (zwl h)=(h.wants.drop m).all (zwl h)) (fun m=> [(101,iv m)]) [(1,_),(99,_),(100,_)] rfl ?_
        intro m lm zm
        refine rn ?_;refine z7 rfl (fun hc102=> ?_) (fun hc102=> ?_)
        ·have hm:=za4 hc102
         have rm:=zaj (f:=zgq) hm
         have bm:=la.wants
         refine rn ?_;refine z8 rfl (y4 rfl fun b10=> ?_)
         refine rn ?_;refine qv rfl rfl (y1 rfl rfl (j4 (zio _ _) (Sbs.refl _))) ?_
         refine rn ?_;refine w7 (fun hg24_7=> ?_) (fun hg24_7=> ?_)
         ·refine rn ?_;refine zfe rfl ?_;refine rn ?_;refine rq 2 ?_
          exact ⟨rfl,congrArg bv (by rw [zr9 (zuj hm (by rw [zuo];simp_all))])⟩
         ·refine rn ?_;refine qv rfl rfl (y1 rfl rfl (j4 (zio _ _) (Sbs.refl _))) ?_
          refine rn ?_;refine z7 rfl (fun hc117=> ?_) (fun hc117=> ?_)
          ·refine rn ?_;refine rq 2 ?_
           exact ⟨rfl,congrArg bv (by rw [zr9 (zuj hm (by rw [zuo];simp_all))])⟩
          ·refine rn ?_;exact ⟨hm,zui hm zm (by rw [zuo];simp_all),eA⟩
        ·have qm:=za5 hc102 lm
         have am:=zz9 qm zm
         refine rn ?_;refine w7 (fun hg27_4=> ?_) (fun hg27_4=> ?_)
         ·refine rn ?_;refine w7 (fun hg27_10=> ?_) (fun hg27_10=> ?_)
          ·refine rn ?_;refine w7 (fun hg27_16=> ?_) (fun hg27_16=> ?_)
           ·refine rn ?_;refine rq 1 ?_
            exact ⟨rfl,bvz2_6008⟩
           ·refine rn ?_;refine rq 1 ?_
            exact ⟨rfl,bvz2_6008⟩
          ·refine rn ?_;refine rq 1 ?_
           exact ⟨rfl,bvz2_6008⟩
         ·refine rn ?_;refine rq 1 ?_
          exact ⟨rfl,bvz2_6008⟩
theorem zbu (s:SV) (l:List Int) (n:Int) (hl:l.length≤1000000000):y8 Tryz.prog 166 [.v s.v,iv n] [.row s.v 1 3 (l.map zar)] (fun r h'=>∃s':SV,h'= [.row s'.v 1 3 ((yfr l n).map zar)]∧r= .v s'.v):=by
 refine z6 Tryz.func166 rfl rfl rfl ?_
 refine rn ?_;refine qv rfl rfl (y1 rfl rfl (y0.lend (R:=fun x=>x=iv (atI n 0 l)) (y0.of_fun (yg1 (f:=false) l n (by omega))) (fun r hr=>by rw [hr];rfl) (.refl _ _) ⟨zld,.refl _ _,trivial⟩)) ?_
 refine rn ?_;refine z7 rfl (fun hc8=> ?_) (fun hc8=> ?_)
 ·refine rn ?_;refine rq 0 ?_
  exact ⟨s,by rw [yfr,if_pos (by simpa using hc8)];rfl,rfl⟩
 ·refine rn ?_;refine qv rfl rfl (q6 rfl rfl) ?_
  refine z8 rfl (q7 rfl rfl (by simp;omega) rfl (fun s13=> ?_) (fun r hr=>by simp at hr;subst hr;rfl))
  refine j3 s13 fun sv hsv=> ?_
  subst hsv
  refine rn ?_;refine rq 0 ?_
  exact ⟨sv,by rw [yfr,if_neg (by simpa using hc8),List.map_append];rfl,rfl⟩
theorem znc (s:SV) (l:List Int) (v:Ver) (hl:l.length≤1000000000):y8 Tryz.prog 167 [.v s.v,.agg (yfx v)] [.row s.v 1 3 (l.map zar)] (fun r h'=>∃s':SV,h'= [.row s'.v 1 3 ((yo9 l v).map zar)]∧r= .v s'.v):=by
 refine z6 Tryz.func167 rfl rfl rfl ?_
 refine rn ?_;refine z8 rfl (w9 rfl rfl rfl fun b3=> ?_)
 refine rn ?_;refine z7 rfl (fun hc7=> ?_) (fun hc7=> ?_)
 ·refine rn ?_;refine rq 1 ?_
  exact ⟨s,by rw [yo9,if_pos (by simpa using hc7)];rfl,rfl⟩
 ·refine rn ?_;refine z8 rfl (v8 rfl rfl (zaz (y0.of_fun (zbu s l v.t hl))) rfl ?_)
  rintro _ _ ⟨s',rfl,rfl⟩
  refine rn ?_;refine rq 1 ?_
  exact ⟨s',by rw [yo9,if_neg (by simpa using hc7)];rfl,rfl⟩
theorem ybs (h:Hist) (la:Lim 3000 h):y8 Tryz.prog 123 [.agg (w6 h)] [] (fun r h'=>h'= []∧r= .agg [zbe (zcx h 0),zbe (zcx h 1),zbe (zcx h 2),zbe (zcx h 3)]):=by
 refine z6 Tryz.func123 rfl rfl rfl ?_
 refine rn ?_;refine z8 rfl (w9 rfl rfl rfl fun b1=> ?_)
 refine z8 rfl (y4 rfl fun b2=> ?_)
 refine rn ?_;refine z8 rfl (y4 rfl fun b3=> ?_)
 refine rn ?_;refine zjj h.evs.length (fun k s0 s1 s2 s3=>⟨[(21,iv k),(1,pZ b1),(2,pZ b2),(3,pZ b3),(19,zre h.evs),(20,iv (h.evs.map evR).length)],[.row s0.v 1 3 (((spE h k) 0).map zar),.row s1.v 1 3 (((spE h k) 1).map zar),.row s2.v 1 3 (((spE h k) 2).map zar),.row s3.v 1 3 (((spE h k) 3).map zar),.box b3 154 [.v s0.v,.v s1.v,.v s2.v,.v s3.v],.box b2 154 [.v (.slice none 0 0),.v (.slice none 0 0),.v (.slice none 0 0),.v (.slice none 0 0)],.box b1 28 (w6 h)],[]⟩) (⟨none,0,0⟩) (⟨none,0,0⟩) (⟨none,0,0⟩) (⟨none,0,0⟩) (v7 (zam 1 3) (v7 (zam 1 3) (v7 (zam 1 3) (v7 (zam 1 3) es)))) ?_
 intro k s0 s1 s2 s3 lk
 refine rn ?_;refine z7 rfl (fun hc22=> ?_) (fun hc22=> ?_)
 ·have hk:=za4 hc22
  have rk:=zaj (f:=evR) hk
  have bd:=bdE la k lk
  have ls:=la.scans h.evs[k] (List.getElem_mem hk)
  have le:=la.evs
  refine rn ?_;refine z8 rfl (y4 rfl fun b5=> ?_)
  refine rn ?_;refine qq rfl rfl (y6 rfl rfl (by decide) (by decide)) ?_
  refine rn ?_;refine z8 rfl (v8 rfl rfl (zaz (y0.of_fun (zbu _ _ _ (by have:=bd 0;omega)))) rfl ?_)
  rintro _ _ ⟨s',rfl,rfl⟩
  refine qq rfl rfl (y6 rfl rfl (by decide) (by decide)) ?_
  refine rn0 ?_;refine yo2 (fun s0 s1 s2 s3=>⟨[(5,pZ b5),(21,iv k),(20,iv (h.evs.map evR).length),(19,zre h.evs),(1,pZ b1),(2,pZ b2),(3,pZ b3)],[.box b5 60 (evR h.evs[k]),.row s0.v 1 3 (((zf7 (zay (spE h k) (0,h.evs[k].t)) h.evs[k]) 0).map zar),.row s1.v 1 3 (((zf7 (zay (spE h k) (0,h.evs[k].t)) h.evs[k]) 1).map zar),.row s2.v 1 3 (((zf7 (zay (spE h k) (0,h.evs[k].t)) h.evs[k]) 2).map zar),.row s3.v 1 3 (((zf7 (zay (spE h k) (0,h.evs[k].t)) h.evs[k]) 3).map zar),.box b3 154 [.v s0.v,.v s1.v,.v s2.v,.v s3.v],.box b2 154 [.v (.slice none 0 0),.v (.slice none 0 0),.v (.slice none 0 0),.v (.slice none 0 0)],.box b1 28 (w6 h)],[]⟩) ?_ ?_
  ·refine rn ?_;refine z7 rfl (fun hc33=> ?_) (fun hc33=> ?_)
   ·refine rn ?_;refine qq rfl rfl (y6 rfl rfl (by decide) (by decide)) ?_
    refine rn ?_;refine z8 rfl (v8 rfl rfl (zaz (y0.of_fun (zbu _ _ _ (by have:=bd 1;omega)))) rfl ?_)
    rintro _ _ ⟨s',rfl,rfl⟩
    refine qq rfl rfl (y6 rfl rfl (by decide) (by decide)) ?_
    refine rn ?_;exact ⟨_,_,_,_,by unfold zf7;first|(rw [if_pos (by simpa using hc33)];exact eA)|(rw [if_neg (by simpa using hc33),if_pos (by simp at hc33;simp_all)];exact eA)|(rw [if_neg (by simpa using hc33),if_neg (by simp at hc33;simp_all),if_pos (by simpa using hc56)];exact eA)|(rw [if_neg (by simpa using hc33),if_neg (by simp at hc33;simp_all),if_neg (by simpa using hc56)];exact eA)⟩
   ·refine rn ?_;refine z7 rfl (fun hc41=> ?_) (fun hc41=> ?_)
    ·refine rn ?_;refine z7 rfl (fun hc41=> ?_) (fun hc41=> ?_)
     ·refine rn ?_;refine qq rfl rfl (y6 rfl rfl (by decide) (by decide)) ?_
      refine rn ?_;refine z8 rfl (v8 rfl rfl (zaz (y0.of_fun (zbu _ _ _ (by have:=bd 2;omega)))) rfl ?_)
      rintro _ _ ⟨s',rfl,rfl⟩
      refine qq rfl rfl (y6 rfl rfl (by decide) (by decide)) ?_
      refine rn ?_;refine qq rfl rfl (y6 rfl rfl (by decide) (by decide)) ?_
      refine rn ?_;refine z8 rfl (v8 rfl rfl (zaz (y0.of_fun (znc _ _ _ (by have:=(bd.f (0,h.evs[k].t)) 0;exact Nat.le_trans this (by omega))))) rfl ?_)
      rintro _ _ ⟨s',rfl,rfl⟩
      refine qq rfl rfl (y6 rfl rfl (by decide) (by decide)) ?_
      refine rn ?_;exact ⟨_,_,_,_,by unfold zf7;first|(rw [if_pos (by simpa using hc33)];exact eA)|(rw [if_neg (by simpa using hc33),if_pos (by simp at hc33;simp_all)];exact eA)|(rw [if_neg (by simpa using hc33),if_neg (by simp at hc33;simp_all),if_pos (by simpa using hc56)];exact eA)|(rw [if_neg (by simpa using hc33),if_neg (by simp at hc33;simp_all),if_neg (by simpa using hc56)];exact eA)⟩
     ·first|cases hc41|exact absurd hc41 (by decide)|(exfalso;simp_all;done)
    ·refine rn ?_;refine z7 rfl (fun hc41=> ?_) (fun hc41=> ?_)
     ·refine rn ?_;refine qq rfl rfl (y6 rfl rfl (by decide) (by decide)) ?_
      refine rn ?_;refine z8 rfl (v8 rfl rfl (zaz (y0.of_fun (zbu _ _ _ (by have:=bd 2;omega)))) rfl ?_)
      rintro _ _ ⟨s',rfl,rfl⟩
      refine qq rfl rfl (y6 rfl rfl (by decide) (by decide)) ?_
      refine rn ?_;refine qq rfl rfl (y6 rfl rfl (by decide) (by decide)) ?_
      refine rn ?_;refine z8 rfl (v8 rfl rfl (zaz (y0.of_fun (znc _ _ _ (by have:=(bd.f (0,h.evs[k].t)) 0;exact Nat.le_trans this (by omega))))) rfl ?_)
      rintro _ _ ⟨s',rfl,rfl⟩
      refine qq rfl rfl (y6 rfl rfl (by decide) (by decide)) ?_
      refine rn ?_;exact ⟨_,_,_,_,by unfold zf7;first|(rw [if_pos (by simpa using hc33)];exact eA)|(rw [if_neg (by simpa using hc33),if_pos (by simp at hc33;simp_all)];exact eA)|(rw [if_neg (by simpa using hc33),if_neg (by simp at hc33;simp_all),if_pos (by simpa using hc56)];exact eA)|(rw [if_neg (by simpa using hc33),if_neg (by simp at hc33;simp_all),if_neg (by simpa using hc56)];exact eA)⟩
     ·refine rn ?_;refine z7 rfl (fun hc56=> ?_) (fun hc56=> ?_)
      ·refine rn ?_;refine qq rfl rfl (y6 rfl rfl (by decide) (by decide)) ?_
       refine rn ?_;refine z8 rfl (v8 rfl rfl (zaz (y0.of_fun (zbu _ _ _ (by have:=bd 3;omega)))) rfl ?_)
       rintro _ _ ⟨s',rfl,rfl⟩
       refine qq rfl rfl (y6 rfl rfl (by decide) (by decide)) ?_
       refine rn ?_;exact ⟨_,_,_,_,by unfold zf7;first|(rw [if_pos (by simpa using hc33)];exact eA)|(rw [if_neg (by simpa using hc33),if_pos (by simp at hc33;simp_all)];exact eA)|(rw [if_neg (by simpa using hc33),if_neg (by simp at hc33;simp_all),if_pos (by simpa using hc56)];exact eA)|(rw [if_neg (by simpa using hc33),if_neg (by simp at hc33;simp_all),if_neg (by simpa using hc56)];exact eA)⟩
      ·refine rn ?_;exact ⟨_,_,_,_,by unfold zf7;first|(rw [if_pos (by simpa using hc33)];exact eA)|(rw [if_neg (by simpa using hc33),if_pos (by simp at hc33;simp_all)];exact eA)|(rw [if_neg (by simpa using hc33),if_neg (by simp at hc33;simp_all),if_pos (by simpa using hc56)];exact eA)|(rw [if_neg (by simpa using hc33),if_neg (by simp at hc33;simp_all),if_neg (by simpa using hc56)];exact eA)⟩
  ·intro s0 s1 s2 s3
   refine rn ?_;refine zjj h.evs[k].scan.length (fun j s0 s1 s2 s3=>⟨[(67,iv j),(1,pZ b1),(2,pZ b2),(3,pZ b3),(19,zre h.evs),(20,iv (h.evs.map evR).length),(21,iv k),(65,zfq h.evs[k].scan),(66,iv (h.evs[k].scan.map zaq).length)],[.box b5 60 (evR h.evs[k]),.row s0.v 1 3 ((((h.evs[k].scan.take j).foldl stepS (zf7 (zay (spE h k) (0,h.evs[k].t)) h.evs[k])) 0).map zar),.row s1.v 1 3 ((((h.evs[k].scan.take j).foldl stepS (zf7 (zay (spE h k) (0,h.evs[k].t)) h.evs[k])) 1).map zar),.row s2.v 1 3 ((((h.evs[k].scan.take j).foldl stepS (zf7 (zay (spE h k) (0,h.evs[k].t)) h.evs[k])) 2).map zar),.row s3.v 1 3 ((((h.evs[k].scan.take j).foldl stepS (zf7 (zay (spE h k) (0,h.evs[k].t)) h.evs[k])) 3).map zar),.box b3 154 [.v s0.v,.v s1.v,.v s2.v,.v s3.v],.box b2 154 [.v (.slice none 0 0),.v (.slice none 0 0),.v (.slice none 0 0),.v (.slice none 0 0)],.box b1 28 (w6 h)],[]⟩) _ _ _ _ (es) ?_
   intro j s0 s1 s2 s3 lj
   refine rn ?_;refine z7 rfl (fun hc68=> ?_) (fun hc68=> ?_)
   ·have hj:=za4 hc68
    have rj:=zaj (f:=zaq) hj
    have bj:=Bd.fold (c:=2) (l:=h.evs[k].scan.take j) (fun s _ L n h=>h.s s) ((bd.f (0,h.evs[k].t)).k h.evs[k])
    have bl:(h.evs[k].scan.take j).length≤3000:=by rw [List.length_take];omega
    refine rn ?_;refine z8 rfl (y4 rfl fun b7=> ?_)
    refine rn ?_;refine qq rfl rfl (y6 rfl rfl (by decide) (by decide)) ?_
    refine rn ?_;refine z8 rfl (v8 rfl rfl (zaz (y0.of_fun (zbu _ _ _ (by have:=bj 2;omega)))) rfl ?_)
    rintro _ _ ⟨s',rfl,rfl⟩
    refine qq rfl rfl (y6 rfl rfl (by decide) (by decide)) ?_
    refine rn ?_;refine qq rfl rfl (y6 rfl rfl (by decide) (by decide)) ?_
    refine rn ?_;refine z8 rfl (v8 rfl rfl (zaz (y0.of_fun (znc _ _ _ (by have:=bj 0;omega)))) rfl ?_)
    rintro _ _ ⟨s',rfl,rfl⟩
    refine qq rfl rfl (y6 rfl rfl (by decide) (by decide)) ?_
    refine rn ?_;have e:(h.evs[k].scan.take (j+1)).foldl stepS (zf7 (zay (spE h k) (0,h.evs[k].t)) h.evs[k])=stepS ((h.evs[k].scan.take j).foldl stepS (zf7 (zay (spE h k) (0,h.evs[k].t)) h.evs[k])) h.evs[k].scan[j]:=zg9 _ _ hj
    exact ⟨hj,_,_,_,_,by simp only [e];exact eA⟩
   ·have qj:=za5 hc68 lj
    refine rn ?_;have e:spE h (k+1)=(h.evs[k].scan.take j).foldl stepS (zf7 (zay (spE h k) (0,h.evs[k].t)) h.evs[k]):=by rw [spE,zg9 _ _ hk,H.stepE,zjf _ _ qj];rfl
    exact ⟨hk,_,_,_,_,by simp only [e];exact eA⟩
 ·have qk:=za5 hc22 lk
  refine rn ?_;refine zjj h.ords.length (fun k s0 s1 s2 s3=>⟨[(88,iv k),(1,pZ b1),(2,pZ b2),(3,pZ b3),(86,ycr h.ords),(87,iv (h.ords.map ze7).length)],[.row s0.v 1 3 (((spO h k) 0).map zar),.row s1.v 1 3 (((spO h k) 1).map zar),.row s2.v 1 3 (((spO h k) 2).map zar),.row s3.v 1 3 (((spO h k) 3).map zar),.box b3 154 [.v s0.v,.v s1.v,.v s2.v,.v s3.v],.box b2 154 [.v (.slice none 0 0),.v (.slice none 0 0),.v (.slice none 0 0),.v (.slice none 0 0)],.box b1 28 (w6 h)],[]⟩) _ _ _ _ (by rw [show spO h 0=spE h k from (zjf stepE noR qk).symm];exact es) ?_
  intro k s0 s1 s2 s3 lk
  refine rn ?_;refine z7 rfl (fun hc89=> ?_) (fun hc89=> ?_)
  ·have hk:=za4 hc89
   have rk:=zaj (f:=ze7) hk
   have bd:=bdO la k lk
   have ls:=la.ordts h.ords[k] (List.getElem_mem hk)
   have le:=la.ords
   refine rn ?_;refine z8 rfl (y4 rfl fun b9=> ?_)
   refine rn ?_;refine qq rfl rfl (y6 rfl rfl (by decide) (by decide)) ?_
   refine rn ?_;refine z8 rfl (v8 rfl rfl (zaz (y0.of_fun (zbu _ _ _ (by have:=bd 2;omega)))) rfl ?_)
   rintro _ _ ⟨s',rfl,rfl⟩
   refine qq rfl rfl (y6 rfl rfl (by decide) (by decide)) ?_
   refine rn ?_;refine zjj h.ords[k].ts.length (fun j s0 s1 s2 s3=>⟨[(101,iv j),(1,pZ b1),(2,pZ b2),(3,pZ b3),(86,ycr h.ords),(87,iv (h.ords.map ze7).length),(88,iv k),(99,zbe h.ords[k].ts),(100,iv (h.ords[k].ts.map zar).length)],[.box b9 87 (ze7 h.ords[k]),.row s0.v 1 3 ((((h.ords[k].ts.take j).foldl zp4 (zay (spO h k) (2,h.ords[k].o))) 0).map zar),.row s1.v 1 3 ((((h.ords[k].ts.take j).foldl zp4 (zay (spO h k) (2,h.ords[k].o))) 1).map zar),.row s2.v 1 3 ((((h.ords[k].ts.take j).foldl zp4 (zay (spO h k) (2,h.ords[k].o))) 2).map zar),.row s3.v 1 3 ((((h.ords[k].ts.take j).foldl zp4 (zay (spO h k) (2,h.ords[k].o))) 3).map zar),.box b3 154 [.v s0.v,.v s1.v,.v s2.v,.v s3.v],.box b2 154 [.v (.slice none 0 0),.v (.slice none 0 0),.v (.slice none 0 0),.v (.slice none 0 0)],.box b1 28 (w6 h)],[]⟩) _ _ _ _ (es) ?_
   intro j s0 s1 s2 s3 lj
   refine rn ?_;refine z7 rfl (fun hc102=> ?_) (fun hc102=> ?_)
   ·have hj:=za4 hc102
    have rj:=zaj (f:=zar) hj
    have bj:=Bd.fold (c:=1) (l:=h.ords[k].ts.take j) (fun s _ L n h=>h.t s) (bd.f (2,h.ords[k].o))
    have bl:(h.ords[k].ts.take j).length≤3000:=by rw [List.length_take];omega
    refine rn ?_;refine qq rfl rfl (y6 rfl rfl (by decide) (by decide)) ?_
    refine rn ?_;refine z8 rfl (v8 rfl rfl (zaz (y0.of_fun (zbu _ _ _ (by have:=bj 0;omega)))) rfl ?_)
    rintro _ _ ⟨s',rfl,rfl⟩
    refine qq rfl rfl (y6 rfl rfl (by decide) (by decide)) ?_
    refine rn ?_;have e:(h.ords[k].ts.take (j+1)).foldl zp4 (zay (spO h k) (2,h.ords[k].o))=zp4 ((h.ords[k].ts.take j).foldl zp4 (zay (spO h k) (2,h.ords[k].o))) h.ords[k].ts[j]:=zg9 _ _ hj
    exact ⟨hj,_,_,_,_,by simp only [e];exact eA⟩
   ·have qj:=za5 hc102 lj
    refine rn ?_;have e:spO h (k+1)=(h.ords[k].ts.take j).foldl zp4 (zay (spO h k) (2,h.ords[k].o)):=by rw [spO,zg9 _ _ hk,zr0,zjf _ _ qj];rfl
    exact ⟨hk,_,_,_,_,by simp only [e];exact eA⟩
  ·have qk:=za5 hc89 lk
   refine rn ?_;refine zjj h.mats.length (fun k s0 s1 s2 s3=>⟨[(115,iv k),(1,pZ b1),(2,pZ b2),(3,pZ b3),(113,zzo h.mats),(114,iv (h.mats.map zes).length)],[.row s0.v 1 3 (((spM h k) 0).map zar),.row s1.v 1 3 (((spM h k) 1).map zar),.row s2.v 1 3 (((spM h k) 2).map zar),.row s3.v 1 3 (((spM h k) 3).map zar),.box b3 154 [.v s0.v,.v s1.v,.v s2.v,.v s3.v],.box b2 154 [.v (.slice none 0 0),.v (.slice none 0 0),.v (.slice none 0 0),.v (.slice none 0 0)],.box b1 28 (w6 h)],[]⟩) _ _ _ _ (by rw [show spM h 0=spO h k from (zjf zr0 _ qk).symm];exact es) ?_
   intro k s0 s1 s2 s3 lk
   refine rn ?_;refine z7 rfl (fun hc116=> ?_) (fun hc116=> ?_)
   ·have hk:=za4 hc116
    have rk:=zaj (f:=zes) hk
    have bd:=bdM la k lk
    have ls:=la.matts h.mats[k] (List.getElem_mem hk)
    have le:=la.mats
    refine rn ?_;refine z8 rfl (y4 rfl fun b13=> ?_)
    refine rn ?_;refine qq rfl rfl (y6 rfl rfl (by decide) (by decide)) ?_
    refine rn ?_;refine z8 rfl (v8 rfl rfl (zaz (y0.of_fun (zbu _ _ _ (by have:=bd 3;omega)))) rfl ?_)
    rintro _ _ ⟨s',rfl,rfl⟩
    refine qq rfl rfl (y6 rfl rfl (by decide) (by decide)) ?_
    refine rn ?_;refine qq rfl rfl (y6 rfl rfl (by decide) (by decide)) ?_
    refine rn ?_;refine z8 rfl (v8 rfl rfl (zaz (y0.of_fun (zbu _ _ _ (by have:=bd 2;omega)))) rfl ?_)
    rintro _ _ ⟨s',rfl,rfl⟩
    refine qq rfl rfl (y6 rfl rfl (by decide) (by decide)) ?_
    refine rn ?_;refine zjj h.mats[k].ts.length (fun j s0 s1 s2 s3=>⟨[(134,iv j),(1,pZ b1),(2,pZ b2),(3,pZ b3),(113,zzo h.mats),(114,iv (h.mats.map zes).length),(115,iv k),(132,zbe h.mats[k].ts),(133,iv (h.mats[k].ts.map zar).length)],[.box b13 109 (zes h.mats[k]),.row s0.v 1 3 ((((h.mats[k].ts.take j).foldl zp4 (zay (zay (spM h k) (3,h.mats[k].p)) (2,h.mats[k].o))) 0).map zar),.row s1.v 1 3 ((((h.mats[k].ts.take j).foldl zp4 (zay (zay (spM h k) (3,h.mats[k].p)) (2,h.mats[k].o))) 1).map zar),.row s2.v 1 3 ((((h.mats[k].ts.take j).foldl zp4 (zay (zay (spM h k) (3,h.mats[k].p)) (2,h.mats[k].o))) 2).map zar),.row s3.v 1 3 ((((h.mats[k].ts.take j).foldl zp4 (zay (zay (spM h k) (3,h.mats[k].p)) (2,h.mats[k].o))) 3).map zar),.box b3 154 [.v s0.v,.v s1.v,.v s2.v,.v s3.v],.box b2 154 [.v (.slice none 0 0),.v (.slice none 0 0),.v (.slice none 0 0),.v (.slice none 0 0)],.box b1 28 (w6 h)],[]⟩) _ _ _ _ (es) ?_
    intro j s0 s1 s2 s3 lj
    refine rn ?_;refine z7 rfl (fun hc135=> ?_) (fun hc135=> ?_)
    ·have hj:=za4 hc135
     have rj:=zaj (f:=zar) hj
     have bj:=Bd.fold (c:=1) (l:=h.mats[k].ts.take j) (fun s _ L n h=>h.t s) ((bd.f (3,h.mats[k].p)).f (2,h.mats[k].o))
     have bl:(h.mats[k].ts.take j).length≤3000:=by rw [List.length_take];omega
     refine rn ?_;refine qq rfl rfl (y6 rfl rfl (by decide) (by decide)) ?_
     refine rn ?_;refine z8 rfl (v8 rfl rfl (zaz (y0.of_fun (zbu _ _ _ (by have:=bj 0;omega)))) rfl ?_)
     rintro _ _ ⟨s',rfl,rfl⟩
     refine qq rfl rfl (y6 rfl rfl (by decide) (by decide)) ?_
     refine rn ?_;have e:(h.mats[k].ts.take (j+1)).foldl zp4 (zay (zay (spM h k) (3,h.mats[k].p)) (2,h.mats[k].o))=zp4 ((h.mats[k].ts.take j).foldl zp4 (zay (zay (spM h k) (3,h.mats[k].p)) (2,h.mats[k].o))) h.mats[k].ts[j]:=zg9 _ _ hj
     exact ⟨hj,_,_,_,_,by simp only [e];exact eA⟩
    ·have qj:=za5 hc135 lj
     refine rn ?_;have e:spM h (k+1)=(h.mats[k].ts.take j).foldl zp4 (zay (zay (spM h k) (3,h.mats[k].p)) (2,h.mats[k].o)):=by rw [spM,zg9 _ _ hk,stepM,zjf _ _ qj];rfl
     exact ⟨hk,_,_,_,_,by simp only [e];exact eA⟩
   ·have qk:=za5 hc116 lk
    refine rn ?_;refine zjj h.wants.length (fun k s0 s1 s2 s3=>⟨[(148,iv k),(2,pZ b2),(3,pZ b3),(146,zun h.wants),(147,iv (h.wants.map zgq).length)],[.row s0.v 1 3 (((spW h k) 0).map zar),.row s1.v 1 3 (((spW h k) 1).map zar),.row s2.v 1 3 (((spW h k) 2).map zar),.row s3.v 1 3 (((spW h k) 3).map zar),.box b3 154 [.v s0.v,.v s1.v,.v s2.v,.v s3.v],.box b2 154 [.v (.slice none 0 0),.v (.slice none 0 0),.v (.slice none 0 0),.v (.slice none 0 0)],.box b1 28 (w6 h)],[]⟩) _ _ _ _ (by rw [show spW h 0=spM h k from (zjf stepM _ qk).symm];exact es) ?_
    intro k s0 s1 s2 s3 lk
    refine rn ?_;refine z7 rfl (fun hc149=> ?_) (fun hc149=> ?_)
    ·have hk:=za4 hc149
     have rk:=zaj (f:=zgq) hk
     have bd:=bdW la k lk
     have le:=la.wants
     refine rn ?_;refine z8 rfl (y4 rfl fun b17=> ?_)
     refine rn ?_;refine qq rfl rfl (y6 rfl rfl (by decide) (by decide)) ?_
     refine rn ?_;refine z8 rfl (v8 rfl rfl (zaz (y0.of_fun (zbu _ _ _ (by have:=bd 1;omega)))) rfl ?_)
     rintro _ _ ⟨s',rfl,rfl⟩
     refine qq rfl rfl (y6 rfl rfl (by decide) (by decide)) ?_
     refine rn ?_;have e:spW h (k+1)=yf7 (spW h k) h.wants[k]:=zg9 _ _ hk
     exact ⟨hk,_,_,_,_,by simp only [e];exact eA⟩
    ·have qk:=za5 hc149 lk
     refine rn ?_;exact ze6 (.cons _ _ _ _ (.agg _ _ _ _ _ _ _ rfl inferInstance inferInstance inferInstance rfl) .nil) (.trans (zc1 [] _) (.trans (zc1 [_] _) (.trans (zc1 [_,_] _) (.trans (zc1 [_,_,_] _) (.drop [_,_,_] _ _))))) ⟨rfl,by rw [←show spW h k=zcx h from zjf _ _ qk];rfl⟩
theorem ygx (h:Hist) (la:Lim 4611686018427387904 h):y8 Tryz.prog 65 [.agg (w6 h)] [] (fun r h'=>h'= []∧r=bv (zjw h)):=by
 refine z6 Tryz.func65 rfl rfl rfl ?_
 refine rn ?_;refine z8 rfl (w9 rfl rfl rfl fun b1=> ?_)
 refine rn ?_;refine qv rfl rfl (y1 rfl rfl (j4 (ybt h la) (Sbs.refl _))) ?_
 refine rn ?_;refine z7 rfl (fun hc10=> ?_) (fun hc10=> ?_)
 ·refine rn ?_;refine rq 1 ?_
  exact ⟨rfl,congrArg bv (by rw [ymk (by simpa using hc10)])⟩
 ·have hs:zad h=true:=by simpa using hc10
  have la3:=zo6 hs
  refine rn ?_;refine qv rfl rfl (y1 rfl rfl (j4 (ybs h la3) (Sbs.refl _))) ?_
  refine rn ?_;refine zcu (4) (fun k:Nat=>∀j,j < k→okS h j=true) (fun k=> [(13,iv k)]) [(1,_),(12,_)] (fun j hj=>by omega) ?_
  intro k lk zk
  refine rn ?_;refine z7 rfl (fun hc14=> ?_) (fun hc14=> ?_)
  ·have hk:k < 4:=by simp at hc14;omega
   have r0:=yt8 h hk
   have r1:=ynu h hk
   have bl:=zys la3 k
   refine rn ?_;refine z7 rfl (fun hc35=> ?_) (fun hc35=> ?_)
   ·refine rn ?_;refine rq 1 ?_
    exact ⟨rfl,congrArg bv (by rw [ybq hk];rw [okS,beq_eq_false_iff_ne.2 (by simp at hc35;omega),Bool.false_and])⟩
   ·have hlen:(zcx h k).length=(nmK h k).length:=by simp at hc35;omega
    refine rn ?_;refine zcu ((zcx h k).length) (fun i:Nat=>zf0 0 (zcx h k)=zf0 i ((zcx h k).drop i)) (fun i=> [(38,iv i)]) [(1,_),(12,_),(13,_),(36,_),(37,_)] rfl ?_
    intro i li zi
    refine rn ?_;refine z7 rfl (fun hc39=> ?_) (fun hc39=> ?_)
    ·have hi:=za4 hc39
     have ri:=zaj (f:=zar) hi
     refine rn ?_;refine z7 rfl (fun hc45=> ?_) (fun hc45=> ?_)
     ·refine rn ?_;refine rq 1 ?_
      exact ⟨rfl,congrArg bv (by rw [ybq hk];rw [okS,ypv hi zi (by simp at hc45;omega),Bool.and_false])⟩
     ·refine rn ?_;exact ⟨hi,yaq hi zi (by simp at hc45;omega),eA⟩
    ·have qi:=za5 hc39 li
     refine rn ?_;exact ⟨hk,fun j hj=>(Nat.lt_or_ge j k).elim (zk j) (fun q=>by
      obtain rfl:j=k:=by omega
      rw [okS,hlen,ypw qi zi];simp),eA⟩
  ·have qk:k=4:=by simp at hc14;omega
   subst qk
   refine rn ?_;refine rq 1 ?_
   exact ⟨rfl,congrArg bv (by rw [ymj hs zk])⟩
theorem zsk (h:Hist) (la:Lim 4611686018427387904 h):y8 Tryz.prog 65 [.agg (w6 h)] [] (fun r h'=>h'= []∧r=bv (zf4 h)):=
 (ygx h la).mono fun _ _ q=>⟨q.1,by rw [q.2,ybr]⟩
attribute [local irreducible] zd0 jch zfc
theorem zpi {l:List Ev} {t x:Int} {j:Nat} (h:j < l.length) (hw:zat t x l[j]=true):zdz l t x (j+1)=some (l[j].v,j):=by
 rw [zdz,List.getElem?_eq_getElem h];simp only [hw,if_true]
theorem zg6 {l:List Ev} {t x:Int} {j:Nat} (h:j < l.length) (hw:zat t x l[j]=false):zdz l t x (j+1)=zdz l t x j:=by
 rw [zdz,List.getElem?_eq_getElem h];simp [hw]
theorem ygt {l:List Ev} {j:Nat} (h:j < l.length):(l.map evR)[(((j+1:Nat):Int) - 1).toNat]? =some (evR l[j]):=by
 rw [show (((j+1:Nat):Int) - 1).toNat=j by omega,List.getElem?_map,List.getElem?_eq_getElem h];rfl
theorem ykn (a b:Int):(decide (a ≥ 0) && decide (a < b))=decide (0≤a∧a < b):=by
 rw [Bool.eq_iff_iff];simp only [Bool.and_eq_true,decide_eq_true_eq,ge_iff_le]
theorem ygn {l:List Ev} {a:Nat} {t x:Int} (ha:a < l.length):zdz l t x a=zpt (l.take a) t x:=by
 rw [zpt,zpj (by rw [List.length_take];omega),List.length_take,Nat.min_eq_left (by omega)]
theorem zmv {α:Type} {l:List α} {q:α→Bool} {k:Nat} (hk:k < l.length):(l.take (k+1)).all q=((l.take k).all q && q l[k]):=by
 rw [List.take_succ_eq_append_getElem hk,List.all_append,List.all_cons,List.all_nil,Bool.and_true]
theorem ygv (h:Hist) (la:Lim 4611686018427387904 h):y8 Tryz.prog 66 [.agg (w6 h)] [] (fun r h'=>h'= []∧r=bv (za2 h)):=by
 refine z6 Tryz.func66 rfl rfl rfl ?_
 refine rn ?_;refine z8 rfl (w9 rfl rfl rfl fun b1=> ?_)
 refine rn ?_;refine qv rfl rfl (y1 rfl rfl (j4 (zsk h la) (Sbs.refl _))) ?_
 refine rn ?_;refine z7 rfl (fun hc7=> ?_) (fun hc7=> ?_)
 ·have hm:zf4 h=false:=by simpa using hc7
  refine rn ?_;refine rq 1 ?_
  exact ⟨rfl,congrArg bv (by rw [za2,hm];rfl)⟩
 ·have hm:zf4 h=true:=by simpa using hc7
  refine rn ?_;refine qv rfl rfl (y1 rfl rfl (j4 (zy2 h ((zqv hm).mono (by decide))) (Sbs.refl _))) ?_
  obtain ⟨bi,bj,be⟩:=yev (za7 (zfh h) rules10)
  rw [be]
  refine rn ?_;refine z8 rfl (y4 rfl fun b3=> ?_)
  refine rn ?_;refine rq 2 ?_
  exact ⟨rfl,congrArg bv (by rw [za2,hm,show zj7 h=za7 (zfh h) rules10 from zxu hm];cases za7 (zfh h) rules10 <;> rfl)⟩
theorem zy5 (h:Hist) (la:Lim 4611686018427387904 h):y8 Tryz.prog 16 [.agg (w6 h)] [] (fun r h'=>h'= []∧r=iv (u9 h)):=by
 refine z6 Tryz.func16 rfl rfl rfl ?_
 refine rn ?_;refine z8 rfl (w9 rfl rfl rfl fun b1=> ?_)
 refine rn ?_;refine qv rfl rfl (y1 rfl rfl (j4 (zsk h la) (Sbs.refl _))) ?_
 refine rn ?_;refine z7 rfl (fun hc5=> ?_) (fun hc5=> ?_)
 ·have hm:zf4 h=false:=by simpa using hc5
  refine rn ?_;refine rq 1 ?_
  exact ⟨rfl,by rw [u9,hm];rfl⟩
 ·have hm:zf4 h=true:=by simpa using hc5
  refine rn ?_;refine qv rfl rfl (y1 rfl rfl (j4 (ygv h la) (Sbs.refl _))) ?_
  refine rn ?_;refine z7 rfl (fun hc8=> ?_) (fun hc8=> ?_)
  ·refine rn ?_;refine rq 1 ?_
   exact ⟨rfl,by rw [u9,hm,if_pos rfl,if_neg (by simpa using hc8)];rfl⟩
  ·refine rn ?_;refine rq 1 ?_
   exact ⟨rfl,by rw [u9,hm,if_pos rfl,if_pos (by simpa using hc8)];rfl⟩
theorem zks (h:Hist) (la:h.evs.length≤1000000) (t x:Int):y8 Tryz.prog 75 [.agg (w6 h),iv t,iv x] [] (fun r h'=>h'= []∧r= .tup [.agg (yfx (zrx (zpt h.evs t x))),iv (atO (zpt h.evs t x)),bv (zpt h.evs t x).isSome]):=by
 refine z6 Tryz.func75 rfl rfl rfl ?_
 refine rn ?_;refine z8 rfl (w9 rfl rfl rfl fun b3=> ?_)
 refine z8 rfl (y4 rfl fun b6=> ?_)
 refine q1 ?_;refine q1 ?_;refine u6 (zab ?_)
 refine w8 ?_;refine w8 (y3 ?_)
 refine q1 ?_;refine q1 ?_;refine q1 ?_;refine qq rfl rfl (zcb rfl rfl rfl (by rw [oM];omega)) ?_
 refine rn ?_;refine zhf (fun k:Nat=>k≤h.evs.length∧zdz h.evs t x h.evs.length=zdz h.evs t x k) (fun k=>⟨[(9,iv ((k:Int) - 1)),(1,iv t),(2,iv x),(3,pZ b3),(6,pZ b6),(7,iv 0),(8,bv false)],.box b6 57 [iv 0,iv 0]:: .box b3 28 (w6 h):: [],[]⟩) (fun k=>k) h.evs.length ⟨Nat.le_refl _,rfl⟩ (by rw [oM];exact es) ?_
 rintro k ⟨lk,zk⟩
 refine rn ?_;refine z7 rfl (fun hc16=> ?_) (fun hc16=> ?_)
 ·obtain ⟨j,rfl⟩:∃j,k=j+1:=⟨k - 1,by have:=oT hc16;omega⟩
  have hj:j < h.evs.length:=by omega
  refine zan ?_;refine zab ?_;refine w8 ?_;refine zb4 ?_;refine w8 (y3 ?_)
  refine q1 ?_;refine q1 ?_;refine q1 ?_;refine qq rfl rfl (zax rfl rfl (by omega) (ygt hj)) ?_
  refine rn ?_;refine z8 rfl (y4 rfl fun b10=> ?_)
  refine rn ?_;refine w7 (fun hg5_3=> ?_) (fun hg5_3=> ?_)
  ·refine rn ?_;refine w7 (fun hg5_9=> ?_) (fun hg5_9=> ?_)
   ·refine rn ?_;refine z7 rfl (fun hc38=> ?_) (fun hc38=> ?_)
    ·have hw:zat t x h.evs[j]=true:=by rw [zat];first|(rw [hg5_3,hg5_9,hc38];rfl)|(rw [hg5_3,hg5_9];rfl)|(rw [hg5_3];rfl)
     refine rn ?_;exact ze6 (.cons _ _ _ _ (.agg _ _ _ _ _ _ _ rfl inferInstance inferInstance inferInstance rfl) (.cons _ _ _ _ (.tmp _ _ rfl) (.cons _ _ _ _ (.tmp _ _ rfl) .nil))) (.drop [_,_,_] _ _) ⟨rfl,by rw [zpt,zk,zpi hj hw];simp only [zrx,atO];rw [show (((j+1:Nat):Int) - 1)=(j:Int) by omega];rfl⟩
    ·have hw:zat t x h.evs[j]=false:=by rw [zat];first|(rw [hg5_3,hg5_9,hc38];rfl)|(rw [hg5_3,hg5_9];rfl)|(rw [hg5_3];rfl)
     refine zan ?_;refine zje ?_;refine zab ?_;refine y3 ?_;refine q1 ?_;refine qq rfl rfl (zcb rfl rfl rfl (by omega)) ?_
     refine rn ?_;exact ⟨j,⟨by omega,by rw [zk,zg6 hj hw]⟩,by rw [show (((j+1:Nat):Int) - 1 - 1)=(j:Int) - 1 by omega];exact eA,by omega⟩
   ·refine rn ?_;refine zff rfl ?_;have hw:zat t x h.evs[j]=false:=by rw [zat];first|(rw [hg5_3,hg5_9,hc38];rfl)|(rw [hg5_3,hg5_9];rfl)|(rw [hg5_3];rfl)
    refine zan ?_;refine zje ?_;refine zab ?_;refine y3 ?_;refine q1 ?_;refine qq rfl rfl (zcb rfl rfl rfl (by omega)) ?_
    refine rn ?_;exact ⟨j,⟨by omega,by rw [zk,zg6 hj hw]⟩,by rw [show (((j+1:Nat):Int) - 1 - 1)=(j:Int) - 1 by omega];exact eA,by omega⟩
  ·refine rn ?_;refine zff rfl ?_;have hw:zat t x h.evs[j]=false:=by rw [zat];first|(rw [hg5_3,hg5_9,hc38];rfl)|(rw [hg5_3,hg5_9];rfl)|(rw [hg5_3];rfl)
   refine zan ?_;refine zje ?_;refine zab ?_;refine y3 ?_;refine q1 ?_;refine qq rfl rfl (zcb rfl rfl rfl (by omega)) ?_
   refine rn ?_;exact ⟨j,⟨by omega,by rw [zk,zg6 hj hw]⟩,by rw [show (((j+1:Nat):Int) - 1 - 1)=(j:Int) - 1 by omega];exact eA,by omega⟩
 ·have qk:k=0:=by have:=oF hc16;omega
  subst qk
  refine zof ?_;refine zm0 ?_;refine zm0 ?_;refine zgk ?_;refine zab ?_;refine w8 (y3 ?_)
  refine qq rfl rfl (zae (out:= [iv 0,iv 0]) rfl (by rfl)) ?_
  refine rn ?_;exact ze6 (.cons _ _ _ _ (.agg _ _ _ _ _ _ _ rfl inferInstance inferInstance inferInstance rfl) (.cons _ _ _ _ (.tmp _ _ rfl) (.cons _ _ _ _ (.tmp _ _ rfl) .nil))) (.drop [_,_] _ _) ⟨rfl,by rw [zpt,zk];rfl⟩
theorem yin {h:Hist} {x:Int} {k:Nat} (hk:k < h.ords.length) (hx:(h.ords[k].o==x)=true) (hz:((h.ords.take k).all fun o:Ord=> !(o.o==x))=true):zdn h x=h.ords[k].ts:=by
 have:h.ords.find? (fun o=>o.o==x)=some h.ords[k]:=by
  rw [List.find?_eq_some_iff_getElem]
  exact ⟨hx,k,hk,rfl,fun j hj=>by have:=List.all_eq_true.1 hz h.ords[j] (zjb (by omega) hj);exact this⟩
 rw [zdn,this]
theorem yn8 {h:Hist} {x:Int} (hz:(h.ords.all fun o:Ord=> !(o.o==x))=true):zdn h x=zbo h x:=by
 have:h.ords.find? (fun o=>o.o==x)=none:=by
  rw [List.find?_eq_none];intro s hs q
  have:=List.all_eq_true.1 hz s hs
  rw [q] at this;cases this
 rw [zdn,this]
theorem znr {h:Hist} {N:Nat} (la:Lim N h) (x:Int):(zdn h x).length≤N:=by
 unfold zdn
 split
 ·rename_i o ho;exact la.ordts o (List.mem_of_find?_eq_some ho)
 ·exact Nat.le_trans (zgs _ _) la.ts
def zef (h:Hist) (x n:Int):Option Int:=if 0≤n then (zdn h x)[n.toNat]? else none
theorem yv3 {h:Hist} {x n:Int} (h2:decide (n < 0)=true):zef h x n=none:=by rw [zef,if_neg (by have:=oT h2;omega)]
theorem yv2 {h:Hist} {x n:Int} (hn:decide (n ≥ (((zdn h x).map zar).length:Int))=true):zef h x n=none:=by
 have hn:=oT hn
 rw [oM] at hn
 rw [zef];split
 ·rw [List.getElem?_eq_none (by omega)]
 ·rfl
theorem yw0 {h:Hist} {x n:Int} (h2:decide (n < 0)=false) (hn:decide (n ≥ (((zdn h x).map zar).length:Int))=false):∃a,0≤n∧((zdn h x).map zar)[n.toNat]? =some (zar a)∧zef h x n=some a:=by
 have hn:=oF hn
 have h2:=oF h2
 rw [oM] at hn
 refine ⟨(zdn h x)[n.toNat]'(by omega),by omega,?_,?_⟩
 ·rw [List.getElem?_map,List.getElem?_eq_getElem (by omega)];rfl
 ·rw [zef,if_pos (by omega),List.getElem?_eq_getElem (by omega)]
def rkQ (h:Hist) (x:Int) (v:Ver) (t:Int):Bool:=zrx (zpt h.evs t x)==v
def zco (h:Hist) (x:Int) (v:Ver):Int×Bool:=if v=⟨0,0⟩ then (0,true) else if zbw (rkQ h x v) 0 (zdn h x) ≥ 0 then (zbw (rkQ h x v) 0 (zdn h x)+1,true) else (0,false)
theorem yqk {h:Hist} {x:Int} {v:Ver} {k:Nat} (hv:v≠⟨0,0⟩) (hk:k < (zdn h x).length) (hq:rkQ h x v (zdn h x)[k]=true) (hz:(((zdn h x).take k).all fun t=> !rkQ h x v t)=true):zco h x v=((k:Int)+1,true):=by
 have:zbw (rkQ h x v) 0 (zdn h x)=(k:Int):=by
  have:=zvy (p:=rkQ h x v) (l:=zdn h x) (i:=0) hk hq (fun j hj=>by
   have:=List.all_eq_true.1 hz (zdn h x)[j] (zjb (by omega) hj)
   simpa using this)
  rw [this];congr 1;omega
 rw [zco,if_neg hv,this,if_pos (by omega)]
theorem yuf {h:Hist} {x:Int} {v:Ver} (hv:v≠⟨0,0⟩) (hz:((zdn h x).all fun t=> !rkQ h x v t)=true):zco h x v=(0,false):=by
 have:decide (zbw (rkQ h x v) 0 (zdn h x) ≥ 0)=false:=by
  rw [zey,List.any_eq_false];intro t ht
  have:=List.all_eq_true.1 hz t ht
  simpa using this
 rw [zco,if_neg hv,if_neg (oF this)]
theorem zhv (h:Hist) (la:Lim 1000000 h) (x:Int):y8 Tryz.prog 74 [.agg (w6 h),iv x] [] (fun r h'=>h'= []∧r=zbe (zdn h x)):=by
 refine z6 Tryz.func74 rfl rfl rfl ?_
 have bo:=la.ords
 refine rn ?_;refine z8 rfl (w9 rfl rfl rfl fun b2=> ?_)
 refine rn ?_;refine zcu (h.ords.length) (fun k:Nat=>((h.ords.take k).all fun o:Ord=> !(o.o==x))=true) (fun k=> [(10,iv k)]) [(1,_),(2,_),(8,_),(9,_)] rfl ?_
 intro k lk zk
 refine rn ?_;refine z7 rfl (fun hc11=> ?_) (fun hc11=> ?_)
 ·have hk:=za4 hc11
  have rk:=zaj (f:=ze7) hk
  refine rn ?_;refine z8 rfl (y4 rfl fun b6=> ?_)
  refine rn ?_;refine z7 rfl (fun hc17=> ?_) (fun hc17=> ?_)
  ·refine rn ?_;refine rq 2 ?_
   exact ⟨rfl,by rw [yin hk hc17 zk];rfl⟩
  ·refine rn ?_;exact ⟨hk,by rw [zmv hk,zk,hc17];rfl,eA⟩
 ·have qk:=za5 hc11 lk
  rw [qk,List.take_length] at zk
  refine rn ?_;refine qv rfl rfl (y1 rfl rfl (j4 (zif h x la) (Sbs.refl _))) ?_
  refine rn ?_;refine rq 1 ?_
  exact ⟨rfl,by rw [yn8 zk];rfl⟩
theorem ybx (h:Hist) (la:Lim 1000000 h) (x n:Int):y8 Tryz.prog 186 [.agg (w6 h),iv x,iv n] [] (fun r h'=>h'= []∧r= .tup [iv ((zef h x n).getD 0),bv (zef h x n).isSome]):=by
 refine z6 Tryz.func186 rfl rfl rfl ?_
 refine rn ?_;refine z8 rfl (w9 rfl rfl rfl fun b3=> ?_)
 refine rn ?_;refine qv rfl rfl (y1 rfl rfl (j4 (zhv h la x) (Sbs.refl _))) ?_
 refine rn ?_;refine w7 (fun hg2_2=> ?_) (fun hg2_2=> ?_)
 ·refine rn ?_;refine zfe rfl ?_;have hn:zef h x n=none:=by first|exact yv3 hg2_2|exact yv2 hc19
  refine rn ?_;refine rq 1 ?_
  exact ⟨rfl,by rw [hn];rfl⟩
 ·refine rn ?_;refine z7 rfl (fun hc19=> ?_) (fun hc19=> ?_)
  ·have hn:zef h x n=none:=by first|exact yv3 hg2_2|exact yv2 hc19
   refine rn ?_;refine rq 1 ?_
   exact ⟨rfl,by rw [hn];rfl⟩
  ·obtain ⟨a,h0,ha,hn⟩:=yw0 hg2_2 hc19
   refine zan ?_;refine zab ?_;refine w8 (y3 ?_)
   refine q1 ?_;refine q1 ?_;refine qq rfl rfl (zax rfl rfl h0 ha) ?_
   refine rn ?_;refine rq 1 ?_
   exact ⟨rfl,by rw [hn];rfl⟩
theorem zsl (h:Hist) (la:Lim 1000000 h) (x:Int) (v:Ver):y8 Tryz.prog 119 [.agg (w6 h),iv x,.agg (yfx v)] [] (fun r h'=>h'= []∧r= .tup [iv (zco h x v).1,bv (zco h x v).2]):=by
 refine z6 Tryz.func119 rfl rfl rfl ?_
 have be:=la.evs
 have bi:=znr la x
 refine rn ?_;refine z8 rfl (w9 rfl rfl rfl fun b3=> ?_)
 refine z8 rfl (w9 rfl rfl rfl fun b5=> ?_)
 refine q1 ?_;refine q1 ?_;refine u6 (zab ?_)
 refine w8 ?_;refine w8 (y3 ?_)
 refine q1 ?_;refine qq rfl rfl (zae (out:= [iv 0,iv 0]) rfl (by rfl)) ?_
 refine rn ?_;refine z7 rfl (fun hc15=> ?_) (fun hc15=> ?_)
 ·have hv:v=⟨0,0⟩:=eq_of_beq (by rw [←zcv];exact hc15)
  refine rn ?_;refine rq 2 ?_
  exact ⟨rfl,by rw [zco,if_pos hv];rfl⟩
 ·have hv:v≠⟨0,0⟩:=beq_eq_false_iff_ne.1 (by rw [←zcv];exact hc15)
  refine rn ?_;refine qv rfl rfl (y1 rfl rfl (j4 (zhv h la x) (Sbs.refl _))) ?_
  refine rn ?_;refine zcu ((zdn h x).length) (fun k:Nat=>(((zdn h x).take k).all fun t=> !rkQ h x v t)=true) (fun k=> [(20,iv k)]) [(1,_),(3,_),(5,_),(18,_),(19,_)] rfl ?_
  intro k lk zk
  refine rn ?_;refine z7 rfl (fun hc21=> ?_) (fun hc21=> ?_)
  ·have hk:=za4 hc21
   have rk:=zaj (f:=zar) hk
   refine rn ?_;refine qv rfl rfl (y1 rfl rfl (j4 (zks h la.evs (zdn h x)[k] x) (Sbs.refl _))) ?_
   refine rn ?_;refine z8 rfl (y4 rfl fun b10=> ?_)
   refine rn ?_;refine z7 rfl (fun hc35=> ?_) (fun hc35=> ?_)
   ·have hq:(zrx (zpt h.evs (zdn h x)[k] x)==v)=true:=by rw [←zcv];exact hc35
    refine w8 (y3 ?_)
    refine q1 ?_;refine qq rfl rfl (zcb rfl rfl rfl (by omega)) ?_
    refine rn ?_;refine rq 3 ?_
    exact ⟨rfl,by rw [yqk hv hk hq zk];rfl⟩
   ·have hq:(zrx (zpt h.evs (zdn h x)[k] x)==v)=false:=by rw [←zcv];exact hc35
    refine rn ?_;exact ⟨hk,by rw [zmv hk,zk,rkQ,hq];rfl,eA⟩
  ·have qk:=za5 hc21 lk
   rw [qk,List.take_length] at zk
   refine rn ?_;refine rq 2 ?_
   exact ⟨rfl,by rw [yuf hv zk];rfl⟩
def wlM (l:List Ev):Nat→List ((Int×Int)×Int)
 |0=> []
 |k+1=>match l[k]? with
  |some e=>if (e.kind==2)=true then zew (e.t,e.o) (k:Int) (wlM l k) else wlM l k
  |none=>wlM l k
theorem yk9 {l:List Ev} {k:Nat} (hk:k < l.length) (hw:(l[k].kind==2)=true):wlM l (k+1)=zew (l[k].t,l[k].o) (k:Int) (wlM l k):=by
 rw [wlM,List.getElem?_eq_getElem hk];simp only [hw,if_true]
theorem yla {l:List Ev} {k:Nat} (hk:k < l.length) (hw:(l[k].kind==2)=false):wlM l (k+1)=wlM l k:=by
 rw [wlM,List.getElem?_eq_getElem hk];simp only [hw];rfl
theorem yak (l:List Ev) (t x:Int):∀k,k≤l.length→(zbs (t,x) (wlM l k)).getD 0=atO (zdz l t x k)
 |0,_=>rfl
 |k+1,hk=>by
  have ih:=yak l t x k (by omega)
  have hk':k < l.length:=hk
  cases hw:l[k].kind==2 with
  |false=>
   have:zat t x l[k]=false:=by rw [zat,hw];rfl
   rw [yla hk' hw,zg6 hk' this,ih]
  |true=>
   rw [yk9 hk' hw,zdc]
   cases hq:zat t x l[k] with
   |true=>
    rw [zpi hk' hq,if_pos]
    ·rfl
    ·simp only [zat,Bool.and_eq_true,beq_iff_eq] at hq
     rw [hq.1.2,hq.2]
   |false=>
    rw [zg6 hk' hq,if_neg,ih]
    intro e
    rw [Prod.mk.injEq] at e
    simp [zat,hw,e.1,e.2] at hq
theorem zwj (h:Hist) (t x:Int):(zbs (t,x) (wlM h.evs h.evs.length)).getD 0=zeg h t x:=yak _ _ _ _ (Nat.le_refl _)
abbrev yse (h:Hist):AV:= .list false 1 (((upR h.os.length).map (zb6 h)).map ypg)
abbrev zbh (h:Hist) (rm:Nat):Res:= .map rm (zas zbi (zbv iv (wlM h.evs h.evs.length)))
theorem zxo (h:Hist) {x:Int} (h0:0≤x) (h1:x < h.os.length):(((upR h.os.length).map (zb6 h)).map ypg)[x.toNat]? =some (ypg (zb6 h x)):=by
 have hx:(upR h.os.length)[x.toNat]? =some x:=by
  rw [upR,List.getElem?_map,List.getElem?_range (by omega)];simp [Int.toNat_of_nonneg h0]
 rw [List.getElem?_map,List.getElem?_map,hx];rfl
theorem ysa (h:Hist) (la:Lim 4611686018427387904 h) (hc:u9 h=0) (x:Int) (h0:0≤x) (h1:x < h.os.length):y8 Tryz.prog 101 [.agg (w6 h),iv x] (.glob 2 156 y5:: .glob 4 305 y7:: .glob 5 308 y2:: .glob 3 246 u5:: []) (fun r h'=>h'= .glob 2 156 y5:: .glob 4 305 y7:: .glob 5 308 y2:: .glob 3 246 u5:: []∧r= .tup [zbe (zb6 h x),iv 0]):=(ykj h la x).mono fun _ _ q=>⟨q.1,by rw [q.2,zwf hc ⟨h0,h1⟩];rfl⟩
theorem ztf {h:Hist} (hc:u9 h=0) {x:Int} (h0:0≤x) (h1:x < h.os.length):(zb6 h x).length≤3000:=by
 rw [(zjd (zbj.1 hc) h0 h1).2.1]
 exact Nat.le_trans (zkh h.evs x) (zez hc).evs
end Go.Proofs
namespace Go.H
open Go Go.Ab
def zvq (k:Int):Int:=if k=3 then 3 else if k=4 then 4 else 0
def KO (o:Obj):Prop:=∃(ents:Array MapEntry) (clock:Nat) (m:List (Int×Int)),o= .map ents clock∧ents.toList.map (·.key)=(m.map (·.1)).map intK∧(∀i (h1:i < m.length) (h2:i < ents.size),ents[i].val= .int .i64 m[i].2)∧m.length=ents.size∧∀k,(zbs k m).getD 0=zvq k
section
variable {P:Program} {dst:Option Tmp} {ty:TypeId} {pos:String} {after:Array Edge} {guard:Option (Nat×Bool)} {x y:Operand} {h:List Res} {f:Operand→Option AV} {kt et T:TypeId} {r i:Nat} {k:Int}
theorem yhc {kv:AV} {o:Obj} {z:Value} (ho:KO o) (hx:f x=some (.v (.map (some r)))) (hy:f y=some kv) [hkv:KeyV kv (intK k)] [hm:HasObj h r i o] [hu:Und P T (.map kt et)] [hkt:KeyT P kt intK] [hz:ZerV P et z] [hd:ZV z (iv 0)]:
 QR P h f ⟨dst,.lookup T x y false,ty,pos,after,guard⟩ (iv (zvq k)):=by
 obtain ⟨ents,clock,m,rfl,hks,hv,hl,hk⟩:=ho
 rw [←hk]
 refine zi8 (b:=iv ((zbs k m).getD 0)) (a:=(zd7 k (zbv iv m)).getD (.v z)) (fun w O v hr=>zmk hr) fun X ρ w hev=> ?_
 have hob:=(hev.heap.holds _ (List.mem_of_getElem? hm.h)).1
 have hl':(zbv iv m).length=ents.toList.length:=by simpa [zbv] using hl
 have hks':ents.toList.map (·.key)=((zbv iv m).map (·.1)).map intK:=by rw [hks];simp [zbv]
 have hfind:=hkt.find w k ents.toList ((zbv iv m).map (·.1)) hks'
 have hkey:=hkv.h w _ _ (hev.rel y _ hy)
 rcases zk5 k (zbv iv m) ents.toList 0 hl' with ⟨a,b,c⟩|⟨j,g1,g2,a,b,c,d⟩
 ·refine ⟨z,run_v _ ?_,by rw [b];exact .v _⟩
  rw [(hev.rel x _ hx).v_eq,hkey]
  simp only [Instr.lookup,Sem.run_bind,Go.Ab.run_underlying (h:=hu),Result.andThen_ok,MapKept.run_getObj_map hob,Sem.run_pure,hkt.chk,hfind]
  rw [a]
  simp [run_zeroValue hz.h]
 ·have g3:j < m.length:=by simpa [zbv] using g1
  refine ⟨(ents[j]'(by simpa using g2)).val,run_v _ ?_,?_⟩
  ·rw [(hev.rel x _ hx).v_eq,hkey]
   simp only [Instr.lookup,Sem.run_bind,Go.Ab.run_underlying (h:=hu),Result.andThen_ok,MapKept.run_getObj_map hob,Sem.run_pure,hkt.chk,hfind]
   rw [a]
   simp
  ·rw [b,hv j g3 (by omega)]
   simp only [zbv,List.getElem_map,Option.getD_some]
   exact .v _
end
end Go.H
set_option maxRecDepth 10000
namespace Go.Proofs
open Go Go.Ab
attribute [local irreducible] QR QV OE zct aw zdf zch zbm za3 thn zfl zd0 jch zfc
open Go.H
abbrev rcR (h:Hist) (rc:Nat):Res:= .map rc (zas intK (zbv bv (dnM (zfw h.evs))))
abbrev rkS (h:Hist) (rk:Nat):Res:= .map rk (zas zft (zbv iv (rkM h h.os.length)))
abbrev rgR (rg:Nat) (M:List ((Int×Int)×List Int)):Res:= .map rg (zas zbi (zbv zbe M))
abbrev rwP (h:Hist) (rc rl rk rg:Nat):List AV:=w6 h++ [mpv rc,yse h,mpv rl,mpv rk,mpv rg]
instance:ZV (.slice none 0 0) (zbe []):=⟨fun w O u h=>by rw [h.v_eq];exact .lnil _ _ _ _ (fun q=>by cases q)⟩
theorem yug (h:Hist) (n:Nat):rkM h (n+1)=zin h n 0 (zb6 h n) (zew (zue n ⟨0,0⟩) 0 (rkM h n)):=rfl
def zol (h:Hist) (M:List ((Int×Int)×List Int)):Prop:=∀p l,zbs p M=some l→l=chL h p.1 p.2
theorem zmt (h:Hist):zol h []:=fun p l e=>by cases e
theorem zx7 {h:Hist} {M:List ((Int×Int)×List Int)} (hM:zol h M) (p x:Int):zol h (zew (p,x) (chL h p x) M):=fun q l e=>by
 rw [zdc] at e
 split at e
 ·rename_i z;injection e with e;rw [←e,←z]
 ·exact hM q l e
theorem zx9 {h:Hist} {M:List ((Int×Int)×List Int)} (hM:zol h M) {p x:Int} (hs:(!(zbs (p,x) M).isSome)=false):(zbs (p,x) M).getD []=chL h p x:=by
 cases hq:zbs (p,x) M with
 |none=>rw [hq] at hs;simp at hs
 |some v=>exact hM (p,x) v hq
theorem zx8 {h:Hist} {M:List ((Int×Int)×List Int)} (p x:Int):(zbs (p,x) (zew (p,x) (chL h p x) M)).getD []=chL h p x:=by rw [zdc,if_pos rfl];rfl
instance:Chk3 Tryz.prog 170:=⟨fun e w a b c=>by kernel_rfl⟩
theorem ywm (h:Hist) (la:Lim 4611686018427387904 h):y8 Tryz.prog 87 [.agg (w6 h)] (.glob 2 156 y5:: .glob 4 305 y7:: .glob 5 308 y2:: .glob 3 246 u5:: []) (fun r h'=>(u9 h=0∧∃rc rl rk rg,h'=rgR rg []::rkS h rk::zbh h rl::rcR h rc:: .glob 2 156 y5:: .glob 4 305 y7:: .glob 5 308 y2:: .glob 3 246 u5:: []∧r= .tup [.agg (rwP h rc rl rk rg),iv 0])∨(u9 h≠0∧h'= .glob 2 156 y5:: .glob 4 305 y7:: .glob 5 308 y2:: .glob 3 246 u5:: []∧r= .tup [.agg (zti++ [nmp,.v (.slice none 0 0),nmp,nmp,nmp]),iv (u9 h)])):=by
 refine z6 Tryz.func87 rfl rfl rfl ?_
 refine rn ?_;refine z8 rfl (w9 rfl rfl rfl fun b1=> ?_)
 refine z8 rfl (y4 rfl fun b2=> ?_)
 refine rn ?_;refine qv rfl rfl (y1 rfl rfl (y0.qt (y0.of_fun (ykl h la)) ((pt2 _ _ _ _).trans (.cons _ ((pt2 _ _ _ _).trans (.cons _ ((pt2 _ _ _ _).trans (.cons _ (pt2 _ _ _ _))))))))) ?_
 refine rn ?_;refine z7 rfl (fun hc22=> ?_) (fun hc22=> ?_)
 ·have hc:=nzT hc22
  refine rn ?_;exact ze6 (.cons _ _ _ _ (.agg _ _ _ _ _ _ _ rfl inferInstance inferInstance inferInstance rfl) (.cons _ _ _ _ (.tmp _ _ rfl) .nil)) (.drop [_,_] _ _) (.inr ⟨hc,rfl,rfl⟩)
 ·have hc:=nzF hc22
  have hts:onE (u9 h) (zfw h.evs)=(zfw h.evs):=by rw [hc,onE,if_pos rfl]
  rw [hts]
  have hs:=zbj.1 hc
  have lA:=zez hc
  have lO:=lA.os
  have lE:=lA.evs
  have bC:=Nat.le_trans (yot h.evs) lA.evs
  refine rn ?_;refine z8 rfl (zbd (enc:=intK) rfl fun b26=> ?_)
  refine z8 rfl (zbd (enc:=zbi) rfl fun b27=> ?_)
  refine z8 rfl (zbd (enc:=zft) rfl fun b28=> ?_)
  refine z8 rfl (zbd (enc:=zbi) rfl fun b29=> ?_)
  refine qq rfl rfl (zae (out:=w6 h++ [mpv b26,.v (.slice none 0 0),mpv b27,mpv b28,mpv b29]) rfl (by rfl)) ?_
  refine z8 rfl (y4 rfl fun b6=> ?_)
  refine rn ?_;refine zcl (zfw h.evs).length (fun _=>True) (fun k=>⟨[(33,iv k),(1,pZ b1),(2,pZ b2),(6,pZ b6),(31,zbe (zfw h.evs)),(32,iv ((zfw h.evs).map zar).length)],.box b6 119 (w6 h++ [mpv b26,.v (.slice none 0 0),mpv b27,mpv b28,mpv b29]):: .map b29 (zas zbi (zbv zbe [])):: .map b28 (zas zft (zbv iv [])):: .map b27 (zas zbi (zbv iv (wlM h.evs 0))):: .map b26 (zas intK (zbv bv (dnM ((zfw h.evs).take k)))):: .box b2 119 (zti++ [nmp,.v (.slice none 0 0),nmp,nmp,nmp]):: .box b1 28 (w6 h):: .glob 2 156 y5:: .glob 4 305 y7:: .glob 5 308 y2:: .glob 3 246 u5:: [],[]⟩) trivial es ?_
  intro k lk _
  refine rn ?_;refine z7 rfl (fun hc34=> ?_) (fun hc34=> ?_)
  ·have hk:=za4 hc34
   have rk:=zaj (f:=zar) hk
   refine rn ?_;refine z8 rfl (za6 (g:=bv) (enc:=intK) (k:=(zfw h.evs)[k]) (v:=true) rfl rfl rfl ?_)
   refine rn ?_;exact ⟨hk,trivial,by rw [yvi hk];exact eA⟩
  ·have qk:=za5 hc34 lk
   rw [qk,List.take_length]
   refine rn ?_;refine zcl h.evs.length (fun _=>True) (fun j=>⟨[(44,iv j),(1,pZ b1),(2,pZ b2),(6,pZ b6),(42,zre h.evs),(43,iv (h.evs.map evR).length)],.box b6 119 (w6 h++ [mpv b26,.v (.slice none 0 0),mpv b27,mpv b28,mpv b29]):: .map b29 (zas zbi (zbv zbe [])):: .map b28 (zas zft (zbv iv [])):: .map b27 (zas zbi (zbv iv (wlM h.evs j))):: .map b26 (zas intK (zbv bv (dnM (zfw h.evs)))):: .box b2 119 (zti++ [nmp,.v (.slice none 0 0),nmp,nmp,nmp]):: .box b1 28 (w6 h):: .glob 2 156 y5:: .glob 4 305 y7:: .glob 5 308 y2:: .glob 3 246 u5:: [],[]⟩) trivial es ?_
   intro j lj _
   refine rn ?_;refine z7 rfl (fun hc45=> ?_) (fun hc45=> ?_)
   ·have hj:=za4 hc45
    have rj:=zaj (f:=evR) hj
    refine rn ?_;refine z8 rfl (y4 rfl fun b10=> ?_)
    refine rn ?_;refine z7 rfl (fun hc51=> ?_) (fun hc51=> ?_)
    ·have hw:(h.evs[j].kind==2)=true:=by simpa using hc51
     refine y3 ?_;refine q1 ?_;refine q1 ?_;refine q1 ?_;refine q1 ?_;refine q1 ?_;refine q1 ?_;refine qq rfl rfl (zcy (out:= [iv h.evs[j].t,iv h.evs[j].o]) rfl (by rfl)) ?_
     refine rn ?_;refine z8 rfl (za6 (g:=iv) (enc:=zbi) (k:=(h.evs[j].t,h.evs[j].o)) (v:=(j:Int)) rfl rfl rfl ?_)
     refine rn ?_;first|exact ⟨hj,trivial,by rw [yk9 hj hw];exact eA⟩|exact ⟨hj,trivial,by rw [yla hj hw];exact eA⟩
    ·have hw:(h.evs[j].kind==2)=false:=by simpa using hc51
     refine rn ?_;first|exact ⟨hj,trivial,by rw [yk9 hj hw];exact eA⟩|exact ⟨hj,trivial,by rw [yla hj hw];exact eA⟩
   ·have qj:=za5 hc45 lj
    subst qj
    refine rn ?_;refine zem h.os.length (fun k s=>⟨[(64,iv k),(1,pZ b1),(2,pZ b2),(6,pZ b6),(63,iv (h.os.map zid).length)],.row s.v 1 29 (((upR k).map (zb6 h)).map ypg):: .box b6 119 (w6 h++ [mpv b26,.v s.v,mpv b27,mpv b28,mpv b29]):: .map b29 (zas zbi (zbv zbe [])):: .map b28 (zas zft (zbv iv (rkM h k))):: .map b27 (zas zbi (zbv iv (wlM h.evs h.evs.length))):: .map b26 (zas intK (zbv bv (dnM (zfw h.evs)))):: .box b2 119 (zti++ [nmp,.v (.slice none 0 0),nmp,nmp,nmp]):: .box b1 28 (w6 h):: .glob 2 156 y5:: .glob 4 305 y7:: .glob 5 308 y2:: .glob 3 246 u5:: [],[]⟩) ⟨none,0,0⟩ (v7 (zam 1 29) es) ?_
    intro k s lk
    refine rn ?_;refine z7 rfl (fun hc65=> ?_) (fun hc65=> ?_)
    ·have hk:k < h.os.length:=by have q:=oT hc65;rw [oM] at q;omega
     have k0:(0:Int)≤(k:Int):=by omega
     have k1:(k:Int) < h.os.length:=by omega
     have hb:=ztf hc k0 k1
     refine rn ?_;refine qv rfl rfl (y1 rfl rfl (y0.qt (y0.of_fun (ysa h la hc k k0 k1)) ((pt8 _ _ _ _ _ _ _ _ _ _).trans (.cons _ ((pt8 _ _ _ _ _ _ _ _ _ _).trans (.cons _ ((pt8 _ _ _ _ _ _ _ _ _ _).trans (.cons _ (pt8 _ _ _ _ _ _ _ _ _ _))))))))) ?_
     refine rn ?_;refine qv rfl rfl (q6 rfl rfl) ?_
     refine z8 rfl (q7 rfl rfl (by simp only [oM,upR,List.length_range,List.length_cons,List.length_nil];omega) rfl (fun s77=> ?_) (fun r hr=>by rw [List.mem_singleton.1 hr];rfl))
     refine j3 s77 fun sv hsv=> ?_
     subst hsv
     refine q1 ?_;first|refine z8 rfl (j9 rfl rfl rfl ?_)|refine z8 rfl (zao rfl rfl rfl rfl (Nat.le_of_ble_eq_true rfl) ?_)
     refine u6 (zab ?_)
     refine w8 (y3 ?_)
     refine q1 ?_;refine q1 ?_;refine q1 ?_;refine qq rfl rfl (zae (out:= [iv k,iv 0,iv 0]) rfl (by rfl)) ?_
     refine z8 rfl (za6 (g:=iv) (enc:=zft) (k:=((k:Int),(0:Int),(0:Int))) (v:=(0:Int)) rfl rfl rfl ?_)
     refine rn ?_;refine zcl (zb6 h k).length (fun _=>True) (fun j=>⟨[(85,iv j),(1,pZ b1),(2,pZ b2),(6,pZ b6),(11,iv k),(63,iv (h.os.map zid).length),(64,iv k),(83,zbe (zb6 h k)),(84,iv ((zb6 h k).map zar).length)],.row sv.v 1 29 (((upR k).map (zb6 h)).map ypg++ [ypg (zb6 h k)]):: .box b6 119 (w6 h++ [mpv b26,.v sv.v,mpv b27,mpv b28,mpv b29]):: .map b29 (zas zbi (zbv zbe [])):: .map b28 (zas zft (zbv iv (zin h k 0 ((zb6 h k).take j) (zew (zue k ⟨0,0⟩) 0 (rkM h k))))):: .map b27 (zas zbi (zbv iv (wlM h.evs h.evs.length))):: .map b26 (zas intK (zbv bv (dnM (zfw h.evs)))):: .box b2 119 (zti++ [nmp,.v (.slice none 0 0),nmp,nmp,nmp]):: .box b1 28 (w6 h):: .glob 2 156 y5:: .glob 4 305 y7:: .glob 5 308 y2:: .glob 3 246 u5:: [],[]⟩) trivial es ?_
     intro j lj _
     refine rn ?_;refine z7 rfl (fun hc86=> ?_) (fun hc86=> ?_)
     ·have hj:=za4 hc86
      have rj:=zaj (f:=zar) hj
      obtain ⟨i,hi,a1,a2, -⟩:=zq4 hs k0 k1 hj
      have ri:=zaj (f:=evR) hi
      have hfv:zk4 h k (zb6 h k)[j]=h.evs[i].v:=by rw [zk4,a1];rfl
      refine rn ?_;refine k9 17 rfl ?_
      refine dq rfl rfl qrA ?_;refine dq rfl rfl qrA ?_;refine dq rfl rfl qrA ?_;refine dq rfl rfl qrA ?_;refine dq rfl rfl qrA ?_;refine dq rfl rfl qrA ?_;refine dq rfl rfl qrA ?_;refine dq rfl rfl qrA ?_;refine dq rfl rfl qrA ?_;refine dq rfl rfl (zcy (out:= [iv (zb6 h k)[j],iv k]) rfl (by rfl)) ?_
      refine dq rfl rfl (zhx (zcj (enc:=zbi) (k:=((zb6 h k)[j],(k:Int))) 0 rfl rfl) (show iv _=iv (i:Nat) from congrArg iv (by rw [zwj,a2]))) ?_
      refine dq rfl rfl (zca rfl rfl ri) ?_
      refine dq rfl rfl qrA ?_;refine dq rfl rfl qrA ?_;refine dq rfl rfl (zae (out:= [iv k,iv h.evs[i].v.t,iv h.evs[i].v.k]) rfl (by rfl)) ?_
      refine dq rfl rfl qrA ?_;refine dq rfl rfl (zcb rfl rfl rfl (by omega)) ?_
      refine rn ?_;refine z8 rfl (za6 (g:=iv) (enc:=zft) (k:=((k:Int),h.evs[i].v.t,h.evs[i].v.k)) (v:=(j:Int)+1) rfl rfl rfl ?_)
      refine rn ?_;exact ⟨hj,trivial,by rw [ymi hj,hfv];exact eA⟩
     ·have qj:=za5 hc86 lj
      rw [qj,List.take_length]
      refine rn ?_;exact ⟨hk,sv,by rw [zyo,List.map_append,List.map_append,yug];exact eA⟩
    ·have qk:k=h.os.length:=by have q:=oF hc65;rw [oM] at q;omega
     refine zof ?_;refine zm0 ?_;refine zm0 ?_;refine zgk ?_;refine zab ?_;refine w8 (y3 ?_)
     refine zhg (zox (w6 h++ [mpv b26]) [mpv b27,mpv b28,mpv b29]) ?_
     refine rn ?_;exact ze6 (.cons _ _ _ _ (.agg _ _ _ _ _ _ _ rfl inferInstance inferInstance inferInstance rfl) (.cons _ _ _ _ (.tmp _ _ rfl) .nil)) (.trans (.perm (.cons _ ((pt4 _ _ _ _ _ _).trans (.cons _ (pt4 _ _ _ _ _ _)))) _) (.drop [_,_,_] _ _)) (.inl ⟨hc,b26,b27,b28,b29,by rw [qk],by rw [qk];rfl⟩)
theorem yt0 {a:Int} (h:(a !=0)=true):a≠0:=by simpa using h
theorem yuw {a:Int} (h:(a !=0)=false):a=0:=by simpa using h
theorem yv4 {p:Prop} [Decidable p] (h:(!decide p)=true):¬p:=by simpa using h
theorem yv5 {p:Prop} [Decidable p] (h:(!decide p)=false):p:=by simpa using h
theorem yst {l:List Mat} {q:Mat→Bool} (hc:decide (zbw q 0 l < 0)=false):∃k,∃hk:k < l.length,zbw q 0 l=(k:Int)∧l.find? q=some l[k]:=by
 have:=zgl q l 0
 cases hf:l.find? q with
 |none=>rw [hf] at this;simp only at this;rw [this] at hc;exact absurd hc (by decide)
 |some o=>
  rw [hf] at this
  obtain ⟨k,hk,e,eo,_⟩:=this
  exact ⟨k,hk,by rw [e,Nat.zero_add],by rw [eo]⟩
theorem yvc {l:List Mat} {q:Mat→Bool} (hc:decide (zbw q 0 l < 0)=true):l.find? q=none:=by
 have:=zgl q l 0
 cases hf:l.find? q with
 |none=>rfl
 |some o=>
  rw [hf] at this
  obtain ⟨k,hk,e,eo,_⟩:=this
  rw [e] at hc
  have:=oT hc
  omega
theorem yh7 {h:Hist} {N:Nat} (la:Lim N h) (p x:Int):(yfn h p x).ts.length≤N:=by
 rw [yfn,ykh]
 cases hf:h.mats.find? (zqw p x) with
 |none=>exact Nat.zero_le _
 |some m=>exact la.matts m (List.mem_of_find?_eq_some hf)
def yll (h:Hist) (p o:Int):List Bool:=if zjl h p o=0 then zwq h p o else []
theorem yr0 (a b:Int):y8 Tryz.prog 145 [iv a,iv b] [] (fun r h'=>h'= []∧r=bv (decide (0≤a∧a < b))):=by
 refine z6 Tryz.func145 rfl rfl rfl ?_
 refine rn ?_;refine w7 (fun hg1_2=> ?_) (fun hg1_2=> ?_)
 ·refine rn ?_;refine rq 0 ?_
  exact ⟨rfl,by rw [←ykn,hg1_2];rfl⟩
 ·refine rn ?_;refine rq 0 ?_
  exact ⟨rfl,by rw [←ykn,hg1_2];rfl⟩
theorem yu1 (m:Mat) (p x:Int) (b2 b3:Nat) (G:List Res):y8 Tryz.prog 147 [.agg (zes m),pZ b2,pZ b3] (.box b2 3 [iv p]:: .box b3 3 [iv x]::G) (fun r h'=>h'=(.box b2 3 [iv p]:: .box b3 3 [iv x]::G)∧r=bv (zqw p x m)):=by
 refine z6 Tryz.func147 rfl rfl rfl ?_
 refine rn ?_;refine z8 rfl (w9 rfl rfl rfl fun b3=> ?_)
 refine rn ?_;refine w7 (fun hg1_4=> ?_) (fun hg1_4=> ?_)
 ·refine rn ?_;refine rq 1 ?_
  exact ⟨rfl,congrArg bv (by unfold zqw;first|rfl|(simp_all;done))⟩
 ·refine rn ?_;refine rq 1 ?_
  exact ⟨rfl,congrArg bv (by unfold zqw;first|rfl|(simp_all;done))⟩
theorem yns (l:List Mat) (fv:AV) (q:Mat→Bool) (G:List Res) (hp:∀a∈l,y0 Tryz.prog fv [.agg (zes a)] G (fun r h'=>h'=G∧r=bv (q a))) (hl:l.length≤4611686018427387904):y8 Tryz.prog 146 [zzo l,fv] G (fun r h'=>h'=G∧r= .tup [.agg (zes ((l.find? q).getD ypk)),bv (l.find? q).isSome]):=by
 refine z6 Tryz.func146 rfl rfl rfl ?_
 refine rn ?_;refine z8 rfl (y4 rfl fun b4=> ?_)
 refine rn ?_;refine qv rfl rfl (y1 rfl rfl (y0.qt (h2:= [_]) (y0.of_fun (zlt l _ q G hp hl)) (zbb [_] _))) ?_
 refine rn ?_;refine z7 rfl (fun hc11=> ?_) (fun hc11=> ?_)
 ·have hn:=yvc hc11
  refine w8 (y3 ?_)
  refine qq rfl rfl (zi8 (fun w O v hr=>Sb.rel (Sb.aggs (bs:=zes ypk) (by exact ⟨.refl _,.refl _,.refl _,.nil _ _,trivial⟩)) hr) (znf rfl rfl)) ?_
  refine rn ?_;exact ze6 (.cons _ _ _ _ (.agg _ _ _ _ _ _ _ rfl inferInstance inferInstance inferInstance rfl) (.cons _ _ _ _ (.tmp _ _ rfl) .nil)) (.drop [_] _ _) ⟨rfl,by rw [hn];rfl⟩
 ·obtain ⟨k,hk,ek,hx⟩:=yst hc11
  have rk:=zaj (f:=zes) hk
  rw [ek]
  refine rn ?_;exact ze6 (.cons _ _ _ _ (.agg _ _ _ _ _ _ _ rfl inferInstance inferInstance inferInstance rfl) (.cons _ _ _ _ (.tmp _ _ rfl) .nil)) (.drop [_] _ _) ⟨rfl,by rw [hx];rfl⟩
theorem ywf {h:Hist} {p x:Int} (he:yfp h x≠0):zjl h p x=yfp h x∧zjl h p x≠0:=by
 have:zjl h p x=yfp h x:=by rw [zjl,if_neg he]
 exact ⟨this,by rw [this];exact he⟩
theorem ywe {h:Hist} {p x:Int} (hi:yfp h x=0) (hp:¬(0≤p∧p < ((h.ps.map zid).length:Int))):zjl h p x=2∧zjl h p x≠0:=by
 rw [oM] at hp
 have:zjl h p x=2:=by rw [zjl,if_pos hi,if_neg hp]
 exact ⟨this,by rw [this];decide⟩
theorem ywd {h:Hist} {p x:Int} (hi:yfp h x=0) (hp:0≤p∧p < ((h.ps.map zid).length:Int)):zjl h p x=0:=by
 rw [oM] at hp
 rw [zjl,if_pos hi,if_pos hp]
theorem yf5 {b:Bool} {l:List Int} {q:Int→Bool} {k:Nat} (hk:k < l.length):(b::(l.take (k+1)).map q).map zoe=(b::(l.take k).map q).map zoe++ [[bv (q l[k])]]:=by
 rw [List.take_succ_eq_append_getElem hk,List.map_append,←List.cons_append,List.map_append];rfl
theorem ynq (h:Hist) (la:Lim 4611686018427387904 h) (p x:Int):y8 Tryz.prog 98 [.agg (w6 h),iv p,iv x] (.glob 2 156 y5:: .glob 4 305 y7:: .glob 5 308 y2:: .glob 3 246 u5:: []) (fun r h'=>∃s:SV,h'= .row s.v 1 4 ((yll h p x).map zoe):: .glob 2 156 y5:: .glob 4 305 y7:: .glob 5 308 y2:: .glob 3 246 u5:: []∧r= .tup [.v s.v,iv (zjl h p x)]):=by
 refine z6 Tryz.func98 rfl rfl rfl ?_
 refine rn ?_;refine z8 rfl (w9 rfl rfl rfl fun b3=> ?_)
 refine z8 rfl (w9 rfl rfl rfl fun b4=> ?_)
 refine z8 rfl (w9 rfl rfl rfl fun b5=> ?_)
 refine rn ?_;refine qv rfl rfl (y1 rfl rfl (y0.qt (y0.of_fun (ykj h la x)) ((pt3 _ _ _ _ _).trans (.cons _ ((pt3 _ _ _ _ _).trans (.cons _ ((pt3 _ _ _ _ _).trans (.cons _ (pt3 _ _ _ _ _))))))))) ?_
 refine rn ?_;refine z7 rfl (fun hc21=> ?_) (fun hc21=> ?_)
 ·have he:=ywf (p:=p) (yt0 hc21)
  refine rn ?_;exact zb9 rfl rfl (.trans (.drop [_,_,_] _ _) (zal 1 4 _)) ⟨⟨none,0,0⟩,by rw [yll,if_neg (he.2)];rfl,by rw [he.1];rfl⟩
 ·have hi:yfp h x=0:=yuw hc21
  refine rn ?_;refine qv rfl rfl (y1 rfl rfl (j4 (yr0 p (h.ps.map zid).length) (Sbs.refl _))) ?_
  refine rn ?_;refine z7 rfl (fun hc25=> ?_) (fun hc25=> ?_)
  ·have he:=ywe (p:=p) hi (yv4 hc25)
   refine rn ?_;exact zb9 rfl rfl (.trans (.drop [_,_,_] _ _) (zal 1 4 _)) ⟨⟨none,0,0⟩,by rw [yll,if_neg (he.2)];rfl,by rw [he.1];rfl⟩
  ·have he:zjl h p x=0:=ywd hi (yv5 hc25)
   have lA:=zez (zyq.1 he).1
   have lM:=yh7 la p x
   have lI:(zb6 h x).length≤3000:=by rw [zqd he];exact znr lA x
   refine rn ?_;refine qv rfl rfl (y1 rfl rfl (y0.of_fun (yns h.mats _ (zqw p x) _ (fun a _=>y0.qt (y0.of_acall (fs:= []) (cs:= [pZ b4,pZ b5]) (yu1 a p x b4 b5 (.box b3 28 (w6 h):: .glob 2 156 y5:: .glob 4 305 y7:: .glob 5 308 y2:: .glob 3 246 u5:: []))) (pt1 _ _ _)) la.mats))) ?_
   refine rn ?_;refine z8 rfl (y4 rfl fun b10=> ?_)
   refine rn ?_;refine z8 rfl (zbz (rows:=(((yfn h p x).first::((zb6 h x).take 0).map (fun t=>(yfn h p x).ts.contains t)).map zoe)) rfl rfl rfl fun s41=> ?_)
   refine j3 s41 fun sv0 hsv0=> ?_
   subst hsv0
   refine rn ?_;have hii:onE (zhk h x h.os.length) (zb6 h x)=zb6 h x:=by rw [show zhk h x h.os.length=0 from hi];rfl
   rw [hii]
   refine rn ?_;refine zem (zb6 h x).length (fun k s=>⟨[(44,iv k),(12,.v s.v),(10,pZ b10),(42,zbe (zb6 h x)),(43,iv ((zb6 h x).map zar).length)],.row s.v 1 4 (((yfn h p x).first::((zb6 h x).take k).map (fun t=>(yfn h p x).ts.contains t)).map zoe):: .box b10 109 (zes (yfn h p x)):: .box b5 3 [iv x]:: .box b4 3 [iv p]:: .box b3 28 (w6 h):: .glob 2 156 y5:: .glob 4 305 y7:: .glob 5 308 y2:: .glob 3 246 u5:: [],[]⟩) sv0 es ?_
   intro k s lk
   refine rn ?_;refine z7 rfl (fun hc45=> ?_) (fun hc45=> ?_)
   ·have hk:=za4 hc45
    have rk:=zaj (f:=zar) hk
    refine rn ?_;refine qv rfl rfl (y1 rfl rfl (j4 (zt0 (yfn h p x).ts (zb6 h x)[k] lM) (Sbs.refl _))) ?_
    refine qv rfl rfl (q6 rfl rfl) ?_
    refine z8 rfl (q7 rfl rfl (by simp only [oM,List.length_cons,List.length_nil];have:=List.length_take_le k (zb6 h x);omega) rfl (fun s54=> ?_) (yhv [(yfn h p x).ts.contains (zb6 h x)[k]]))
    refine j3 s54 fun sv hsv=> ?_
    subst hsv
    refine rn ?_;exact ⟨hk,sv,by rw [yf5 hk];exact eA⟩
   ·have qk:=za5 hc45 lk
    refine rn ?_;exact zb9 rfl rfl (.trans (.perm ((pt1 _ _ _).trans (.cons _ ((pt1 _ _ _).trans (.cons _ ((pt1 _ _ _).trans (.cons _ (pt1 _ _ _))))))) _) (.drop [_,_,_,_] _ _)) ⟨s,by rw [yll,if_pos he,zwq,yjs,qk,List.take_length],by rw [he];rfl⟩
theorem yry (h:Hist) (la:Lim 4611686018427387904 h) (p x:Int):y8 Tryz.prog 98 [.agg (w6 h),iv p,iv x] (.glob 2 156 y5:: .glob 4 305 y7:: .glob 5 308 y2:: .glob 3 246 u5:: []) (fun r h'=>h'= .glob 2 156 y5:: .glob 4 305 y7:: .glob 5 308 y2:: .glob 3 246 u5:: []∧r= .tup [zod (yll h p x),iv (zjl h p x)]):=
 (ynq h la p x).ventR (by rintro _ _ ⟨s,rfl,rfl⟩;exact ⟨_,_,zbk [] [_],rfl,rfl⟩)
def zpo {α:Type} (d:Nat→Option α):Nat→List α
 |0=> []
 |k+1=>zpo d k++(d k).toList
theorem ysp {α:Type} {d:Nat→Option α} {k:Nat} (h:d k=none):zpo d (k+1)=zpo d k:=by rw [zpo,h];simp
theorem yso {α:Type} {d:Nat→Option α} {k:Nat} {a:α} (h:d k=some a):zpo d (k+1)=zpo d k++ [a]:=by rw [zpo,h];rfl
theorem zxq {α:Type} (d:Nat→Option α):∀n,(zpo d n).length≤n
 |0=>by simp [zpo]
 |n+1=>by
  have:=zxq d n
  rw [zpo,List.length_append]
  cases d n <;> simp <;> omega
def chD (l:List Bool) (k:Nat):Option Int:=if 0 < k∧l[k]? ≠l[k - 1]? then some (k:Int) else none
theorem yer (l:List Bool):∀n,zpo (chD l) n=zt5 l n
 |0=>rfl
 |n+1=>by
  rw [zpo,zt5,yer l n,chD]
  split <;> rfl
theorem yoz {l:List Bool} {k:Nat} (h:decide ((k:Int) > 0)=false):chD l k=none:=by
 have:=oF h
 rw [chD,if_neg (by omega)]
theorem yvm {l:List Bool} {k:Nat} (h:decide ((k:Int) > 0)=true) (hk:k < l.length) (hb:(l[k] !=l[k - 1]'(by omega))=true):chD l k=some (k:Int):=by
 have:=oT h
 rw [chD,if_pos ⟨by omega,by rw [List.getElem?_eq_getElem hk,List.getElem?_eq_getElem (by omega)];intro e;injection e with e;rw [e] at hb;simp at hb⟩]
theorem yoy {l:List Bool} {k:Nat} (hk:k < l.length) (hb:(l[k] !=l[k - 1]'(by omega))=false):chD l k=none:=by
 rw [chD,if_neg (by rintro ⟨_,q⟩;apply q;rw [List.getElem?_eq_getElem hk,List.getElem?_eq_getElem (by omega)];congr 1;simpa using hb)]
theorem yky {k:Nat} (h:decide ((k:Int) > 0)=true):((k:Int) - 1).toNat=k - 1∧0≤(k:Int) - 1:=by
 have:=oT h
 omega
theorem ymf {l:List Bool} {k:Nat} (h:decide ((k:Int) > 0)=true) (hk:k < l.length):(l.map zoe)[((k:Int) - 1).toNat]? =some (zoe (l[k - 1]'(by omega))):=by
 rw [(yky h).1,List.getElem?_map,List.getElem?_eq_getElem (by omega)];rfl
theorem yrq (l:List Bool) (hl:l.length≤1000000) (b1:Nat) (y:AV) (I:Nat→SV→List Res) (x0:SV) (hy:∀k x a,k < l.length→chD l k=some a→y0 Tryz.prog y [iv a] (.box b1 130 [zod l]::I k x) (fun r h'=>∃x',r=bv true∧h'= .box b1 130 [zod l]::I (k+1) x')) (hs:∀k x,k < l.length→chD l k=none→I (k+1) x=I k x):y8 Tryz.prog 149 [y,pZ b1] (.box b1 130 [zod l]::I 0 x0) (fun r h'=>∃x,h'=I l.length x):=by
 refine z6 Tryz.func149 rfl rfl rfl ?_
 refine rn ?_;refine zia l.length (fun _ _=>True) (fun k (x:SV)=>⟨[(6,iv k),(0,y),(1,pZ b1),(5,iv (l.map zoe).length)],.box b1 130 [zod l]::I k x,[]⟩) x0 trivial es ?_
 intro k x lk _
 refine rn ?_;refine z7 rfl (fun hc7=> ?_) (fun hc7=> ?_)
 ·have hk:=za4 hc7
  have rk:=zaj (f:=zoe) hk
  refine rn ?_;refine k9 17 rfl ?_
  refine rn ?_;refine zde (fun hg3_2=> ?_) (fun hg3_2=> ?_)
  ·refine dq rfl rfl qrA ?_;refine dq rfl rfl qrA ?_;refine dq rfl rfl qrA ?_;refine dq rfl rfl qrA ?_;refine dq rfl rfl qrA ?_;refine dq rfl rfl qrA ?_;refine dq rfl rfl (zcb rfl rfl rfl (by omega)) ?_
   refine dq rfl rfl (zax rfl rfl (yky hg3_2).2 (ymf hg3_2 hk)) ?_
   refine dq rfl rfl qrA ?_;refine dq rfl rfl (yrb (c:=l[k] !=l[k - 1]'(by omega)) (zne rfl rfl) rfl) ?_
   refine rn ?_;refine zde (fun hg3_14=> ?_) (fun hg3_14=> ?_)
   ·refine rn ?_;refine z8 rfl (v8 rfl rfl (hy k x _ hk (yvm hg3_2 hk (by exact hg3_14))) rfl ?_)
    rintro _ _ ⟨x',rfl,rfl⟩
    refine rn ?_;refine z7 rfl (fun hc28=> ?_) (fun hc28=> ?_)
    ·refine rn ?_;exact absurd hc28 (by simp)
    ·refine rn ?_;first|exact ⟨hk,x',trivial,eA⟩|exact ⟨hk,x,trivial,by rw [hs k x hk (yoy hk (by exact hg3_14))];exact eA⟩|exact ⟨hk,x,trivial,by rw [hs k x hk (yoz hg3_2)];exact eA⟩
   ·refine rn ?_;refine zff rfl ?_;refine rn ?_;first|exact ⟨hk,x',trivial,eA⟩|exact ⟨hk,x,trivial,by rw [hs k x hk (yoy hk (by exact hg3_14))];exact eA⟩|exact ⟨hk,x,trivial,by rw [hs k x hk (yoz hg3_2)];exact eA⟩
  ·refine rn ?_;refine zff rfl ?_;refine rn ?_;first|exact ⟨hk,x',trivial,eA⟩|exact ⟨hk,x,trivial,by rw [hs k x hk (yoy hk (by exact hg3_14))];exact eA⟩|exact ⟨hk,x,trivial,by rw [hs k x hk (yoz hg3_2)];exact eA⟩
 ·have qk:=za5 hc7 lk
  subst qk
  refine rn ?_;exact zf3 .nil (.drop [_] _ _) ⟨x,rfl⟩
theorem yux (l:List Bool) (W:List Res):y8 Tryz.prog 100 [zod l] W (fun r h'=>∃b1,h'= .box b1 130 [zod l]::W∧r= .fn (.func 149) [] [pZ b1]):=by
 refine z6 Tryz.func100 rfl rfl rfl ?_
 refine rn ?_;refine z8 rfl (w9 rfl rfl rfl fun b1=> ?_)
 refine rn ?_;exact k8 rfl (.refl _ _) ⟨_,rfl,rfl⟩
theorem yo7 (f:FuncId) [Go.Ab.Enters Tryz.prog f] (cs:List AV) (w1:Res) (n:Nat) (hn:n≤1000000) (d:Nat→Option (Int)) (W:List Res) (hseq:∀(y:AV) (I:Nat→SV→List Res) (x0:SV),(∀k x a,k < n→d k=some a→y0 Tryz.prog y [iv a] (w1::I k x) (fun r h'=>∃x',r=bv true∧h'=w1::I (k+1) x'))→(∀k x,k < n→d k=none→I (k+1) x=I k x)→y8 Tryz.prog f (y::cs) (w1::I 0 x0) (fun _ h'=>∃x,h'=I n x)):y8 Tryz.prog 148 [.v (.slice none 0 0),.fn (.func f) [] cs] (w1::W) (fun r h'=>∃s:SV,h'= .row s.v 1 3 ((zpo d n).map zar)::W∧r= .v s.v):=by
 refine z6 Tryz.func148 rfl rfl rfl ?_
 refine rn ?_;refine z8 rfl (w9 rfl rfl rfl fun b2=> ?_)
 refine rn ?_;refine zfb (s':=⟨[(6,.fn (.func f) [] cs),(2,pZ b2)],w1:: .box b2 29 [.v (⟨none,0,0⟩:SV).v]:: .row (⟨none,0,0⟩:SV).v 1 3 ((zpo d 0).map zar)::W,[]⟩) (v7 (v7 (zam 1 3) (zap ((pt2 _ _ _ _).trans (.cons _ (pt1 _ _ _))))) es) ?_
 refine zoy (fun pend h''=>pend=none∧∃s:SV,h''= .box b2 29 [.v s.v]:: .row s.v 1 3 ((zpo d n).map zar)::W) rfl (fun fn l q lp hlp=> ?_) (fun q h'' hK=> ?_) (fun q h'' c hK=> ?_)
 ·suffices hy:∀k (s:SV) a,k < n→d k=some a→y0 Tryz.prog (yv l) [iv a] (w1::lp .ready none:: .defs q:: .box b2 29 [.v s.v]:: .row s.v 1 3 ((zpo d k).map zar)::W) (fun r h'=>∃s':SV,r=bv true∧h'=w1::lp .ready none:: .defs q:: .box b2 29 [.v s'.v]:: .row s'.v 1 3 ((zpo d (k+1)).map zar)::W) by
   refine y8.mono (y8.perm (pt2 _ _ _ _) (hseq (yv l) (fun k (s:SV)=>lp .ready none:: .defs q:: .box b2 29 [.v s.v]:: .row s.v 1 3 ((zpo d k).map zar)::W) ⟨none,0,0⟩ hy (fun k s hk hn=>by rw [ysp hn]))) ?_
   rintro _ _ ⟨s,rfl⟩
   exact ⟨none,.ready,_,.refl _,by simp,rfl,s,rfl⟩
  intro k s a hk hd
  refine y0.perm (pt1 _ _ _) (y0.ventE ?_)
  refine ze9 hlp rfl rfl ?_
  refine rn ?_;refine ⟨[(5,iv a),(2,pZ b2)],w1:: .defs q:: .box b2 29 [.v s.v]:: .row s.v 1 3 ((zpo d k).map zar)::W,es,?_⟩
  refine rn ?_;refine qv rfl rfl (q6 rfl rfl) ?_
  refine z8 rfl (q7 rfl rfl (by simp only [oM,List.length_cons,List.length_nil];have:=zxq d k;omega) rfl (fun s11=> ?_) (zh1 [a]))
  refine j3 s11 fun sv hsv=> ?_
  subst hsv
  refine rn ?_;exact zeu (.refl _) ⟨_,_,.perm (pt1 _ _ _) _,sv,rfl,by rw [yso hd,List.map_append];rfl⟩
 ·obtain ⟨_,s,rfl⟩:=hK
  refine rn ?_;exact zi7 (.refl _) (.cons _ _ _ _ (.tmp _ _ rfl) .nil) (.drop1 _ _ _) ⟨s,rfl,rfl⟩
 ·obtain ⟨hc,_⟩:=hK
  exact absurd hc (by simp)
theorem yi8 (f:FuncId) [Go.Ab.Enters Tryz.prog f] (cs:List AV) (w1:Res) (n:Nat) (hn:n≤1000000) (d:Nat→Option (Int)) (W:List Res) (hseq:∀(y:AV) (I:Nat→SV→List Res) (x0:SV),(∀k x a,k < n→d k=some a→y0 Tryz.prog y [iv a] (w1::I k x) (fun r h'=>∃x',r=bv true∧h'=w1::I (k+1) x'))→(∀k x,k < n→d k=none→I (k+1) x=I k x)→y8 Tryz.prog f (y::cs) (w1::I 0 x0) (fun _ h'=>∃x,h'=I n x)):y8 Tryz.prog 99 [.fn (.func f) [] cs] (w1::W) (fun r h'=>∃s:SV,h'= .row s.v 1 3 ((zpo d n).map zar)::W∧r= .v s.v):=by
 refine z6 Tryz.func99 rfl rfl rfl ?_
 refine rn ?_;refine z8 rfl (v8 rfl rfl (y0.of_fun (yo7 f cs w1 n hn d W hseq)) rfl ?_)
 rintro _ _ ⟨s,rfl,rfl⟩
 refine rn ?_;exact k8 rfl (.refl _ _) ⟨s,rfl,rfl⟩
theorem ylk {h:Hist} {N:Nat} (la:Lim N h) {p x:Int} (he:zjl h p x=0):(zwq h p x).length≤1000000:=by
 have lA:=zez (zyq.1 he).1
 have:=znr lA x
 rw [zm1,zqd he];omega
theorem ynt (h:Hist) (la:Lim 4611686018427387904 h) (p x:Int):y8 Tryz.prog 42 [.agg (w6 h),iv p,iv x] (.glob 2 156 y5:: .glob 4 305 y7:: .glob 5 308 y2:: .glob 3 246 u5:: []) (fun r h'=>∃s:SV,h'= .row s.v 1 3 ((chL h p x).map zar):: .glob 2 156 y5:: .glob 4 305 y7:: .glob 5 308 y2:: .glob 3 246 u5:: []∧r= .tup [.v s.v,iv (zjl h p x)]):=by
 refine z6 Tryz.func42 rfl rfl rfl ?_
 refine rn ?_;refine z8 rfl (w9 rfl rfl rfl fun b3=> ?_)
 refine rn ?_;refine qv rfl rfl (y1 rfl rfl (y0.qt (y0.of_fun (yry h la p x)) ((pt1 _ _ _).trans (.cons _ ((pt1 _ _ _).trans (.cons _ ((pt1 _ _ _).trans (.cons _ (pt1 _ _ _))))))))) ?_
 refine rn ?_;refine z7 rfl (fun hc18=> ?_) (fun hc18=> ?_)
 ·have he:=yw2 (h:=h) (p:=p) (x:=x) (r:=0) (yt0 hc18)
  refine rn ?_;exact zb9 rfl rfl (.trans (.drop [_] _ _) (zal 1 3 _)) ⟨⟨none,0,0⟩,by rw [he.2.2];rfl,rfl⟩
 ·have he:zjl h p x=0:=yuw hc18
  have hl:yll h p x=zwq h p x:=by rw [yll,if_pos he]
  have lt:=ylk la he
  rw [hl]
  refine rn ?_;refine z8 rfl (v8 rfl rfl (y0.of_fun (yux (zwq h p x) _)) rfl ?_)
  rintro _ _ ⟨b1,rfl,rfl⟩
  refine z8 rfl (v8 rfl rfl (y0.of_fun (yi8 149 [pZ b1] _ (zwq h p x).length lt (chD (zwq h p x)) _ (fun y I x0 hy hs=>yrq (zwq h p x) lt b1 y I x0 hy hs))) rfl ?_)
  rintro _ _ ⟨s,rfl,rfl⟩
  refine rn ?_;exact zb9 rfl rfl (.trans (.perm (pt1 _ _ _) _) (.drop [_] _ _)) ⟨s,by rw [chL,if_pos he,ypq,yer],by rw [he];rfl⟩
theorem yr1 (h:Hist) (la:Lim 4611686018427387904 h) (p x:Int):y8 Tryz.prog 42 [.agg (w6 h),iv p,iv x] (.glob 2 156 y5:: .glob 4 305 y7:: .glob 5 308 y2:: .glob 3 246 u5:: []) (fun r h'=>h'= .glob 2 156 y5:: .glob 4 305 y7:: .glob 5 308 y2:: .glob 3 246 u5:: []∧r= .tup [zbe (chL h p x),iv (zjl h p x)]):=
 (ynt h la p x).ventR (by rintro _ _ ⟨s,rfl,rfl⟩;exact ⟨_,_,zbk [] [_],rfl,rfl⟩)
def ev0:Ev:=⟨0,0,0,0,0,⟨0,0⟩,0,[]⟩
def evA (h:Hist) (n:Int):Ev:=if zhk h n h.evs.length=0 then evD h.evs n else ev0
def yjw (h:Hist) (n:Int):List Seen:=if zfg h n=0 then zau h (evD h.evs n) n.toNat else []
theorem yt6 {p:Prop} (c d:Prop) [Decidable c] [Decidable d] (x:c→d→p) (y:c→¬d→p) (z:¬c→p):p:=if h:c then (if k:d then x h k else y h k) else z h
theorem zzx {h:Hist} {n:Int} (he:zhk h n h.evs.length=0):∃a:Nat,∃ha:a < h.evs.length,n=a∧evA h n=h.evs[a]∧u9 h=0:=by
 obtain ⟨hs,n0,n1⟩:=yo6 he
 obtain ⟨a,rfl⟩:=Int.eq_ofNat_of_zero_le n0
 exact ⟨a,by omega,rfl,by rw [evA,if_pos he,zxy (by omega)],zbj.2 hs⟩
theorem ys5 {h:Hist} {n:Int} (he:zhk h n h.evs.length≠0):evA h n=ev0:=by rw [evA,if_neg he]
theorem yvw {h:Hist} {a:Nat} (ha:a < h.evs.length) (hc:u9 h=0) (h4:h.evs[a].kind=4):zfg h a=0∧yjw h a=zau h h.evs[a] a:=by
 have:=(ywh hc ha h4).1
 exact ⟨this,by rw [yjw,this,if_pos rfl,zxy ha,Int.toNat_natCast]⟩
theorem yp3 {h:Hist} {n:Int} (hc:u9 h=0) (hn:¬(0≤n∧n < h.evs.length∧(evD h.evs n).kind=4)):zfg h n=2∧yjw h n= []:=by
 have:=(ywi hc hn).1
 exact ⟨this,by rw [yjw,this];rfl⟩
theorem ytv {h:Hist} {n:Int} (he:zhk h n h.evs.length≠0):zfg h n=zhk h n h.evs.length∧yjw h n= []:=by
 by_cases hc:u9 h=0
 ·have hn:¬(0≤n∧n < (h.evs.length:Int)):=fun q=>he (zwf hc q)
  obtain ⟨a,b⟩:=yp3 (h:=h) (n:=n) hc (fun q=>hn ⟨q.1,q.2.1⟩)
  exact ⟨by rw [a,zz6 hc hn],b⟩
 ·have:=(ywj (n:=n) hc).1
  exact ⟨by rw [this,ask_c hc],by rw [yjw,this,if_neg hc]⟩
theorem yt1 {h:Hist} {n:Int} (he:zhk h n h.evs.length=0):evA h n=evD h.evs n:=by rw [evA,if_pos he]
theorem yh6 (h:Hist) (la:Lim 4611686018427387904 h) (n:Int):y8 Tryz.prog 97 [.agg (w6 h),iv n] (.glob 2 156 y5:: .glob 4 305 y7:: .glob 5 308 y2:: .glob 3 246 u5:: []) (fun r h'=>h'= .glob 2 156 y5:: .glob 4 305 y7:: .glob 5 308 y2:: .glob 3 246 u5:: []∧r= .tup [.agg (evR (evA h n)),iv (zhk h n h.evs.length)]):=by
 refine z6 Tryz.func97 rfl rfl rfl ?_
 refine rn ?_;refine z8 rfl (w9 rfl rfl rfl fun b2=> ?_)
 refine z8 rfl (y4 rfl fun b4=> ?_)
 refine rn ?_;refine qv rfl rfl (y1 rfl rfl (y0.qt (y0.of_fun (ykl h la)) ((pt2 _ _ _ _).trans (.cons _ ((pt2 _ _ _ _).trans (.cons _ ((pt2 _ _ _ _).trans (.cons _ (pt2 _ _ _ _))))))))) ?_
 refine rn ?_;refine z7 rfl (fun hc14=> ?_) (fun hc14=> ?_)
 ·have he:zhk h n h.evs.length=u9 h:=ask_c (yt0 hc14)
  have hn:zhk h n h.evs.length≠0:=by rw [he];exact yt0 hc14
  refine w8 (y3 ?_)
  refine qq rfl rfl (zi8 (fun w O v hr=>Sb.rel (Sb.aggs (bs:=evR ev0) (by exact ⟨.refl _,.refl _,.refl _,.refl _,.refl _,.refl _,.refl _,.refl _,.nil _ _,trivial⟩)) hr) (zae (out:= [iv 0,iv 0,iv 0,iv 0,iv 0,iv 0,iv 0,iv 0,.v (.slice none 0 0)]) rfl (by rfl))) ?_
  refine rn ?_;exact ze6 (.cons _ _ _ _ (.agg _ _ _ _ _ _ _ rfl inferInstance inferInstance inferInstance rfl) (.cons _ _ _ _ (.tmp _ _ rfl) .nil)) (.drop [_,_] _ _) ⟨rfl,by rw [ys5 hn,he];rfl⟩
 ·have hc:=yuw hc14
  refine rn ?_;refine qv rfl rfl (y1 rfl rfl (j4 (yr0 n (h.evs.map evR).length) (Sbs.refl _))) ?_
  refine rn ?_;refine z7 rfl (fun hc22=> ?_) (fun hc22=> ?_)
  ·have he:zhk h n h.evs.length=2:=zz6 hc (by have q:=yv4 hc22;rw [oM] at q;exact q)
   have hn:zhk h n h.evs.length≠0:=by rw [he];decide
   refine w8 (y3 ?_)
   refine qq rfl rfl (zi8 (fun w O v hr=>Sb.rel (Sb.aggs (bs:=evR ev0) (by exact ⟨.refl _,.refl _,.refl _,.refl _,.refl _,.refl _,.refl _,.refl _,.nil _ _,trivial⟩)) hr) (zae (out:= [iv 0,iv 0,iv 0,iv 0,iv 0,iv 0,iv 0,iv 0,.v (.slice none 0 0)]) rfl (by rfl))) ?_
   refine rn ?_;exact ze6 (.cons _ _ _ _ (.agg _ _ _ _ _ _ _ rfl inferInstance inferInstance inferInstance rfl) (.cons _ _ _ _ (.tmp _ _ rfl) .nil)) (.drop [_,_] _ _) ⟨rfl,by rw [ys5 hn,he];rfl⟩
  ·have q:=yv5 hc22
   rw [oM] at q
   have he:=zwf hc q
   obtain ⟨a,ha,rfl,ea,_⟩:=zzx he
   have ra:=zaj (f:=evR) ha
   refine zan ?_;refine zab ?_;refine w8 (y3 ?_)
   refine q1 ?_;refine q1 ?_;refine q1 ?_;refine qq rfl rfl (zax rfl rfl q.1 ra) ?_
   refine rn ?_;exact ze6 (.cons _ _ _ _ (.agg _ _ _ _ _ _ _ rfl inferInstance inferInstance inferInstance rfl) (.cons _ _ _ _ (.tmp _ _ rfl) .nil)) (.drop [_,_] _ _) ⟨rfl,by rw [ea,he];rfl⟩
theorem ynr (h:Hist) (la:Lim 4611686018427387904 h) (n:Int):y8 Tryz.prog 41 [.agg (w6 h),iv n] (.glob 2 156 y5:: .glob 4 305 y7:: .glob 5 308 y2:: .glob 3 246 u5:: []) (fun r h'=>∃s:SV,h'= .row s.v 3 70 ((yjw h n).map zaq):: .glob 2 156 y5:: .glob 4 305 y7:: .glob 5 308 y2:: .glob 3 246 u5:: []∧r= .tup [.v s.v,iv (zfg h n)]):=by
 refine z6 Tryz.func41 rfl rfl rfl ?_
 refine rn ?_;refine z8 rfl (w9 rfl rfl rfl fun b2=> ?_)
 refine rn ?_;refine zke ?_;refine rn ?_;refine qv rfl rfl (y1 rfl rfl (y0.qt (y0.of_fun (yh6 h la n)) ((pt1 _ _ _).trans (.cons _ ((pt1 _ _ _).trans (.cons _ ((pt1 _ _ _).trans (.cons _ (pt1 _ _ _))))))))) ?_
 refine rn ?_;refine z8 rfl (y4 rfl fun b6=> ?_)
 first|refine z8 rfl (j9 rfl rfl rfl ?_)|refine z8 rfl (zao rfl rfl rfl rfl (Nat.le_of_ble_eq_true rfl) ?_)
 refine q1 ?_;refine u6 (zab ?_)
 refine w8 ?_;refine w8 (y3 ?_)
 refine q1 ?_;refine yt6 (zhk h n h.evs.length=0) ((evA h n).kind=4) (fun hc h4=>qq rfl rfl (zc9 (c:=true) rfl rfl (congrArg some (by rw [hc];rfl))) ?_) (fun hc h4=>qq rfl rfl (zc9 (c:=true) rfl rfl (congrArg some (by rw [hc];rfl))) ?_) (fun hc=>qq rfl rfl (zc9 (c:=false) rfl rfl (congrArg some (by simpa using hc))) ?_)
 ·refine q1 ?_;refine q1 ?_;refine q1 ?_;refine qq rfl rfl (by first|exact zc9 (c:=false) rfl rfl (congrArg some (by rw [h4];rfl))|exact zc9 (c:=true) rfl rfl (congrArg some (by simpa using h4))) ?_
  refine rn ?_;refine z7 rfl (fun hc29=> ?_) (fun hc29=> ?_)
  ·first|cases hc29|exact absurd hc29 (by decide)|(exfalso;simp_all;done)
  ·refine zan ?_;refine zab ?_;refine w8 ?_;refine w8 (y3 ?_)
   refine q1 ?_;refine qq rfl rfl (by first|exact zc9 (c:=false) rfl rfl (congrArg some (by rw [hc];rfl))|exact zc9 (c:=true) rfl rfl rfl|exact zc9 (c:=true) rfl rfl (congrArg some (by simpa using hc))) ?_
   refine rn ?_;refine z7 rfl (fun hc31=> ?_) (fun hc31=> ?_)
   ·first|cases hc31|exact absurd hc31 (by decide)|(exfalso;simp_all;done)
   ·refine zan ?_;refine rn0 ?_;refine w8 ?_;obtain ⟨a,ha,rfl,ea,hk0⟩:=zzx hc
    rw [ea] at h4
    rw [ea]
    obtain ⟨hse,hsl⟩:=yvw ha hk0 h4
    have lA:=zez hk0
    have be:=lA.evs
    have bs:=lA.scans h.evs[a] (List.getElem_mem ha)
    refine rn ?_;refine z8 rfl (zbd (enc:=intK) rfl fun rm=> ?_)
    refine rn ?_;refine zcl h.evs.length (fun k=>k≤a) (fun k=>⟨[(37,iv k),(1,iv (a:Int)),(2,pZ b2),(6,pZ b6),(8,mpv rm),(35,zre h.evs),(36,iv (h.evs.map evR).length)],.map rm (zas intK (zbv yap (yac (h.evs.take k) h.evs[a].t))):: .box b6 60 (evR h.evs[a]):: .box b2 28 (w6 h):: .glob 2 156 y5:: .glob 4 305 y7:: .glob 5 308 y2:: .glob 3 246 u5:: [],[]⟩) (Nat.zero_le _) es ?_
    intro k lk ka
    refine rn ?_;refine z7 rfl (fun hc38=> ?_) (fun hc38=> ?_)
    ·have hk:=za4 hc38
     have rk:=zaj (f:=evR) hk
     refine rn ?_;refine z8 rfl (y4 rfl fun b10=> ?_)
     refine rn ?_;refine z7 rfl (fun hc42=> ?_) (fun hc42=> ?_)
     ·obtain rfl:a=k:=by have:=eq_of_beq hc42;omega
      refine rn ?_;refine zcl h.evs[a].scan.length (fun _=>True) (fun j=>⟨[(66,iv j),(2,pZ b2),(8,mpv rm),(64,zfq h.evs[a].scan),(65,iv (h.evs[a].scan.map zaq).length)],.map rm (zas intK (zbv yap (yl0 (yac (h.evs.take a) h.evs[a].t) (h.evs[a].scan.take j)))):: .box b6 60 (evR h.evs[a]):: .box b2 28 (w6 h):: .glob 2 156 y5:: .glob 4 305 y7:: .glob 5 308 y2:: .glob 3 246 u5:: [],[]⟩) trivial eA ?_
      intro j lj _
      refine rn ?_;refine z7 rfl (fun hc67=> ?_) (fun hc67=> ?_)
      ·have hj:=za4 hc67
       have rj:=zaj (f:=zaq) hj
       refine rn ?_;refine z8 rfl (y4 rfl fun b12=> ?_)
       refine rn ?_;refine z8 rfl (za6 (g:=yap) (enc:=intK) (k:=h.evs[a].scan[j].o) (v:=h.evs[a].scan[j].v) rfl rfl rfl ?_)
       refine rn ?_;exact ⟨hj,trivial,by rw [yqa hj];exact eA⟩
      ·have qj:=za5 hc67 lj
       subst qj
       rw [List.take_length]
       refine rn ?_;refine zem h.os.length (fun k s=>⟨[(79,iv k),(13,.v s.v),(8,mpv rm),(78,iv (h.os.map zid).length)],.row s.v 3 70 (((upR k).map fun x:Int=>(⟨x,yfj h.evs h.evs[a].t a h.evs[a].scan x⟩:Seen)).map zaq):: .map rm (zas intK (zbv yap (yl0 (yac (h.evs.take a) h.evs[a].t) h.evs[a].scan))):: .box b6 60 (evR h.evs[a]):: .box b2 28 (w6 h):: .glob 2 156 y5:: .glob 4 305 y7:: .glob 5 308 y2:: .glob 3 246 u5:: [],[]⟩) ⟨none,0,0⟩ (v7 (zam 3 70) es) ?_
       intro k s lk
       refine rn ?_;refine z7 rfl (fun hc80=> ?_) (fun hc80=> ?_)
       ·have hk:k < h.os.length:=by have q:=oT hc80;rw [oM] at q;omega
        have bo:=lA.os
        have hv:=ym9 (l:=h.evs) (t:=h.evs[a].t) (x:=(k:Int)) h.evs[a].scan (Nat.le_of_lt ha)
        refine zan ?_;refine zab ?_;refine w8 ?_;refine zb4 ?_;refine w8 (y3 ?_)
        refine q1 ?_;refine q1 ?_;refine u6 (zab ?_)
        refine w8 (y3 ?_)
        refine q1 ?_;refine qq rfl rfl (zae (out:= [iv (k:Int),iv 0,iv 0]) rfl (by rfl)) ?_
        refine z8 rfl (y4 rfl fun b15=> ?_)
        first|refine z8 rfl (j9 rfl rfl rfl ?_)|refine z8 rfl (zao rfl rfl rfl rfl (Nat.le_of_ble_eq_true rfl) ?_)
        refine u6 (zab ?_)
        refine w8 ?_;refine w8 (y3 ?_)
        refine q1 ?_;refine q1 ?_;refine qq rfl rfl (zcj (g:=yap) (enc:=intK) (k:=(k:Int)) (⟨0,0⟩:Ver) rfl rfl) ?_
        rw [hv]
        generalize hV:yfj h.evs h.evs[a].t a h.evs[a].scan (k:Int)=V
        refine z8 rfl (y4 rfl fun b16=> ?_)
        first|refine z8 rfl (j9 rfl rfl rfl ?_)|refine z8 rfl (zao rfl rfl rfl rfl (Nat.le_of_ble_eq_true rfl) ?_)
        refine u6 (zab ?_)
        refine w8 (y3 ?_)
        refine q1 ?_;refine qq rfl rfl (zae (out:= [iv 0,iv 0]) rfl (by rfl)) ?_
        refine rn ?_;refine z7 rfl (fun hc89=> ?_) (fun hc89=> ?_)
        ·refine rn ?_;refine qv rfl rfl (q6 rfl rfl) ?_
         refine z8 rfl (q7 rfl rfl (by simp only [oM,upR,List.length_range,List.length_cons,List.length_nil];omega) rfl (fun s95=> ?_) (by first|exact zig [(⟨(k:Int),V⟩:Seen)]|exact zig [(⟨(k:Int),⟨0,0⟩⟩:Seen)]))
         refine j3 s95 fun sv hsv=> ?_
         subst hsv
         refine rn ?_;exact ⟨hk,sv,by rw [zyo,List.map_append,List.map_append,List.map_singleton,List.map_singleton,hV];exact eA⟩
        ·have hv0:V=⟨0,0⟩:=eq_of_beq (by rw [←zcv];simpa using hc89)
         subst hv0
         refine rn ?_;refine qv rfl rfl (q6 rfl rfl) ?_
         refine z8 rfl (q7 rfl rfl (by simp only [oM,upR,List.length_range,List.length_cons,List.length_nil];omega) rfl (fun s95=> ?_) (by first|exact zig [(⟨(k:Int),V⟩:Seen)]|exact zig [(⟨(k:Int),⟨0,0⟩⟩:Seen)]))
         refine j3 s95 fun sv hsv=> ?_
         subst hsv
         refine rn ?_;exact ⟨hk,sv,by rw [zyo,List.map_append,List.map_append,List.map_singleton,List.map_singleton,hV];exact eA⟩
       ·have qk:k=h.os.length:=by have q:=oF hc80;rw [oM] at q;omega
        subst qk
        refine rn ?_;refine ⟨fun l h=>(by cases h),?_⟩
        exact zb9 rfl rfl (.trans (.perm ((pt1 _ _ _).trans (.cons _ ((pt1 _ _ _).trans (.cons _ (pt1 _ _ _))))) _) (.drop [_,_,_] _ _)) ⟨s,by rw [hsl];rfl,by rw [hse];rfl⟩
     ·have hka:k < a:=by have:=beq_eq_false_iff_ne.1 hc42;omega
      refine rn ?_;refine w7 (fun hg11_5=> ?_) (fun hg11_5=> ?_)
      ·refine rn ?_;refine z7 rfl (fun hc46=> ?_) (fun hc46=> ?_)
       ·have hw:(h.evs[k].t==h.evs[a].t && h.evs[k].kind==2)=true:=by first|(rw [hg11_5];exact hc46)|(rw [Bool.and_eq_true];exact ⟨hg11_5,hc46⟩)
        refine rn ?_;refine z8 rfl (za6 (g:=yap) (enc:=intK) (k:=h.evs[k].o) (v:=h.evs[k].v) rfl rfl rfl ?_)
        refine rn ?_;first|exact ⟨hk,hka,by rw [ycm hk hw];exact eA⟩|exact ⟨hk,hka,by rw [ycn hk hw];exact eA⟩
       ·have hw:(h.evs[k].t==h.evs[a].t && h.evs[k].kind==2)=false:=by first|(rw [hg11_5,hc46];rfl)|(rw [hg11_5];rfl)
        refine rn ?_;first|exact ⟨hk,hka,by rw [ycm hk hw];exact eA⟩|exact ⟨hk,hka,by rw [ycn hk hw];exact eA⟩
      ·refine rn ?_;refine z7 rfl (fun hc46=> ?_) (fun hc46=> ?_)
       ·first|cases hc46|exact absurd hc46 (by decide)|(exfalso;simp_all;done)
       ·have hw:(h.evs[k].t==h.evs[a].t && h.evs[k].kind==2)=false:=by first|(rw [hg11_5,hc46];rfl)|(rw [hg11_5];rfl)
        refine rn ?_;first|exact ⟨hk,hka,by rw [ycm hk hw];exact eA⟩|exact ⟨hk,hka,by rw [ycn hk hw];exact eA⟩
    ·exfalso;have qk:=za5 hc38 lk;omega
 ·refine q1 ?_;refine q1 ?_;refine q1 ?_;refine qq rfl rfl (by first|exact zc9 (c:=false) rfl rfl (congrArg some (by rw [h4];rfl))|exact zc9 (c:=true) rfl rfl (congrArg some (by simpa using h4))) ?_
  refine rn ?_;refine z7 rfl (fun hc29=> ?_) (fun hc29=> ?_)
  ·refine y3 ?_;refine q1 ?_;refine u6 (zab ?_)
   refine w8 ?_;refine w8 (y3 ?_)
   refine q1 ?_;refine qq rfl rfl (by first|exact zc9 (c:=false) rfl rfl (congrArg some (by rw [hc];rfl))|exact zc9 (c:=true) rfl rfl rfl|exact zc9 (c:=true) rfl rfl (congrArg some (by simpa using hc))) ?_
   refine rn ?_;refine z7 rfl (fun hc31=> ?_) (fun hc31=> ?_)
   ·refine rn ?_;refine ⟨fun l h=>(by cases h),?_⟩
    exact zb9 rfl rfl (.trans (.drop [_,_] _ _) (zal 3 70 _)) ⟨⟨none,0,0⟩,by first|(rw [(ytv hc).2];rfl)|(obtain ⟨a,ha,rfl,ea,hk0⟩:=zzx hc;rw [(yp3 hk0 (by rw [←yt1 hc];exact fun q=>h4 q.2.2)).2];rfl),by first|(rw [(ytv hc).1];rfl)|(obtain ⟨a,ha,rfl,ea,hk0⟩:=zzx hc;rw [(yp3 hk0 (by rw [←yt1 hc];exact fun q=>h4 q.2.2)).1];rfl)⟩
   ·first|cases hc31|exact absurd hc31 (by decide)|(exfalso;simp_all;done)
  ·first|cases hc29|exact absurd hc29 (by decide)|(exfalso;simp_all;done)
 ·refine rn ?_;refine z7 rfl (fun hc29=> ?_) (fun hc29=> ?_)
  ·first|cases hc29|exact absurd hc29 (by decide)|(exfalso;simp_all;done)
  ·refine zan ?_;refine zab ?_;refine w8 ?_;refine w8 (y3 ?_)
   refine q1 ?_;refine qq rfl rfl (by first|exact zc9 (c:=false) rfl rfl (congrArg some (by rw [hc];rfl))|exact zc9 (c:=true) rfl rfl rfl|exact zc9 (c:=true) rfl rfl (congrArg some (by simpa using hc))) ?_
   refine rn ?_;refine z7 rfl (fun hc31=> ?_) (fun hc31=> ?_)
   ·refine rn ?_;refine ⟨fun l h=>(by cases h),?_⟩
    exact zb9 rfl rfl (.trans (.drop [_,_] _ _) (zal 3 70 _)) ⟨⟨none,0,0⟩,by first|(rw [(ytv hc).2];rfl)|(obtain ⟨a,ha,rfl,ea,hk0⟩:=zzx hc;rw [(yp3 hk0 (by rw [←yt1 hc];exact fun q=>h4 q.2.2)).2];rfl),by first|(rw [(ytv hc).1];rfl)|(obtain ⟨a,ha,rfl,ea,hk0⟩:=zzx hc;rw [(yp3 hk0 (by rw [←yt1 hc];exact fun q=>h4 q.2.2)).1];rfl)⟩
   ·first|cases hc31|exact absurd hc31 (by decide)|(exfalso;simp_all;done)
theorem yrz (h:Hist) (la:Lim 4611686018427387904 h) (n:Int):y8 Tryz.prog 41 [.agg (w6 h),iv n] (.glob 2 156 y5:: .glob 4 305 y7:: .glob 5 308 y2:: .glob 3 246 u5:: []) (fun r h'=>h'= .glob 2 156 y5:: .glob 4 305 y7:: .glob 5 308 y2:: .glob 3 246 u5:: []∧r= .tup [zfq (yjw h n),iv (zfg h n)]):=
 (ynr h la n).ventR (by rintro _ _ ⟨s,rfl,rfl⟩;exact ⟨_,_,zbk [] [_],rfl,rfl⟩)
def zqk (p:Int×List Int):List AV:= [iv p.1,zbe p.2]
abbrev zi5 (l:List (Int×List Int)):AV:= .list false 2 (l.map zqk)
theorem yrk (l:List (Int×List Int)):∀r∈l.map zqk,r.all AV.one=true:=by
 intro r hr;obtain ⟨a,_,rfl⟩:=List.mem_map.1 hr;rfl
theorem ykz {h:Hist} (hc:u9 h=0) (p x:Int):(chL h p x).length≤4000:=by
 rw [chL];split
 ·rename_i he
  have h1:=(zyq.1 he).2.1
  rw [ypq]
  refine Nat.le_trans (zx4 _ _) ?_
  have:=ztf hc h1.1 h1.2
  rw [zm1];omega
 ·exact Nat.zero_le _
theorem zrd {α:Type} (p:α→Bool):∀(l:List α) (i:Nat), -1≤zbw p i l∧zbw p i l < (i+l.length:Nat)+1
 | [],i=>by simp only [zbw,List.length_nil];omega
 |a::r,i=>by
  have:=zrd p r (i+1)
  simp only [zbw,List.length_cons]
  split <;> omega
theorem yqm {h:Hist} (hc:u9 h=0) {x:Int} (h0:0≤x) (h1:x < h.os.length) {v:Ver} {r:Int} (hr:zl5 h x v=some r):0≤r∧r≤4000:=by
 have hb:=ztf hc h0 h1
 rw [zl5,zql (zbj.1 hc) v h0 h1 _ (Nat.le_refl _) h1] at hr
 split at hr
 ·injection hr with hr;omega
 ·split at hr
  ·injection hr with hr
   have:zon h x v < ((0+(zb6 h x).length:Nat):Int)+1:=by rw [zon];exact (zrd _ _ _).2
   omega
  ·cases hr
theorem zy9 {h:Hist} {e:Ev} (hn:(!(zl5 h e.o e.v).isSome)=true):ze2 h e= []:=by
 rw [ze2];cases hq:zl5 h e.o e.v with
 |none=>rfl
 |some r=>rw [hq] at hn;cases hn
theorem zy8 {h:Hist} {e:Ev} {r:Int} (hr:zl5 h e.o e.v=some r):ze2 h e= [(e.o,[r+1])]:=by rw [ze2,hr]
theorem zxw {α:Type} (p:α→Bool):∀(l:List α) (i:Nat),zbw p i l= -1∨(i:Int)≤zbw p i l
 | [],i=>by simp [zbw]
 |a::r,i=>by
  have:=zxw p r (i+1)
  simp only [zbw]
  split
  ·right;omega
  ·omega
theorem yi3 {l:List Int} {q:Int→Bool} {i n:Nat} (h:zbw q i l=((i+n:Nat):Int)):l.dropWhile (fun k=> !q k)=l.drop n:=by
 induction l generalizing i n with
 |nil=>simp [zbw] at h;omega
 |cons a r ih=>
  rw [zbw] at h
  by_cases hq:q a=true
  ·rw [if_pos hq] at h
   have:n=0:=by omega
   subst this
   simp [hq]
  ·rw [if_neg hq] at h
   have hf:q a=false:=by simpa using hq
   obtain ⟨m,rfl⟩:∃m,n=m+1:=⟨n - 1,by
    have:=zxw q r (i+1);omega⟩
   rw [List.dropWhile_cons,hf]
   simp only [Bool.not_false,if_true,List.drop_succ_cons]
   exact ih (i:=i+1) (n:=m) (by rw [h];congr 1;omega)
theorem ywg {h:Hist} {e:Ev} {s:Seen} {r:Int} {n:Nat} (hr:zl5 h s.o s.v=some r) (hn:zbw (fun k=>decide (k > r)) 0 (chL h e.p s.o)=(n:Int)):zdx h e s=some (s.o,rwOver h e.p s.o r)∧rwOver h e.p s.o r=(chL h e.p s.o).drop n:=by
 have ha:(chL h e.p s.o).any (fun k=>decide (k > r))=true:=by rw [←zey _ _ 0,hn];exact decide_eq_true (by omega)
 exact ⟨by rw [zdx,hr];simp only;rw [if_pos ha],by rw [rwOver];exact yi3 (i:=0) (by rw [hn];congr 1;omega)⟩
theorem yvx {h:Hist} {e:Ev} {s:Seen} (hn:(zl5 h s.o s.v).isSome=false∨decide (zbw (fun k=>decide (k > (zl5 h s.o s.v).getD 0)) 0 (chL h e.p s.o) ≥ 0)=false):zdx h e s=none:=by
 rw [zdx]
 cases hr:zl5 h s.o s.v with
 |none=>rfl
 |some r=>
  rw [hr] at hn
  rcases hn with q|q
  ·cases q
  ·rw [Option.getD_some,zey] at q
   simp only
   rw [if_neg (by rw [q];decide)]
theorem ysx {α β:Type} (f:α→Option β) (l:List α) (k:Nat):((l.take k).filterMap f).length≤k:=Nat.le_trans (List.length_filterMap_le _ _) (List.length_take_le _ _)
theorem ysw {α β:Type} {f:α→Option β} {l:List α} {k:Nat} {b:β} (hk:k < l.length) (h:f l[k]=some b):(l.take (k+1)).filterMap f=(l.take k).filterMap f++ [b]:=by
 rw [List.take_succ_eq_append_getElem hk,List.filterMap_append];simp [h]
theorem yol {α β:Type} {f:α→Option β} {l:List α} {k:Nat} (hk:k < l.length) (h:f l[k]=none):(l.take (k+1)).filterMap f=(l.take k).filterMap f:=by
 rw [List.take_succ_eq_append_getElem hk,List.filterMap_append];simp [h]
theorem yud (h:Hist) (la:Lim 4611686018427387904 h) (hc:u9 h=0) (p x:Int) (rc rl rk rg:Nat) (M:List ((Int×Int)×List Int)) (hM:zol h M) (W:List Res):y8 Tryz.prog 305 [.agg (rwP h rc rl rk rg),iv p,iv x] (rgR rg M::rkS h rk::zbh h rl::rcR h rc:: .glob 2 156 y5:: .glob 4 305 y7:: .glob 5 308 y2:: .glob 3 246 u5::W) (fun r h'=>∃M',zol h M'∧h'=rgR rg M'::rkS h rk::zbh h rl::rcR h rc:: .glob 2 156 y5:: .glob 4 305 y7:: .glob 5 308 y2:: .glob 3 246 u5::W∧r=zbe (chL h p x)):=by
 refine z6 Tryz.func305 rfl rfl rfl ?_
 refine rn ?_;refine z8 rfl (w9 rfl rfl rfl fun b3=> ?_)
 refine q1 ?_;refine u6 (zab ?_)
 refine w8 (y3 ?_)
 refine q1 ?_;refine q1 ?_;refine qq rfl rfl (zcy (out:= [iv p,iv x]) rfl (by rfl)) ?_
 refine z8 rfl (y4 rfl fun b7=> ?_)
 first|refine z8 rfl (j9 rfl rfl rfl ?_)|refine z8 rfl (zao rfl rfl rfl rfl (Nat.le_of_ble_eq_true rfl) ?_)
 refine u6 (zab ?_)
 refine w8 ?_;refine w8 (y3 ?_)
 refine q1 ?_;refine q1 ?_;refine q1 ?_;refine qq rfl rfl (zhw (g:=zbe) (enc:=zbi) (k:=(p,x)) ([]:List Int) rfl rfl rfl) ?_
 refine rn ?_;refine z7 rfl (fun hc21=> ?_) (fun hc21=> ?_)
 ·refine ze5 12 [11] [] (fun he=>∃M,he= .box b7 45 [iv p,iv x]:: .box b3 119 (rwP h rc rl rk rg)::rgR rg M::rkS h rk::zbh h rl::rcR h rc:: .glob 2 156 y5:: .glob 4 305 y7:: .glob 5 308 y2:: .glob 3 246 u5::W) rfl rfl ⟨_,rfl⟩ ?_
  refine jq rfl (fun he hC=>by obtain ⟨M,rfl⟩:=hC <;> exact qrA) ?_
  refine jq rfl (fun he hC=>by obtain ⟨M,rfl⟩:=hC <;> exact qrA) ?_
  refine jq rfl (fun he hC=>by obtain ⟨M,rfl⟩:=hC <;> exact qrA) ?_
  refine jq rfl (fun he hC=>by obtain ⟨M,rfl⟩:=hC <;> exact qrA) ?_
  refine jq rfl (fun he hC=>by obtain ⟨M,rfl⟩:=hC <;> exact qrA) ?_
  refine jq rfl (fun he hC=>by obtain ⟨M,rfl⟩:=hC <;> exact qrA) ?_
  refine jq rfl (fun he hC=>by obtain ⟨M,rfl⟩:=hC <;> exact qrA) ?_
  refine jv rfl (fun he hC=>by obtain ⟨M,rfl⟩:=hC <;> exact (by exact y1 rfl rfl (y0.qt (y0.of_fun (yr1 h la p x)) ((pt6 _ _ _ _ _ _ _ _).trans (.cons _ ((pt6 _ _ _ _ _ _ _ _).trans (.cons _ ((pt6 _ _ _ _ _ _ _ _).trans (.cons _ (pt6 _ _ _ _ _ _ _ _)))))))))) ?_
  refine jq rfl (fun he hC=>by obtain ⟨M,rfl⟩:=hC <;> exact qrA) ?_
  refine jq rfl (fun he hC=>by obtain ⟨M,rfl⟩:=hC <;> exact qrA) ?_
  refine jq rfl (fun he hC=>by obtain ⟨M,rfl⟩:=hC <;> exact qrA) ?_
  refine je rfl ?_;refine zzs ?_;refine jce rfl fun u=> ?_
  refine za6 (g:=zbe) (enc:=zbi) (k:=(p,x)) (v:=chL h p x) rfl rfl rfl ⟨.any,_,rfl,⟨_,rfl⟩,?_⟩
  refine jcn ?_;refine ln ?_;refine u6 (zab ?_)
  refine w8 (y3 ?_)
  refine q1 ?_;refine q1 ?_;refine q1 ?_;refine qq rfl rfl (zcj (g:=zbe) (enc:=zbi) (k:=(p,x)) ([]:List Int) rfl rfl) ?_
  refine rn ?_;first|exact k8 rfl (.drop [_,_] _ _) ⟨_,zx7 hM p x,rfl,congrArg zbe (zx8 p x)⟩|exact k8 rfl (.drop [_,_] _ _) ⟨_,hM,rfl,congrArg zbe (zx9 hM hc21)⟩
 ·refine zan ?_;refine zab ?_;refine w8 (y3 ?_)
  refine q1 ?_;refine q1 ?_;refine q1 ?_;refine qq rfl rfl (zcj (g:=zbe) (enc:=zbi) (k:=(p,x)) ([]:List Int) rfl rfl) ?_
  refine rn ?_;first|exact k8 rfl (.drop [_,_] _ _) ⟨_,zx7 hM p x,rfl,congrArg zbe (zx8 p x)⟩|exact k8 rfl (.drop [_,_] _ _) ⟨_,hM,rfl,congrArg zbe (zx9 hM hc21)⟩
theorem ybg (h:Hist) (rc rl rk rg:Nat) (n:Int) (W:List Res):y8 Tryz.prog 302 [.agg (rwP h rc rl rk rg),iv n] W (fun r h'=>h'=W∧r=zi5 []):=by
 refine z6 Tryz.func302 rfl rfl rfl ?_
 refine rn ?_;refine z8 rfl (w9 rfl rfl rfl fun b2=> ?_)
 refine rn ?_;exact k8 rfl (.trans (.drop [_] _ _) (.le (Sb.nil false 2).le)) ⟨rfl,rfl⟩
theorem yqe (h:Hist) (la:Lim 4611686018427387904 h) (hc:u9 h=0) (a:Nat) (ha:a < h.evs.length) (h3:h.evs[a].kind=3) (rc rl rk rg:Nat) (M:List ((Int×Int)×List Int)) (W:List Res):y8 Tryz.prog 303 [.agg (rwP h rc rl rk rg),iv (a:Int)] (rgR rg M::rkS h rk::zbh h rl::rcR h rc:: .glob 2 156 y5:: .glob 4 305 y7:: .glob 5 308 y2:: .glob 3 246 u5::W) (fun r h'=>h'=rgR rg M::rkS h rk::zbh h rl::rcR h rc:: .glob 2 156 y5:: .glob 4 305 y7:: .glob 5 308 y2:: .glob 3 246 u5::W∧r=zi5 (ze2 h h.evs[a])):=by
 refine z6 Tryz.func303 rfl rfl rfl ?_
 have ra:=zaj (f:=evR) ha
 refine rn ?_;refine z8 rfl (w9 rfl rfl rfl fun b2=> ?_)
 refine q1 ?_;refine u6 (zab ?_)
 refine w8 (y3 ?_)
 refine q1 ?_;refine q1 ?_;refine q1 ?_;refine q1 ?_;refine qq rfl rfl (zca rfl rfl ra) ?_
 refine rn ?_;refine z8 rfl (y4 rfl fun b5=> ?_)
 first|refine z8 rfl (j9 rfl rfl rfl ?_)|refine z8 rfl (zao rfl rfl rfl rfl (Nat.le_of_ble_eq_true rfl) ?_)
 refine u6 (zab ?_)
 refine w8 (y3 ?_)
 refine q1 ?_;refine q1 ?_;refine q1 ?_;refine q1 ?_;refine q1 ?_;refine q1 ?_;refine qq rfl rfl (zae (out:= [iv h.evs[a].o,iv h.evs[a].v.t,iv h.evs[a].v.k]) rfl (by rfl)) ?_
 refine qq rfl rfl (zhw (g:=iv) (enc:=zft) (k:=(h.evs[a].o,h.evs[a].v.t,h.evs[a].v.k)) (0:Int) rfl rfl rfl) ?_
 refine rn ?_;refine z7 rfl (fun hc26=> ?_) (fun hc26=> ?_)
 ·have hn:(!(zl5 h h.evs[a].o h.evs[a].v).isSome)=true:=hc26
  refine rn ?_;exact k8 rfl (.trans (.drop [_,_] _ _) (.le (Sb.nil false 2).le)) ⟨rfl,by rw [zy9 hn];rfl⟩
 ·obtain ⟨r0,hr⟩:∃r,(zbs (h.evs[a].o,h.evs[a].v.t,h.evs[a].v.k) (rkM h h.os.length))=some r:=Option.isSome_iff_exists.1 (by simpa using hc26)
  have hr':zl5 h h.evs[a].o h.evs[a].v=some r0:=hr
  have hb:=yqm hc (zss (ze0 (zbj.1 hc) _ (List.getElem_mem ha)) h3).1.1 (zss (ze0 (zbj.1 hc) _ (List.getElem_mem ha)) h3).1.2 hr'
  rw [hr,Option.getD_some]
  refine rn ?_;refine qv rfl rfl (q6 rfl rfl) ?_
  refine qq rfl rfl (zae (out:= [iv h.evs[a].o,.list true 1 [[iv (r0+1)]]]) rfl (by rfl)) ?_
  refine qv rfl rfl (q6 rfl rfl) ?_
  refine rn ?_;exact k8 rfl (.trans (.drop [_,_] _ _) (.le (Sb.lists (rows:= [[iv h.evs[a].o,.list true 1 [[iv (r0+1)]]]]) (rows':= [[iv h.evs[a].o,.list false 1 [[iv (r0+1)]]]]) (by simp) ⟨⟨.refl _,.unfull,trivial⟩,trivial⟩).le)) ⟨rfl,by rw [zy8 hr'];rfl⟩
theorem yl7 (k r0:Int) (b:Nat) (W:List Res):y8 Tryz.prog 306 [iv k,pZ b] (.box b 3 [iv r0]::W) (fun r h'=>h'= .box b 3 [iv r0]::W∧r=bv (decide (k > r0))):=by
 refine z6 Tryz.func306 rfl rfl rfl ?_
 refine rn ?_;refine rq 0 ?_
 exact ⟨rfl,rfl⟩
theorem yqd (h:Hist) (la:Lim 4611686018427387904 h) (hc:u9 h=0) (a:Nat) (ha:a < h.evs.length) (h4:h.evs[a].kind=4) (rc rl rk rg:Nat) (M:List ((Int×Int)×List Int)) (hM:zol h M) (W:List Res):y8 Tryz.prog 304 [.agg (rwP h rc rl rk rg),iv (a:Int)] (rgR rg M::rkS h rk::zbh h rl::rcR h rc:: .glob 2 156 y5:: .glob 4 305 y7:: .glob 5 308 y2:: .glob 3 246 u5::W) (fun r h'=>∃M',zol h M'∧h'=rgR rg M'::rkS h rk::zbh h rl::rcR h rc:: .glob 2 156 y5:: .glob 4 305 y7:: .glob 5 308 y2:: .glob 3 246 u5::W∧r=zi5 (zie h h.evs[a] a)):=by
 refine z6 Tryz.func304 rfl rfl rfl ?_
 have ra:=zaj (f:=evR) ha
 have hse:=yvw ha hc h4
 have lA:=zez hc
 have lO:=lA.os
 have lS:(zau h h.evs[a] a).length=h.os.length:=zm5 h h.evs[a] a
 refine rn ?_;refine z8 rfl (w9 rfl rfl rfl fun b2=> ?_)
 refine rn ?_;refine qv rfl rfl (y1 rfl rfl (y0.qt (y0.of_fun (yrz h la (a:Int))) ((pt5 _ _ _ _ _ _ _).trans (.cons _ ((pt5 _ _ _ _ _ _ _).trans (.cons _ ((pt5 _ _ _ _ _ _ _).trans (.cons _ (pt5 _ _ _ _ _ _ _))))))))) ?_
 rw [hse.1,hse.2]
 refine rn ?_;refine zia (zau h h.evs[a] a).length (fun j (z:SV×List ((Int×Int)×List Int))=>zol h z.2) (fun j z=>⟨[(23,iv j),(5,.v z.1.v),(1,iv (a:Int)),(2,pZ b2),(21,zfq (zau h h.evs[a] a)),(22,iv ((zau h h.evs[a] a).map zaq).length)],.row z.1.v 2 177 ((((zau h h.evs[a] a).take j).filterMap (zdx h h.evs[a])).map zqk):: .box b2 119 (rwP h rc rl rk rg)::rgR rg z.2::rkS h rk::zbh h rl::rcR h rc:: .glob 2 156 y5:: .glob 4 305 y7:: .glob 5 308 y2:: .glob 3 246 u5::W,[]⟩) (⟨none,0,0⟩,M) hM (v7 (zam 2 177) es) ?_
 intro j z lj hz
 refine rn ?_;refine z7 rfl (fun hc24=> ?_) (fun hc24=> ?_)
 ·have hj:=za4 hc24
  have rj:=zaj (f:=zaq) hj
  have bl:=ysx (zdx h h.evs[a]) (zau h h.evs[a] a) j
  have bc:=ykz hc h.evs[a].p (zau h h.evs[a] a)[j].o
  refine rn ?_;refine z8 rfl (y4 rfl fun b9=> ?_)
  first|refine z8 rfl (j9 rfl rfl rfl ?_)|refine z8 rfl (zao rfl rfl rfl rfl (Nat.le_of_ble_eq_true rfl) ?_)
  refine u6 (zab ?_)
  refine w8 (y3 ?_)
  refine q1 ?_;refine q1 ?_;refine q1 ?_;refine q1 ?_;refine q1 ?_;refine q1 ?_;refine qq rfl rfl (zae (out:= [iv (zau h h.evs[a] a)[j].o,iv (zau h h.evs[a] a)[j].v.t,iv (zau h h.evs[a] a)[j].v.k]) rfl (by rfl)) ?_
  refine qq rfl rfl (zhw (g:=iv) (enc:=zft) (k:=((zau h h.evs[a] a)[j].o,(zau h h.evs[a] a)[j].v.t,(zau h h.evs[a] a)[j].v.k)) (0:Int) rfl rfl rfl) ?_
  refine rn ?_;refine z8 rfl (y4 rfl fun b10=> ?_)
  refine rn ?_;refine k9 10 rfl ?_
  refine dq rfl rfl qrA ?_;refine dq rfl rfl qrA ?_;refine dq rfl rfl qrA ?_;refine dq rfl rfl qrA ?_;refine dq rfl rfl qrA ?_;refine dq rfl rfl (zca rfl rfl ra) ?_
  refine rn ?_;refine z8 rfl (v8 rfl rfl (y0.fr4 (y0.of_fun (yud h la hc h.evs[a].p (zau h h.evs[a] a)[j].o rc rl rk rg z.2 hz W))) rfl ?_)
  rintro _ _ ⟨_,rfl,M2,hM2,rfl,rfl⟩
  refine rn ?_;refine qv rfl rfl (y1 rfl rfl (y0.of_fun (zlu (chL h h.evs[a].p (zau h h.evs[a] a)[j].o) _ (fun k=>decide (k > ((zbs ((zau h h.evs[a] a)[j].o,(zau h h.evs[a] a)[j].v.t,(zau h h.evs[a] a)[j].v.k) (rkM h h.os.length)).getD 0))) (.box b10 3 [iv ((zbs ((zau h h.evs[a] a)[j].o,(zau h h.evs[a] a)[j].v.t,(zau h h.evs[a] a)[j].v.k) (rkM h h.os.length)).getD 0)]:: .box b9 70 (zaq (zau h h.evs[a] a)[j]):: .row z.1.v 2 177 ((((zau h h.evs[a] a).take j).filterMap (zdx h h.evs[a])).map zqk):: .box b2 119 (rwP h rc rl rk rg)::rgR rg M2::rkS h rk::zbh h rl::rcR h rc:: .glob 2 156 y5:: .glob 4 305 y7:: .glob 5 308 y2:: .glob 3 246 u5::W) (fun k _=>y0.of_acall (fs:= []) (cs:= [pZ b10]) (yl7 k ((zbs ((zau h h.evs[a] a)[j].o,(zau h h.evs[a] a)[j].v.t,(zau h h.evs[a] a)[j].v.k) (rkM h h.os.length)).getD 0) b10 _)) (by omega)))) ?_
  refine rn ?_;refine w7 (fun hg9_1=> ?_) (fun hg9_1=> ?_)
  ·refine rn ?_;refine z7 rfl (fun hc56=> ?_) (fun hc56=> ?_)
   ·have q9:decide ((zbw (fun k=>decide (k > ((zbs ((zau h h.evs[a] a)[j].o,(zau h h.evs[a] a)[j].v.t,(zau h h.evs[a] a)[j].v.k) (rkM h h.os.length)).getD 0))) 0 (chL h h.evs[a].p (zau h h.evs[a] a)[j].o)) ≥ 0)=true:=by first|exact hc56|(have q:=hc56;rw [hg9_1] at q;simpa using q)
    have q8:=oT q9
    obtain ⟨n,hn⟩:∃n:Nat,(zbw (fun k=>decide (k > ((zbs ((zau h h.evs[a] a)[j].o,(zau h h.evs[a] a)[j].v.t,(zau h h.evs[a] a)[j].v.k) (rkM h h.os.length)).getD 0))) 0 (chL h h.evs[a].p (zau h h.evs[a] a)[j].o))=n:=⟨(zbw (fun k=>decide (k > ((zbs ((zau h h.evs[a] a)[j].o,(zau h h.evs[a] a)[j].v.t,(zau h h.evs[a] a)[j].v.k) (rkM h h.os.length)).getD 0))) 0 (chL h h.evs[a].p (zau h h.evs[a] a)[j].o)).toNat,by omega⟩
    obtain ⟨r0,hr⟩:∃r,zl5 h (zau h h.evs[a] a)[j].o (zau h h.evs[a] a)[j].v=some r:=Option.isSome_iff_exists.1 hg9_1
    obtain ⟨hsr,hov⟩:=ywg (e:=h.evs[a]) (n:=n) hr (by rw [←hn];show _=zbw (fun k=>decide (k > (zl5 h (zau h h.evs[a] a)[j].o (zau h h.evs[a] a)[j].v).getD 0)) 0 _;rw [hr];rfl)
    rw [hn]
    have hnl:n≤(chL h h.evs[a].p (zau h h.evs[a] a)[j].o).length:=by have:=(zrd (fun k=>decide (k > ((zbs ((zau h h.evs[a] a)[j].o,(zau h h.evs[a] a)[j].v.t,(zau h h.evs[a] a)[j].v.k) (rkM h h.os.length)).getD 0))) (chL h h.evs[a].p (zau h h.evs[a] a)[j].o) 0).2;omega
    refine k9 8 rfl ?_
    refine dq rfl rfl qrA ?_;refine dq rfl rfl qrA ?_;refine dq rfl rfl qrA ?_;refine dq rfl rfl qrA ?_;refine dq rfl rfl qrA ?_;refine dq rfl rfl (zhx (zd5 (l:=n) rfl rfl (by rw [oM];exact hnl)) (show AV.list false 1 _=zbe (rwOver h h.evs[a].p (zau h h.evs[a] a)[j].o r0) by rw [←List.map_drop,←hov];rfl)) ?_
    refine dq rfl rfl (zae (out:=zqk ((zau h h.evs[a] a)[j].o,rwOver h h.evs[a].p (zau h h.evs[a] a)[j].o r0)) rfl (by rfl)) ?_
    refine dv rfl rfl (q6 rfl rfl) ?_
    refine rn ?_;refine z8 rfl (q7 rfl rfl (by simp only [oM,List.length_cons,List.length_nil];omega) rfl (fun s65=> ?_) (yrk [((zau h h.evs[a] a)[j].o,rwOver h h.evs[a].p (zau h h.evs[a] a)[j].o r0)]))
    refine j3 s65 fun sv hsv=> ?_
    subst hsv
    refine rn ?_;first|exact ⟨hj,(sv,M2),hM2,by rw [ysw hj hsr,List.map_append];exact eA⟩|exact ⟨hj,(z.1,M2),hM2,by rw [yol hj hsr];exact eA⟩
   ·have hsr:zdx h h.evs[a] (zau h h.evs[a] a)[j]=none:=yvx (by first|exact .inr hc56|exact .inl hg9_1)
    refine rn ?_;first|exact ⟨hj,(sv,M2),hM2,by rw [ysw hj hsr,List.map_append];exact eA⟩|exact ⟨hj,(z.1,M2),hM2,by rw [yol hj hsr];exact eA⟩
  ·refine rn ?_;refine zff rfl ?_;have hsr:zdx h h.evs[a] (zau h h.evs[a] a)[j]=none:=yvx (by first|exact .inr hc56|exact .inl hg9_1)
   refine rn ?_;first|exact ⟨hj,(sv,M2),hM2,by rw [ysw hj hsr,List.map_append];exact eA⟩|exact ⟨hj,(z.1,M2),hM2,by rw [yol hj hsr];exact eA⟩
 ·have qj:=za5 hc24 lj
  refine rn ?_;exact k8 rfl (.trans zcw (.drop [_] _ _)) ⟨_,hz,rfl,by rw [qj,List.take_length];rfl⟩
end Go.Proofs
