/- The walk of the reference's test of an event. Conditions: none. -/
import Derived.Test.YtcaijocpofcbdaaGreatDoorGTeI
set_option maxHeartbeats 4000000
set_option linter.unusedSectionVars false
set_option linter.unusedSimpArgs false
set_option linter.unusedVariables false
set_option maxRecDepth 10000
namespace Go.Proofs
open Go Go.Ab
attribute [local irreducible] QR QV OE zcz aw zdg zbs zbh za1 thn zfx
open Go.H
theorem bvz0_5829 {a b:Bool} (h:a=b:=by first|(simp only [zka,zva, *,Bool.true_and,Bool.false_and,Bool.and_false,Bool.and_true,Bool.true_or,Bool.or_false,Bool.false_or,Bool.or_true,if_true,if_false,Bool.false_eq_true,Bool.not_true,Bool.not_false];done)|(simp_all [zka,zva];done)|(simp_all [zka,zva] <;> omega)):bv a=bv b:=congrArg bv h
theorem zx4 (h:Hist) (e:Ev) (hl:e.scan.length≤4611686018427387904):y8 Tryz.prog 148 [.agg (x3 h),.agg (evR e)] [] (fun r h'=>h'= []∧r=bv (zka h e)):=by
 refine z6 Tryz.func148 rfl rfl rfl ?_
 refine rn ?_;refine z8 rfl (x9 rfl rfl rfl fun b2=> ?_)
 refine z8 rfl (x9 rfl rfl rfl fun b3=> ?_)
 refine rn ?_;refine qv rfl rfl (y4 rfl rfl (v6 (zit _ _) (Sbs.refl _))) ?_
 refine rn ?_;refine z7 rfl (fun hc16=> ?_) (fun hc16=> ?_)
 ·refine rn ?_;exact u9 rfl (.drop [_,_] _ _) ⟨rfl,bvz0_5829⟩
 ·refine rn ?_;refine z8 rfl (y6 rfl fun b6=> ?_)
  refine rn ?_;refine z7 rfl (fun hc24=> ?_) (fun hc24=> ?_)
  ·refine rn ?_;refine zeh 6 [(b6,66,_)] rfl (List.perm_append_comm (l₁:= [_])) ?_
   refine rn ?_;refine dw 0 rfl rfl rfl rfl rfl (Nat.le_of_ble_eq_true rfl) ?_
   refine rn2 ?_;show zcz _ _ _ _ _ _ ⟨_,.box b6 66 [iv e.kind,iv e.t,iv e.s,iv 0,iv 0,iv 0,iv 0,iv 0,.v (.slice none 0 0)]:: .box b3 66 (evR e):: .box b2 28 (x3 h):: [],_⟩
   refine rn0 ?_;refine x8 ?_;show aw _ _ _ _ _ ⟨_,.box b6 66 [iv e.kind,iv e.t,iv e.s,iv e.l,iv 0,iv 0,iv 0,iv 0,.v (.slice none 0 0)]:: .box b3 66 (evR e):: .box b2 28 (x3 h):: [],_⟩
   refine rn ?_;refine qv rfl rfl (y4 rfl rfl (v6 (zfm ⟨e.kind,e.t,e.s,e.l,0,⟨0,0⟩,0,[]⟩ e (by simp [hl]) hl) (by exact ⟨(by exact Sb.aggs (by exact ⟨.refl _,.refl _,.refl _,.refl _,.refl _,.refl _,.refl _,.refl _,.nil _ _,trivial⟩)),.refl _,trivial⟩))) ?_
   refine rn ?_;refine x4 (fun hg8_3=> ?_) (fun hg8_3=> ?_)
   ·refine rn ?_;refine qv rfl rfl (y4 rfl rfl (v6 (zit _ _) (Sbs.refl _))) ?_
    refine rn ?_;refine x4 (fun hg8_11=> ?_) (fun hg8_11=> ?_)
    ·refine rn ?_;refine qv rfl rfl (y4 rfl rfl (v6 (ywq _) (Sbs.refl _))) ?_
     refine rn ?_;exact u9 rfl (.drop [_,_,_] _ _) ⟨rfl,bvz0_5829⟩
    ·refine rn ?_;exact u9 rfl (.drop [_,_,_] _ _) ⟨rfl,bvz0_5829⟩
   ·refine rn ?_;exact u9 rfl (.drop [_,_,_] _ _) ⟨rfl,bvz0_5829⟩
  ·refine rn ?_;refine z7 rfl (fun hc48=> ?_) (fun hc48=> ?_)
   ·refine rn ?_;refine z7 rfl (fun hc48=> ?_) (fun hc48=> ?_)
    ·refine rn ?_;refine zeh 6 [(b6,66,_)] rfl (List.perm_append_comm (l₁:= [_])) ?_
     refine rn ?_;refine dw 0 rfl rfl rfl rfl rfl (Nat.le_of_ble_eq_true rfl) ?_
     refine rn2 ?_;show zcz _ _ _ _ _ _ ⟨_,.box b6 66 [iv e.kind,iv e.t,iv 0,iv 0,iv e.o,iv 0,iv 0,iv 0,.v (.slice none 0 0)]:: .box b3 66 (evR e):: .box b2 28 (x3 h):: [],_⟩
     refine rn0 ?_;refine x8 ?_;refine x8 ?_;show aw _ _ _ _ _ ⟨_,.box b6 66 [iv e.kind,iv e.t,iv 0,iv 0,iv e.o,iv e.v.t,iv e.v.k,iv 0,.v (.slice none 0 0)]:: .box b3 66 (evR e):: .box b2 28 (x3 h):: [],_⟩
     refine rn ?_;refine x4 (fun hg12_3=> ?_) (fun hg12_3=> ?_)
     ·refine rn ?_;refine x4 (fun hg12_8=> ?_) (fun hg12_8=> ?_)
      ·refine rn ?_;refine zdi rfl ?_;refine rn ?_;exact u9 rfl (.drop [_,_,_] _ _) ⟨rfl,bvz0_5829⟩
      ·refine rn ?_;refine z7 rfl (fun hc73=> ?_) (fun hc73=> ?_)
       ·refine rn ?_;exact u9 rfl (.drop [_,_,_] _ _) ⟨rfl,bvz0_5829⟩
       ·refine rn ?_;refine qv rfl rfl (y4 rfl rfl (v6 (zfm ⟨e.kind,e.t,0,0,e.o,e.v,0,[]⟩ e (by simp [hl]) hl) (by exact ⟨(by exact Sb.aggs (by exact ⟨.refl _,.refl _,.refl _,.refl _,.refl _,.refl _,.refl _,.refl _,.nil _ _,trivial⟩)),.refl _,trivial⟩))) ?_
        refine rn ?_;refine x4 (fun hg14_3=> ?_) (fun hg14_3=> ?_)
        ·refine rn ?_;refine qv rfl rfl (y4 rfl rfl (v6 (zit _ _) (Sbs.refl _))) ?_
         refine rn ?_;refine x4 (fun hg14_11=> ?_) (fun hg14_11=> ?_)
         ·refine rn ?_;refine qv rfl rfl (y4 rfl rfl (v6 (zf9 e.v _) (Sbs.refl _))) ?_
          refine rn ?_;exact u9 rfl (.drop [_,_,_] _ _) ⟨rfl,bvz0_5829⟩
         ·refine rn ?_;exact u9 rfl (.drop [_,_,_] _ _) ⟨rfl,bvz0_5829⟩
        ·refine rn ?_;exact u9 rfl (.drop [_,_,_] _ _) ⟨rfl,bvz0_5829⟩
     ·refine rn ?_;refine zeu rfl ?_;refine rn ?_;refine qv rfl rfl (y4 rfl rfl (v6 (zfm ⟨e.kind,e.t,0,0,e.o,e.v,0,[]⟩ e (by simp [hl]) hl) (by exact ⟨(by exact Sb.aggs (by exact ⟨.refl _,.refl _,.refl _,.refl _,.refl _,.refl _,.refl _,.refl _,.nil _ _,trivial⟩)),.refl _,trivial⟩))) ?_
      refine rn ?_;refine x4 (fun hg14_3=> ?_) (fun hg14_3=> ?_)
      ·refine rn ?_;refine qv rfl rfl (y4 rfl rfl (v6 (zit _ _) (Sbs.refl _))) ?_
       refine rn ?_;refine x4 (fun hg14_11=> ?_) (fun hg14_11=> ?_)
       ·refine rn ?_;refine qv rfl rfl (y4 rfl rfl (v6 (zf9 e.v _) (Sbs.refl _))) ?_
        refine rn ?_;exact u9 rfl (.drop [_,_,_] _ _) ⟨rfl,bvz0_5829⟩
       ·refine rn ?_;exact u9 rfl (.drop [_,_,_] _ _) ⟨rfl,bvz0_5829⟩
      ·refine rn ?_;exact u9 rfl (.drop [_,_,_] _ _) ⟨rfl,bvz0_5829⟩
    ·first|cases hc48|exact absurd hc48 (by decide)|(exfalso;simp_all;done)
   ·refine rn ?_;refine z7 rfl (fun hc48=> ?_) (fun hc48=> ?_)
    ·refine rn ?_;refine zeh 6 [(b6,66,_)] rfl (List.perm_append_comm (l₁:= [_])) ?_
     refine rn ?_;refine dw 0 rfl rfl rfl rfl rfl (Nat.le_of_ble_eq_true rfl) ?_
     refine rn2 ?_;show zcz _ _ _ _ _ _ ⟨_,.box b6 66 [iv e.kind,iv e.t,iv 0,iv 0,iv e.o,iv 0,iv 0,iv 0,.v (.slice none 0 0)]:: .box b3 66 (evR e):: .box b2 28 (x3 h):: [],_⟩
     refine rn0 ?_;refine x8 ?_;refine x8 ?_;show aw _ _ _ _ _ ⟨_,.box b6 66 [iv e.kind,iv e.t,iv 0,iv 0,iv e.o,iv e.v.t,iv e.v.k,iv 0,.v (.slice none 0 0)]:: .box b3 66 (evR e):: .box b2 28 (x3 h):: [],_⟩
     refine rn ?_;refine x4 (fun hg12_3=> ?_) (fun hg12_3=> ?_)
     ·refine rn ?_;refine x4 (fun hg12_8=> ?_) (fun hg12_8=> ?_)
      ·refine rn ?_;refine zdi rfl ?_;refine rn ?_;exact u9 rfl (.drop [_,_,_] _ _) ⟨rfl,bvz0_5829⟩
      ·refine rn ?_;refine z7 rfl (fun hc73=> ?_) (fun hc73=> ?_)
       ·refine rn ?_;exact u9 rfl (.drop [_,_,_] _ _) ⟨rfl,bvz0_5829⟩
       ·refine rn ?_;refine qv rfl rfl (y4 rfl rfl (v6 (zfm ⟨e.kind,e.t,0,0,e.o,e.v,0,[]⟩ e (by simp [hl]) hl) (by exact ⟨(by exact Sb.aggs (by exact ⟨.refl _,.refl _,.refl _,.refl _,.refl _,.refl _,.refl _,.refl _,.nil _ _,trivial⟩)),.refl _,trivial⟩))) ?_
        refine rn ?_;refine x4 (fun hg14_3=> ?_) (fun hg14_3=> ?_)
        ·refine rn ?_;refine qv rfl rfl (y4 rfl rfl (v6 (zit _ _) (Sbs.refl _))) ?_
         refine rn ?_;refine x4 (fun hg14_11=> ?_) (fun hg14_11=> ?_)
         ·refine rn ?_;refine qv rfl rfl (y4 rfl rfl (v6 (zf9 e.v _) (Sbs.refl _))) ?_
          refine rn ?_;exact u9 rfl (.drop [_,_,_] _ _) ⟨rfl,bvz0_5829⟩
         ·refine rn ?_;exact u9 rfl (.drop [_,_,_] _ _) ⟨rfl,bvz0_5829⟩
        ·refine rn ?_;exact u9 rfl (.drop [_,_,_] _ _) ⟨rfl,bvz0_5829⟩
     ·refine rn ?_;refine zeu rfl ?_;refine rn ?_;refine qv rfl rfl (y4 rfl rfl (v6 (zfm ⟨e.kind,e.t,0,0,e.o,e.v,0,[]⟩ e (by simp [hl]) hl) (by exact ⟨(by exact Sb.aggs (by exact ⟨.refl _,.refl _,.refl _,.refl _,.refl _,.refl _,.refl _,.refl _,.nil _ _,trivial⟩)),.refl _,trivial⟩))) ?_
      refine rn ?_;refine x4 (fun hg14_3=> ?_) (fun hg14_3=> ?_)
      ·refine rn ?_;refine qv rfl rfl (y4 rfl rfl (v6 (zit _ _) (Sbs.refl _))) ?_
       refine rn ?_;refine x4 (fun hg14_11=> ?_) (fun hg14_11=> ?_)
       ·refine rn ?_;refine qv rfl rfl (y4 rfl rfl (v6 (zf9 e.v _) (Sbs.refl _))) ?_
        refine rn ?_;exact u9 rfl (.drop [_,_,_] _ _) ⟨rfl,bvz0_5829⟩
       ·refine rn ?_;exact u9 rfl (.drop [_,_,_] _ _) ⟨rfl,bvz0_5829⟩
      ·refine rn ?_;exact u9 rfl (.drop [_,_,_] _ _) ⟨rfl,bvz0_5829⟩
    ·refine rn ?_;refine z7 rfl (fun hc91=> ?_) (fun hc91=> ?_)
     ·refine rn ?_;refine zeh 6 [(b6,66,_)] rfl (List.perm_append_comm (l₁:= [_])) ?_
      refine rn ?_;refine dw 0 rfl rfl rfl rfl rfl (Nat.le_of_ble_eq_true rfl) ?_
      refine rn2 ?_;show zcz _ _ _ _ _ _ ⟨_,.box b6 66 [iv e.kind,iv e.t,iv 0,iv 0,iv 0,iv 0,iv 0,iv e.p,.v (.slice none 0 0)]:: .box b3 66 (evR e):: .box b2 28 (x3 h):: [],_⟩
      refine rn0 ?_;refine x8 ?_;refine x8 ?_;show aw _ _ _ _ _ ⟨_,.box b6 66 [iv e.kind,iv e.t,iv 0,iv 0,iv 0,iv 0,iv 0,iv e.p,zkw e.scan]:: .box b3 66 (evR e):: .box b2 28 (x3 h):: [],_⟩
      refine rn ?_;refine u5 (fun k:Nat=>k≤e.scan.length∧e.scan.all (zbq h)=(e.scan.drop k).all (zbq h)) (fun k=>⟨[(102,iv k),(101,iv (e.scan.map zar).length),(100,zkw e.scan),(2,pZ b2),(3,pZ b3),(6,pZ b6),(5,iv (h.ts.map za2).length)],[.box b6 66 (evR ⟨e.kind,e.t,0,0,0,⟨0,0⟩,e.p,e.scan⟩),.box b3 66 (evR e),.box b2 28 (x3 h)],[]⟩) (fun k=>e.scan.length - k) 0 ⟨Nat.zero_le _,by simp⟩
       (w6 (.cons _ _ _ rfl (.cons _ _ _ rfl (.cons _ _ _ rfl (.cons _ _ _ rfl (.cons _ _ _ rfl (.cons _ _ _ rfl (.cons _ _ _ rfl (.nil))))))))) ?_
      rintro k ⟨hk,hz⟩
      refine rn ?_;refine z7 rfl (fun hc103=> ?_) (fun hc103=> ?_)
      ·have hk2:k < e.scan.length:=by simpa using hc103
       obtain ⟨s,hs⟩:∃s,s=e.scan[k]:=⟨_,rfl⟩
       have hrow:(e.scan.map zar)[k]? =some (zar s):=by rw [hs];simp [hk2]
       have hd:=List.drop_eq_getElem_cons hk2
       rw [←hs] at hd
       refine rn ?_;refine z8 rfl (y6 rfl fun b8=> ?_)
       refine rn ?_;refine qv rfl rfl (y4 rfl rfl (v6 (zit _ _) (Sbs.refl _))) ?_
       refine rn ?_;refine x4 (fun hg20_7=> ?_) (fun hg20_7=> ?_)
       ·refine rn ?_;refine zdi rfl ?_;have hx:zbq h s=false:=by clear hz hd hrow hs hc103 hk2 hk;simp_all [zbq]
        have hall:e.scan.all (zbq h)=false:=by rw [hz,hd,List.all_cons,hx,Bool.false_and]
        clear hz hd hx hrow
        refine rn ?_;exact u9 rfl (.drop [_,_,_,_] _ _) ⟨rfl,bvz0_5829⟩
       ·refine rn ?_;refine qv rfl rfl (y4 rfl rfl (v6 (zf9 s.v _) (Sbs.refl _))) ?_
        refine rn ?_;refine z7 rfl (fun hc119=> ?_) (fun hc119=> ?_)
        ·have hx:zbq h s=false:=by clear hz hd hrow hs hc103 hk2 hk;simp_all [zbq]
         have hall:e.scan.all (zbq h)=false:=by rw [hz,hd,List.all_cons,hx,Bool.false_and]
         clear hz hd hx hrow
         refine rn ?_;exact u9 rfl (.drop [_,_,_,_] _ _) ⟨rfl,bvz0_5829⟩
        ·have hx:zbq h s=true:=by clear hz hd hrow hs hc103 hk2 hk;simp_all [zbq]
         refine rn ?_;exact ⟨k+1,⟨by omega,by rw [hz,hd,List.all_cons,hx,Bool.true_and]⟩,(w9 (zba (h1:= [_])) (w6 (.cons _ _ _ rfl (.cons _ _ _ rfl (.cons _ _ _ rfl (.cons _ _ _ rfl (.cons _ _ _ rfl (.cons _ _ _ rfl (.cons _ _ _ rfl (.nil)))))))))),by omega⟩
      ·have hk3:k=e.scan.length:=by
        have:e.scan.length≤k:=by simpa using hc103
        omega
       rw [hk3,List.drop_length,List.all_nil] at hz
       refine rn ?_;refine qv rfl rfl (y4 rfl rfl (v6 (zfm ⟨e.kind,e.t,0,0,0,⟨0,0⟩,e.p,e.scan⟩ e (by simp [hl]) hl) (by exact ⟨(by exact Sb.aggs (by exact ⟨.refl _,.refl _,.refl _,.refl _,.refl _,.refl _,.refl _,.refl _,.refl _,trivial⟩)),.refl _,trivial⟩))) ?_
       refine rn ?_;refine x4 (fun hg23_3=> ?_) (fun hg23_3=> ?_)
       ·refine rn ?_;refine qv rfl rfl (y4 rfl rfl (v6 (zit _ _) (Sbs.refl _))) ?_
        refine rn ?_;refine x4 (fun hg23_11=> ?_) (fun hg23_11=> ?_)
        ·refine rn ?_;exact u9 rfl (.drop [_,_,_] _ _) ⟨rfl,bvz0_5829⟩
        ·refine rn ?_;exact u9 rfl (.drop [_,_,_] _ _) ⟨rfl,bvz0_5829⟩
       ·refine rn ?_;exact u9 rfl (.drop [_,_,_] _ _) ⟨rfl,bvz0_5829⟩
     ·refine rn ?_;refine qv rfl rfl (y4 rfl rfl (v6 (zfm ⟨e.kind,e.t,0,0,0,⟨0,0⟩,0,[]⟩ e (by simp [hl]) hl) (by exact ⟨(by exact Sb.aggs (by exact ⟨.refl _,.refl _,.refl _,.refl _,.refl _,.refl _,.refl _,.refl _,.nil _ _,trivial⟩)),.refl _,trivial⟩))) ?_
      refine rn ?_;refine x4 (fun hg24_3=> ?_) (fun hg24_3=> ?_)
      ·refine rn ?_;refine x4 (fun hg24_7=> ?_) (fun hg24_7=> ?_)
       ·refine rn ?_;exact u9 rfl (.drop [_,_,_] _ _) ⟨rfl,bvz0_5829⟩
       ·refine rn ?_;exact u9 rfl (.drop [_,_,_] _ _) ⟨rfl,bvz0_5829⟩
      ·refine rn ?_;exact u9 rfl (.drop [_,_,_] _ _) ⟨rfl,bvz0_5829⟩
theorem ya0 (s:ByteArray):y8 Tryz.prog 206 [sv s] [] (fun r h'=>h'= []∧r= .tup [.v (.int .i32 (zb7 s).1),iv (zb7 s).2]):=by
 refine z6 Tryz.func206 rfl rfl rfl ?_
 refine rn ?_;refine z8 rfl (zkz rfl rfl fun b8=> ?_)
 refine rn ?_;refine u5 (fun x:Unit=>True) (fun x=>⟨[(8,pZ b8),(0,sv s),(2,.v (.int .i32 0)),(3,iv 0)],[.obj b8 (.stringIter s 0)],[]⟩) (fun x=>0) () trivial
  (w6 (.cons _ _ _ rfl (.cons _ _ _ rfl (.cons _ _ _ rfl (.cons _ _ _ rfl (.nil)))))) ?_
 rintro _ _
 refine x8 (y5 ?_)
 refine z8 rfl (zmv rfl rfl (fun hp=> ?_) (fun hp=> ?_))
 ·refine rn ?_;refine z7 rfl (fun hc10=> ?_) (fun hc10=> ?_)
  ·first|cases hc10|exact absurd hc10 (by decide)|(exfalso;simp_all;done)
  ·refine rn ?_;exact zbw rfl rfl (.drop1 _ _ _) ⟨rfl,by first|(rw [zb7,if_pos hp];rfl)|(rw [zb7,if_neg (by omega)];split <;> first|rfl|(exfalso;simp_all;done)|(exfalso;simp_all;omega))⟩
 ·refine rn ?_;refine z7 rfl (fun hc10=> ?_) (fun hc10=> ?_)
  ·refine rn ?_;refine z7 rfl (fun hc14=> ?_) (fun hc14=> ?_)
   ·exact absurd hc14 (by decide)
   ·refine zad ?_;refine j7 ?_;refine x8 (y5 ?_)
    refine q1 ?_;refine qq rfl rfl (znw rfl) ?_
    refine rn ?_;refine x4 (fun hg6_2=> ?_) (fun hg6_2=> ?_)
    ·refine rn ?_;refine x4 (fun hg6_6=> ?_) (fun hg6_6=> ?_)
     ·refine rn ?_;refine z7 rfl (fun hc29=> ?_) (fun hc29=> ?_)
      ·refine rn ?_;exact zbw rfl rfl (.drop1 _ _ _) ⟨rfl,by first|(rw [zb7,if_pos hp];rfl)|(rw [zb7,if_neg (by omega)];split <;> first|rfl|(exfalso;simp_all;done)|(exfalso;simp_all;omega))⟩
      ·first|cases hc29|exact absurd hc29 (by decide)|(exfalso;simp_all;done)
     ·refine q1 ?_;refine qq rfl rfl (zeb (k:=3) rfl rfl (by have:=hg6_6;simp at this;omega)) ?_
      refine rn ?_;refine z7 rfl (fun hc29=> ?_) (fun hc29=> ?_)
      ·refine rn ?_;exact zbw rfl rfl (.drop1 _ _ _) ⟨rfl,by first|(rw [zb7,if_pos hp];rfl)|(rw [zb7,if_neg (by omega)];split <;> first|rfl|(exfalso;simp_all;done)|(exfalso;simp_all;omega))⟩
      ·refine rn ?_;exact zbw rfl rfl (.drop1 _ _ _) ⟨rfl,by first|(rw [zb7,if_pos hp];rfl)|(rw [zb7,if_neg (by omega)];split <;> first|rfl|(exfalso;simp_all;done)|(exfalso;simp_all;omega))⟩
    ·refine rn ?_;refine z7 rfl (fun hc29=> ?_) (fun hc29=> ?_)
     ·first|cases hc29|exact absurd hc29 (by decide)|(exfalso;simp_all;done)
     ·refine rn ?_;exact zbw rfl rfl (.drop1 _ _ _) ⟨rfl,by first|(rw [zb7,if_pos hp];rfl)|(rw [zb7,if_neg (by omega)];split <;> first|rfl|(exfalso;simp_all;done)|(exfalso;simp_all;omega))⟩
  ·first|cases hc10|exact absurd hc10 (by decide)|(exfalso;simp_all;done)
theorem zyg (s:ByteArray) (c n:Int) (h:zb7 s=(c,n)):y8 Tryz.prog 206 [sv s] [] (fun r h'=>h'= []∧r= .tup [.v (.int .i32 c),iv n]):=
 (ya0 s).mono fun _ _ q=>⟨q.1,by rw [q.2,h]⟩
theorem yf3 (s:ByteArray):y8 Tryz.prog 190 [sv s] [] (fun r h'=>h'= []∧r=bv (wordB s)):=by
 refine z6 Tryz.func190 rfl rfl rfl ?_
 refine rn ?_;refine x4 (fun hg1_2=> ?_) (fun hg1_2=> ?_)
 ·refine rn ?_;refine zdi rfl ?_;refine rn ?_;refine rq 0 ?_
  exact ⟨rfl,congrArg bv (by first|(rw [zgk,←yc4,hg1_2];rfl)|(rw [zgk,decide_eq_false (show ¬(s.size:Int)≤24 by simp at hc12;omega),Bool.and_false];rfl))⟩
 ·refine rn ?_;refine z7 rfl (fun hc12=> ?_) (fun hc12=> ?_)
  ·refine rn ?_;refine rq 0 ?_
   exact ⟨rfl,congrArg bv (by first|(rw [zgk,←yc4,hg1_2];rfl)|(rw [zgk,decide_eq_false (show ¬(s.size:Int)≤24 by simp at hc12;omega),Bool.and_false];rfl))⟩
  ·have hlen:s.size≤24:=by simp at hc12;omega
   refine rn ?_;refine zc4 (fun i:Nat=>zh8 s 0=zh8 s i∧i≤48) (fun i=>⟨[(3,iv i),(0,sv s)],[],[]⟩) (fun i=>s.size - i) 0 ⟨rfl,by omega⟩ es ?_
   rintro i ⟨hz,hi⟩
   refine rn ?_;refine z7 rfl (fun hc16=> ?_) (fun hc16=> ?_)
   ·have h1:i < s.size:=by simpa using hc16
    refine zad ?_;refine j7 ?_;refine zaj ?_;refine x8 (y5 ?_)
    refine q1 ?_;refine q1 ?_;refine qq rfl rfl (zea (k:=i) rfl rfl (by omega)) ?_
    obtain ⟨c,n,hw,hn1,hn4⟩:=yhw h1
    refine qv rfl rfl (y4 rfl rfl (v6 (zyg _ c n hw) (Sbs.refl _))) ?_
    refine rn ?_;refine qv rfl rfl (y4 rfl rfl (v6 (zyf _) (Sbs.refl _))) ?_
    refine rn ?_;refine x4 (fun hg6_3=> ?_) (fun hg6_3=> ?_)
    ·refine rn ?_;refine x4 (fun hg6_6=> ?_) (fun hg6_6=> ?_)
     ·refine rn ?_;refine zdi rfl ?_;refine rn ?_;refine rq 0 ?_
      exact ⟨rfl,congrArg bv (by rw [zgk,hz,zn2 h1 hw (by simpa using hg6_3) (by first|exact .inl (by simpa using hg6_6)|exact .inr (by simpa using hc35)),Bool.and_false])⟩
     ·refine rn ?_;refine qv rfl rfl (y4 rfl rfl (v6 (zrp _) (Sbs.refl _))) ?_
      refine rn ?_;refine z7 rfl (fun hc35=> ?_) (fun hc35=> ?_)
      ·refine rn ?_;refine rq 0 ?_
       exact ⟨rfl,congrArg bv (by rw [zgk,hz,zn2 h1 hw (by simpa using hg6_3) (by first|exact .inl (by simpa using hg6_6)|exact .inr (by simpa using hc35)),Bool.and_false])⟩
      ·refine rn ?_;exact ⟨i+n,⟨hz.trans (zvh h1 hw hn1 (.inr ⟨by simpa using hg6_6,by simpa using hc35⟩)),by omega⟩,eA,by omega⟩
    ·refine rn ?_;first|(refine qv rfl rfl (y4 rfl rfl (v6 (zrp _) (Sbs.refl _))) ?_)|refine qs rfl rfl ?_|skip
     refine rn ?_;refine zeu rfl ?_;refine rn ?_;exact ⟨i+n,⟨hz.trans (zvh h1 hw hn1 (.inl (by simpa using hg6_3))),by omega⟩,eA,by omega⟩
   ·have h1:¬i < s.size:=by simpa using hc16
    refine rn ?_;refine rq 0 ?_
    exact ⟨rfl,congrArg bv (by rw [zgk,←yc4,hg1_2,hz,zzp h1,decide_eq_true (show (s.size:Int)≤24 by omega)];rfl)⟩
theorem ze1 (l:List ByteArray) (most:Nat) (hl:l.length≤4611686018427387904):y8 Tryz.prog 147 [zcf l,iv most] [] (fun r h'=>h'= []∧r=bv (zci most l)):=by
 refine z6 Tryz.func147 rfl rfl rfl ?_
 refine rn ?_;refine zcj (l.length) (fun k:Nat=>zbc [] l=zbc (l.take k) (l.drop k)) (fun k=> [(11,iv k)]) [(0,_),(1,_),(9,_),(10,_)] rfl ?_
 intro k lk zk
 refine rn ?_;refine z7 rfl (fun hc12=> ?_) (fun hc12=> ?_)
 ·have hk:=zan hc12
  have rk:=zaf (f:=za2) hk
  refine rn ?_;refine qv rfl rfl (y4 rfl rfl (v6 (yf3 _) (Sbs.refl _))) ?_
  refine rn ?_;refine z7 rfl (fun hc18=> ?_) (fun hc18=> ?_)
  ·refine rn ?_;refine rq 0 ?_
   exact ⟨rfl,congrArg bv (by rw [zci,yn1 hk zk (by simpa using hc18),Bool.and_false])⟩
  ·refine zad ?_;refine j7 ?_;refine x8 (y5 ?_)
   refine q1 ?_;refine q1 ?_;refine qq rfl rfl (zbe (k:=k) rfl rfl (by simp;omega)) ?_
   rw [←List.map_take]
   refine rn ?_;refine zcj ((l.take k).length) (fun j:Nat=>(l.take k).all (fun t=> !(l[k].toList==t.toList))=((l.take k).drop j).all (fun t=> !(l[k].toList==t.toList))) (fun j=> [(23,iv j)]) [(0,_),(1,_),(6,_),(9,_),(10,_),(11,_),(21,_),(22,_)] rfl ?_
   intro j lj zj
   refine rn ?_;refine z7 rfl (fun hc24=> ?_) (fun hc24=> ?_)
   ·have hj:=zan hc24
    have rj:=zaf (f:=za2) hj
    have bj:(l.take k).length≤4611686018427387904:=by simp;omega
    refine rn ?_;refine z7 rfl (fun hc29=> ?_) (fun hc29=> ?_)
    ·refine rn ?_;refine rq 0 ?_
     exact ⟨rfl,congrArg bv (by rw [zci,yn2 hk zk (ztb hj (by simpa using hc29)),Bool.and_false])⟩
    ·refine rn ?_;exact ⟨hj,zve hj zj (by simpa using hc29),eA⟩
   ·have qj:=zap hc24 lj
    have aj:=zzk qj zj
    refine rn ?_;exact ⟨hk,zy3 hk zk (by simpa using hc18) aj,eA⟩
 ·have qk:=zap hc12 lk
  refine rn ?_;refine rq 0 ?_
  exact ⟨rfl,congrArg bv (by rw [zci,yn3 qk zk];simp)⟩
theorem ztw (h:Hist) (e:Ev) (hl:e.scan.length≤4611686018427387904):y8 Tryz.prog 148 [.agg (x3 h),.agg (evR e)] [] (fun r h'=>h'= []∧r=bv (zb8 h e)):=
 (zx4 h e hl).mono fun _ _ q=>⟨q.1,by rw [q.2,zx2]⟩
theorem bvz1_883 {a b:Bool} (h:a=b:=by rw [yaa (by simp_all) (by simp_all) (by simp_all) (by simp_all) ai aj ak am];first|(simp_all;done)|(simp_all;intros;omega)):bv a=bv b:=congrArg bv h
theorem yaq (h:Hist) (la:Lim 4611686018427387904 h):y8 Tryz.prog 106 [.agg (x3 h)] [] (fun r h'=>h'= []∧r=bv (j9 h)):=by
 refine z6 Tryz.func106 rfl rfl rfl ?_
 refine rn ?_;refine z8 rfl (x9 rfl rfl rfl fun b1=> ?_)
 refine rn ?_;refine qv rfl rfl (y4 rfl rfl (v6 (ze1 h.ts 300 la.ts) (Sbs.refl _))) ?_
 refine rn ?_;refine x4 (fun hg1_4=> ?_) (fun hg1_4=> ?_)
 ·refine rn ?_;refine zdi rfl ?_;refine rn ?_;refine rq 1 ?_
  exact ⟨rfl,congrArg bv (by rw [zjc (by simp_all)])⟩
 ·refine rn ?_;refine qv rfl rfl (y4 rfl rfl (v6 (ze1 h.ss 60 la.ss) (Sbs.refl _))) ?_
  refine rn ?_;refine x4 (fun hg1_10=> ?_) (fun hg1_10=> ?_)
  ·refine rn ?_;refine zdi rfl ?_;refine rn ?_;refine rq 1 ?_
   exact ⟨rfl,congrArg bv (by rw [zjc (by simp_all)])⟩
  ·refine rn ?_;refine qv rfl rfl (y4 rfl rfl (v6 (ze1 h.os 300 la.os) (Sbs.refl _))) ?_
   refine rn ?_;refine x4 (fun hg1_16=> ?_) (fun hg1_16=> ?_)
   ·refine rn ?_;refine zdi rfl ?_;refine rn ?_;refine rq 1 ?_
    exact ⟨rfl,congrArg bv (by rw [zjc (by simp_all)])⟩
   ·refine rn ?_;refine qv rfl rfl (y4 rfl rfl (v6 (ze1 h.ps 60 la.ps) (Sbs.refl _))) ?_
    refine rn ?_;refine z7 rfl (fun hc32=> ?_) (fun hc32=> ?_)
    ·refine rn ?_;refine rq 1 ?_
     exact ⟨rfl,congrArg bv (by rw [zjc (by simp_all)])⟩
    ·refine rn ?_;refine zcj (h.evs.length) (fun i:Nat=>h.evs.all (zb8 h)=(h.evs.drop i).all (zb8 h)) (fun i=> [(36,iv i)]) [(1,_),(34,_),(35,_)] rfl ?_
     intro i li zi
     refine rn ?_;refine z7 rfl (fun hc37=> ?_) (fun hc37=> ?_)
     ·have hi:=zan hc37
      have ri:=zaf (f:=evR) hi
      have bi:=la.evs
      have si:=la.scans h.evs[i] (List.getElem_mem hi)
      refine rn ?_;refine z8 rfl (y6 rfl fun b4=> ?_)
      refine rn ?_;refine qv rfl rfl (y4 rfl rfl (v6 (ztw h h.evs[i] si) (Sbs.refl _))) ?_
      refine rn ?_;refine z7 rfl (fun hc43=> ?_) (fun hc43=> ?_)
      ·refine rn ?_;refine rq 2 ?_
       exact ⟨rfl,congrArg bv (by rw [yab (ztb hi (by simpa using hc43))])⟩
      ·refine rn ?_;exact ⟨hi,zve hi zi (by simpa using hc43),eA⟩
     ·have qi:=zap hc37 li
      have ai:=zzk qi zi
      refine rn ?_;refine zcj (h.ords.length) (fun j:Nat=>h.ords.all (zq0 h)=(h.ords.drop j).all (zq0 h)) (fun j=> [(48,iv j)]) [(1,_),(46,_),(47,_)] rfl ?_
      intro j lj zj
      refine rn ?_;refine z7 rfl (fun hc49=> ?_) (fun hc49=> ?_)
      ·have hj:=zan hc49
       have rj:=zaf (f:=zcy) hj
       have bj:=la.ords
       have sj:=la.ordts h.ords[j] (List.getElem_mem hj)
       refine rn ?_;refine z8 rfl (y6 rfl fun b6=> ?_)
       refine rn ?_;refine qv rfl rfl (y4 rfl rfl (v6 (zit _ _) (Sbs.refl _))) ?_
       refine rn ?_;refine x4 (fun hg12_7=> ?_) (fun hg12_7=> ?_)
       ·refine rn ?_;refine zdi rfl ?_;refine rn ?_;refine rq 2 ?_
        exact ⟨rfl,congrArg bv (by rw [zrh (ztb hj (by rw [zua];simp_all))])⟩
       ·refine rn ?_;refine qv rfl rfl (y4 rfl rfl (v6 (yqb h h.ords[j].ts sj) (Sbs.refl _))) ?_
        refine rn ?_;refine z7 rfl (fun hc65=> ?_) (fun hc65=> ?_)
        ·refine rn ?_;refine rq 2 ?_
         exact ⟨rfl,congrArg bv (by rw [zrh (ztb hj (by rw [zua];simp_all))])⟩
        ·refine rn ?_;exact ⟨hj,zve hj zj (by rw [zua];simp_all),eA⟩
      ·have qj:=zap hc49 lj
       have aj:=zzk qj zj
       refine rn ?_;refine zcj (h.mats.length) (fun k:Nat=>h.mats.all (zui h)=(h.mats.drop k).all (zui h)) (fun k=> [(70,iv k)]) [(1,_),(68,_),(69,_)] rfl ?_
       intro k lk zk
       refine rn ?_;refine z7 rfl (fun hc71=> ?_) (fun hc71=> ?_)
       ·have hk:=zan hc71
        have rk:=zaf (f:=zc7) hk
        have bk:=la.mats
        have sk:=la.matts h.mats[k] (List.getElem_mem hk)
        refine rn ?_;refine z8 rfl (y6 rfl fun b8=> ?_)
        refine rn ?_;refine qv rfl rfl (y4 rfl rfl (v6 (zit _ _) (Sbs.refl _))) ?_
        refine rn ?_;refine x4 (fun hg18_7=> ?_) (fun hg18_7=> ?_)
        ·refine rn ?_;refine zdi rfl ?_;refine rn ?_;refine rq 2 ?_
         exact ⟨rfl,congrArg bv (by rw [zmf (ztb hk (by rw [zpy];simp_all))])⟩
        ·refine rn ?_;refine qv rfl rfl (y4 rfl rfl (v6 (zit _ _) (Sbs.refl _))) ?_
         refine rn ?_;refine x4 (fun hg18_16=> ?_) (fun hg18_16=> ?_)
         ·refine rn ?_;refine zdi rfl ?_;refine rn ?_;refine rq 2 ?_
          exact ⟨rfl,congrArg bv (by rw [zmf (ztb hk (by rw [zpy];simp_all))])⟩
         ·refine rn ?_;refine qv rfl rfl (y4 rfl rfl (v6 (yqb h h.mats[k].ts sk) (Sbs.refl _))) ?_
          refine rn ?_;refine z7 rfl (fun hc96=> ?_) (fun hc96=> ?_)
          ·refine rn ?_;refine rq 2 ?_
           exact ⟨rfl,congrArg bv (by rw [zmf (ztb hk (by rw [zpy];simp_all))])⟩
          ·refine rn ?_;exact ⟨hk,zve hk zk (by rw [zpy];simp_all),eA⟩
       ·have qk:=zap hc71 lk
        have ak:=zzk qk zk
        refine rn ?_;refine zcj (h.wants.length) (fun m:Nat=>h.wants.all (zti h)=(h.wants.drop m).all (zti h)) (fun m=> [(101,iv m)]) [(1,_),(99,_),(100,_)] rfl ?_
        intro m lm zm
        refine rn ?_;refine z7 rfl (fun hc102=> ?_) (fun hc102=> ?_)
        ·have hm:=zan hc102
         have rm:=zaf (f:=zco) hm
         have bm:=la.wants
         refine rn ?_;refine z8 rfl (y6 rfl fun b10=> ?_)
         refine rn ?_;refine qv rfl rfl (y4 rfl rfl (v6 (zit _ _) (Sbs.refl _))) ?_
         refine rn ?_;refine x4 (fun hg24_7=> ?_) (fun hg24_7=> ?_)
         ·refine rn ?_;refine zdi rfl ?_;refine rn ?_;refine rq 2 ?_
          exact ⟨rfl,congrArg bv (by rw [zrg (ztb hm (by rw [zth];simp_all))])⟩
         ·refine rn ?_;refine qv rfl rfl (y4 rfl rfl (v6 (zit _ _) (Sbs.refl _))) ?_
          refine rn ?_;refine z7 rfl (fun hc117=> ?_) (fun hc117=> ?_)
          ·refine rn ?_;refine rq 2 ?_
           exact ⟨rfl,congrArg bv (by rw [zrg (ztb hm (by rw [zth];simp_all))])⟩
          ·refine rn ?_;exact ⟨hm,zve hm zm (by rw [zth];simp_all),eA⟩
        ·have qm:=zap hc102 lm
         have am:=zzk qm zm
         refine rn ?_;refine x4 (fun hg27_4=> ?_) (fun hg27_4=> ?_)
         ·refine rn ?_;refine x4 (fun hg27_10=> ?_) (fun hg27_10=> ?_)
          ·refine rn ?_;refine x4 (fun hg27_16=> ?_) (fun hg27_16=> ?_)
           ·refine rn ?_;refine rq 1 ?_
            exact ⟨rfl,bvz1_883⟩
           ·refine rn ?_;refine rq 1 ?_
            exact ⟨rfl,bvz1_883⟩
          ·refine rn ?_;refine rq 1 ?_
           exact ⟨rfl,bvz1_883⟩
         ·refine rn ?_;refine rq 1 ?_
          exact ⟨rfl,bvz1_883⟩
theorem zbd (s:SV) (l:List Int) (n:Int) (hl:l.length≤1000000000):y8 Tryz.prog 150 [.v s.v,iv n] [.row s.v 1 3 (l.map j8)] (fun r h'=>∃s':SV,h'= [.row s'.v 1 3 ((yep l n).map j8)]∧r= .v s'.v):=by
 refine z6 Tryz.func150 rfl rfl rfl ?_
 refine rn ?_;refine qv rfl rfl (y4 rfl rfl (y3.lend (R:=fun x=>x=iv (atI n 0 l)) (y3.of_fun (yl3 (f:=false) l n (by omega))) (fun r hr=>by rw [hr];rfl) (.refl _ _) ⟨yoj,.refl _ _,trivial⟩)) ?_
 refine rn ?_;refine z7 rfl (fun hc8=> ?_) (fun hc8=> ?_)
 ·refine rn ?_;refine rq 0 ?_
  exact ⟨s,by rw [yep,if_pos (by simpa using hc8)];rfl,rfl⟩
 ·refine rn ?_;refine qv rfl rfl (q8 rfl rfl) ?_
  refine z8 rfl (u6 rfl rfl (by simp;omega) rfl (fun s13=> ?_) (fun r hr=>by simp at hr;subst hr;rfl))
  refine zaa s13 fun sv hsv=> ?_
  subst hsv
  refine rn ?_;refine rq 0 ?_
  exact ⟨sv,by rw [yep,if_neg (by simpa using hc8),List.map_append];rfl,rfl⟩
theorem zmo (s:SV) (l:List Int) (v:Ver) (hl:l.length≤1000000000):y8 Tryz.prog 151 [.v s.v,.agg (yez v)] [.row s.v 1 3 (l.map j8)] (fun r h'=>∃s':SV,h'= [.row s'.v 1 3 ((yoy l v).map j8)]∧r= .v s'.v):=by
 refine z6 Tryz.func151 rfl rfl rfl ?_
 refine rn ?_;refine z8 rfl (x9 rfl rfl rfl fun b3=> ?_)
 refine rn ?_;refine z7 rfl (fun hc7=> ?_) (fun hc7=> ?_)
 ·refine rn ?_;refine rq 1 ?_
  exact ⟨s,by rw [yoy,if_pos (by simpa using hc7)];rfl,rfl⟩
 ·refine rn ?_;refine z8 rfl (q7 rfl rfl (zat (y3.of_fun (zbd s l v.t hl))) rfl ?_)
  rintro _ _ ⟨s',rfl,rfl⟩
  refine rn ?_;refine rq 1 ?_
  exact ⟨s',by rw [yoy,if_neg (by simpa using hc7)];rfl,rfl⟩
theorem yap (h:Hist) (la:Lim 3000 h):y8 Tryz.prog 107 [.agg (x3 h)] [] (fun r h'=>h'= []∧r= .agg [zbz (zcd h 0),zbz (zcd h 1),zbz (zcd h 2),zbz (zcd h 3)]):=by
 refine z6 Tryz.func107 rfl rfl rfl ?_
 refine rn ?_;refine z8 rfl (x9 rfl rfl rfl fun b1=> ?_)
 refine z8 rfl (y6 rfl fun b2=> ?_)
 refine rn ?_;refine z8 rfl (y6 rfl fun b3=> ?_)
 refine rn ?_;refine zi1 h.evs.length (fun k s0 s1 s2 s3=>⟨[(21,iv k),(1,pZ b1),(2,pZ b2),(3,pZ b3),(19,zlg h.evs),(20,iv (h.evs.map evR).length)],[.row s0.v 1 3 (((spE h k) 0).map j8),.row s1.v 1 3 (((spE h k) 1).map j8),.row s2.v 1 3 (((spE h k) 2).map j8),.row s3.v 1 3 (((spE h k) 3).map j8),.box b3 171 [.v s0.v,.v s1.v,.v s2.v,.v s3.v],.box b2 171 [.v (.slice none 0 0),.v (.slice none 0 0),.v (.slice none 0 0),.v (.slice none 0 0)],.box b1 28 (x3 h)],[]⟩) (⟨none,0,0⟩) (⟨none,0,0⟩) (⟨none,0,0⟩) (⟨none,0,0⟩) (w9 (k6 1 3) (w9 (k6 1 3) (w9 (k6 1 3) (w9 (k6 1 3) es)))) ?_
 intro k s0 s1 s2 s3 lk
 refine rn ?_;refine z7 rfl (fun hc22=> ?_) (fun hc22=> ?_)
 ·have hk:=zan hc22
  have rk:=zaf (f:=evR) hk
  have bd:=bdE la k lk
  have ls:=la.scans h.evs[k] (List.getElem_mem hk)
  have le:=la.evs
  refine rn ?_;refine z8 rfl (y6 rfl fun b5=> ?_)
  refine rn ?_;refine qq rfl rfl (y9 rfl rfl (by decide) (by decide)) ?_
  refine rn ?_;refine z8 rfl (q7 rfl rfl (zat (y3.of_fun (zbd _ _ _ (by have:=bd 0;omega)))) rfl ?_)
  rintro _ _ ⟨s',rfl,rfl⟩
  refine qq rfl rfl (y9 rfl rfl (by decide) (by decide)) ?_
  refine rn0 ?_;refine yoo (fun s0 s1 s2 s3=>⟨[(5,pZ b5),(21,iv k),(20,iv (h.evs.map evR).length),(19,zlg h.evs),(1,pZ b1),(2,pZ b2),(3,pZ b3)],[.box b5 66 (evR h.evs[k]),.row s0.v 1 3 (((zfq (zal (spE h k) (0,h.evs[k].t)) h.evs[k]) 0).map j8),.row s1.v 1 3 (((zfq (zal (spE h k) (0,h.evs[k].t)) h.evs[k]) 1).map j8),.row s2.v 1 3 (((zfq (zal (spE h k) (0,h.evs[k].t)) h.evs[k]) 2).map j8),.row s3.v 1 3 (((zfq (zal (spE h k) (0,h.evs[k].t)) h.evs[k]) 3).map j8),.box b3 171 [.v s0.v,.v s1.v,.v s2.v,.v s3.v],.box b2 171 [.v (.slice none 0 0),.v (.slice none 0 0),.v (.slice none 0 0),.v (.slice none 0 0)],.box b1 28 (x3 h)],[]⟩) ?_ ?_
  ·refine rn ?_;refine z7 rfl (fun hc33=> ?_) (fun hc33=> ?_)
   ·refine rn ?_;refine qq rfl rfl (y9 rfl rfl (by decide) (by decide)) ?_
    refine rn ?_;refine z8 rfl (q7 rfl rfl (zat (y3.of_fun (zbd _ _ _ (by have:=bd 1;omega)))) rfl ?_)
    rintro _ _ ⟨s',rfl,rfl⟩
    refine qq rfl rfl (y9 rfl rfl (by decide) (by decide)) ?_
    refine rn ?_;exact ⟨_,_,_,_,by unfold zfq;first|(rw [if_pos (by simpa using hc33)];exact eA)|(rw [if_neg (by simpa using hc33),if_pos (by simp at hc33;simp_all)];exact eA)|(rw [if_neg (by simpa using hc33),if_neg (by simp at hc33;simp_all),if_pos (by simpa using hc56)];exact eA)|(rw [if_neg (by simpa using hc33),if_neg (by simp at hc33;simp_all),if_neg (by simpa using hc56)];exact eA)⟩
   ·refine rn ?_;refine z7 rfl (fun hc41=> ?_) (fun hc41=> ?_)
    ·refine rn ?_;refine z7 rfl (fun hc41=> ?_) (fun hc41=> ?_)
     ·refine rn ?_;refine qq rfl rfl (y9 rfl rfl (by decide) (by decide)) ?_
      refine rn ?_;refine z8 rfl (q7 rfl rfl (zat (y3.of_fun (zbd _ _ _ (by have:=bd 2;omega)))) rfl ?_)
      rintro _ _ ⟨s',rfl,rfl⟩
      refine qq rfl rfl (y9 rfl rfl (by decide) (by decide)) ?_
      refine rn ?_;refine qq rfl rfl (y9 rfl rfl (by decide) (by decide)) ?_
      refine rn ?_;refine z8 rfl (q7 rfl rfl (zat (y3.of_fun (zmo _ _ _ (by have:=(bd.f (0,h.evs[k].t)) 0;exact Nat.le_trans this (by omega))))) rfl ?_)
      rintro _ _ ⟨s',rfl,rfl⟩
      refine qq rfl rfl (y9 rfl rfl (by decide) (by decide)) ?_
      refine rn ?_;exact ⟨_,_,_,_,by unfold zfq;first|(rw [if_pos (by simpa using hc33)];exact eA)|(rw [if_neg (by simpa using hc33),if_pos (by simp at hc33;simp_all)];exact eA)|(rw [if_neg (by simpa using hc33),if_neg (by simp at hc33;simp_all),if_pos (by simpa using hc56)];exact eA)|(rw [if_neg (by simpa using hc33),if_neg (by simp at hc33;simp_all),if_neg (by simpa using hc56)];exact eA)⟩
     ·first|cases hc41|exact absurd hc41 (by decide)|(exfalso;simp_all;done)
    ·refine rn ?_;refine z7 rfl (fun hc41=> ?_) (fun hc41=> ?_)
     ·refine rn ?_;refine qq rfl rfl (y9 rfl rfl (by decide) (by decide)) ?_
      refine rn ?_;refine z8 rfl (q7 rfl rfl (zat (y3.of_fun (zbd _ _ _ (by have:=bd 2;omega)))) rfl ?_)
      rintro _ _ ⟨s',rfl,rfl⟩
      refine qq rfl rfl (y9 rfl rfl (by decide) (by decide)) ?_
      refine rn ?_;refine qq rfl rfl (y9 rfl rfl (by decide) (by decide)) ?_
      refine rn ?_;refine z8 rfl (q7 rfl rfl (zat (y3.of_fun (zmo _ _ _ (by have:=(bd.f (0,h.evs[k].t)) 0;exact Nat.le_trans this (by omega))))) rfl ?_)
      rintro _ _ ⟨s',rfl,rfl⟩
      refine qq rfl rfl (y9 rfl rfl (by decide) (by decide)) ?_
      refine rn ?_;exact ⟨_,_,_,_,by unfold zfq;first|(rw [if_pos (by simpa using hc33)];exact eA)|(rw [if_neg (by simpa using hc33),if_pos (by simp at hc33;simp_all)];exact eA)|(rw [if_neg (by simpa using hc33),if_neg (by simp at hc33;simp_all),if_pos (by simpa using hc56)];exact eA)|(rw [if_neg (by simpa using hc33),if_neg (by simp at hc33;simp_all),if_neg (by simpa using hc56)];exact eA)⟩
     ·refine rn ?_;refine z7 rfl (fun hc56=> ?_) (fun hc56=> ?_)
      ·refine rn ?_;refine qq rfl rfl (y9 rfl rfl (by decide) (by decide)) ?_
       refine rn ?_;refine z8 rfl (q7 rfl rfl (zat (y3.of_fun (zbd _ _ _ (by have:=bd 3;omega)))) rfl ?_)
       rintro _ _ ⟨s',rfl,rfl⟩
       refine qq rfl rfl (y9 rfl rfl (by decide) (by decide)) ?_
       refine rn ?_;exact ⟨_,_,_,_,by unfold zfq;first|(rw [if_pos (by simpa using hc33)];exact eA)|(rw [if_neg (by simpa using hc33),if_pos (by simp at hc33;simp_all)];exact eA)|(rw [if_neg (by simpa using hc33),if_neg (by simp at hc33;simp_all),if_pos (by simpa using hc56)];exact eA)|(rw [if_neg (by simpa using hc33),if_neg (by simp at hc33;simp_all),if_neg (by simpa using hc56)];exact eA)⟩
      ·refine rn ?_;exact ⟨_,_,_,_,by unfold zfq;first|(rw [if_pos (by simpa using hc33)];exact eA)|(rw [if_neg (by simpa using hc33),if_pos (by simp at hc33;simp_all)];exact eA)|(rw [if_neg (by simpa using hc33),if_neg (by simp at hc33;simp_all),if_pos (by simpa using hc56)];exact eA)|(rw [if_neg (by simpa using hc33),if_neg (by simp at hc33;simp_all),if_neg (by simpa using hc56)];exact eA)⟩
  ·intro s0 s1 s2 s3
   refine rn ?_;refine zi1 h.evs[k].scan.length (fun j s0 s1 s2 s3=>⟨[(67,iv j),(1,pZ b1),(2,pZ b2),(3,pZ b3),(19,zlg h.evs),(20,iv (h.evs.map evR).length),(21,iv k),(65,zkw h.evs[k].scan),(66,iv (h.evs[k].scan.map zar).length)],[.box b5 66 (evR h.evs[k]),.row s0.v 1 3 ((((h.evs[k].scan.take j).foldl stepS (zfq (zal (spE h k) (0,h.evs[k].t)) h.evs[k])) 0).map j8),.row s1.v 1 3 ((((h.evs[k].scan.take j).foldl stepS (zfq (zal (spE h k) (0,h.evs[k].t)) h.evs[k])) 1).map j8),.row s2.v 1 3 ((((h.evs[k].scan.take j).foldl stepS (zfq (zal (spE h k) (0,h.evs[k].t)) h.evs[k])) 2).map j8),.row s3.v 1 3 ((((h.evs[k].scan.take j).foldl stepS (zfq (zal (spE h k) (0,h.evs[k].t)) h.evs[k])) 3).map j8),.box b3 171 [.v s0.v,.v s1.v,.v s2.v,.v s3.v],.box b2 171 [.v (.slice none 0 0),.v (.slice none 0 0),.v (.slice none 0 0),.v (.slice none 0 0)],.box b1 28 (x3 h)],[]⟩) _ _ _ _ (es) ?_
   intro j s0 s1 s2 s3 lj
   refine rn ?_;refine z7 rfl (fun hc68=> ?_) (fun hc68=> ?_)
   ·have hj:=zan hc68
    have rj:=zaf (f:=zar) hj
    have bj:=Bd.fold (c:=2) (l:=h.evs[k].scan.take j) (fun s _ L n h=>h.s s) ((bd.f (0,h.evs[k].t)).k h.evs[k])
    have bl:(h.evs[k].scan.take j).length≤3000:=by rw [List.length_take];omega
    refine rn ?_;refine z8 rfl (y6 rfl fun b7=> ?_)
    refine rn ?_;refine qq rfl rfl (y9 rfl rfl (by decide) (by decide)) ?_
    refine rn ?_;refine z8 rfl (q7 rfl rfl (zat (y3.of_fun (zbd _ _ _ (by have:=bj 2;omega)))) rfl ?_)
    rintro _ _ ⟨s',rfl,rfl⟩
    refine qq rfl rfl (y9 rfl rfl (by decide) (by decide)) ?_
    refine rn ?_;refine qq rfl rfl (y9 rfl rfl (by decide) (by decide)) ?_
    refine rn ?_;refine z8 rfl (q7 rfl rfl (zat (y3.of_fun (zmo _ _ _ (by have:=bj 0;omega)))) rfl ?_)
    rintro _ _ ⟨s',rfl,rfl⟩
    refine qq rfl rfl (y9 rfl rfl (by decide) (by decide)) ?_
    refine rn ?_;have e:(h.evs[k].scan.take (j+1)).foldl stepS (zfq (zal (spE h k) (0,h.evs[k].t)) h.evs[k])=stepS ((h.evs[k].scan.take j).foldl stepS (zfq (zal (spE h k) (0,h.evs[k].t)) h.evs[k])) h.evs[k].scan[j]:=zgx _ _ hj
    exact ⟨hj,_,_,_,_,by simp only [e];exact eA⟩
   ·have qj:=zap hc68 lj
    refine rn ?_;have e:spE h (k+1)=(h.evs[k].scan.take j).foldl stepS (zfq (zal (spE h k) (0,h.evs[k].t)) h.evs[k]):=by rw [spE,zgx _ _ hk,H.stepE,ziz _ _ qj];rfl
    exact ⟨hk,_,_,_,_,by simp only [e];exact eA⟩
 ·have qk:=zap hc22 lk
  refine rn ?_;refine zi1 h.ords.length (fun k s0 s1 s2 s3=>⟨[(88,iv k),(1,pZ b1),(2,pZ b2),(3,pZ b3),(86,zpl h.ords),(87,iv (h.ords.map zcy).length)],[.row s0.v 1 3 (((spO h k) 0).map j8),.row s1.v 1 3 (((spO h k) 1).map j8),.row s2.v 1 3 (((spO h k) 2).map j8),.row s3.v 1 3 (((spO h k) 3).map j8),.box b3 171 [.v s0.v,.v s1.v,.v s2.v,.v s3.v],.box b2 171 [.v (.slice none 0 0),.v (.slice none 0 0),.v (.slice none 0 0),.v (.slice none 0 0)],.box b1 28 (x3 h)],[]⟩) _ _ _ _ (by rw [show spO h 0=spE h k from (ziz stepE noR qk).symm];exact es) ?_
  intro k s0 s1 s2 s3 lk
  refine rn ?_;refine z7 rfl (fun hc89=> ?_) (fun hc89=> ?_)
  ·have hk:=zan hc89
   have rk:=zaf (f:=zcy) hk
   have bd:=bdO la k lk
   have ls:=la.ordts h.ords[k] (List.getElem_mem hk)
   have le:=la.ords
   refine rn ?_;refine z8 rfl (y6 rfl fun b9=> ?_)
   refine rn ?_;refine qq rfl rfl (y9 rfl rfl (by decide) (by decide)) ?_
   refine rn ?_;refine z8 rfl (q7 rfl rfl (zat (y3.of_fun (zbd _ _ _ (by have:=bd 2;omega)))) rfl ?_)
   rintro _ _ ⟨s',rfl,rfl⟩
   refine qq rfl rfl (y9 rfl rfl (by decide) (by decide)) ?_
   refine rn ?_;refine zi1 h.ords[k].ts.length (fun j s0 s1 s2 s3=>⟨[(101,iv j),(1,pZ b1),(2,pZ b2),(3,pZ b3),(86,zpl h.ords),(87,iv (h.ords.map zcy).length),(88,iv k),(99,zbz h.ords[k].ts),(100,iv (h.ords[k].ts.map j8).length)],[.box b9 99 (zcy h.ords[k]),.row s0.v 1 3 ((((h.ords[k].ts.take j).foldl zo3 (zal (spO h k) (2,h.ords[k].o))) 0).map j8),.row s1.v 1 3 ((((h.ords[k].ts.take j).foldl zo3 (zal (spO h k) (2,h.ords[k].o))) 1).map j8),.row s2.v 1 3 ((((h.ords[k].ts.take j).foldl zo3 (zal (spO h k) (2,h.ords[k].o))) 2).map j8),.row s3.v 1 3 ((((h.ords[k].ts.take j).foldl zo3 (zal (spO h k) (2,h.ords[k].o))) 3).map j8),.box b3 171 [.v s0.v,.v s1.v,.v s2.v,.v s3.v],.box b2 171 [.v (.slice none 0 0),.v (.slice none 0 0),.v (.slice none 0 0),.v (.slice none 0 0)],.box b1 28 (x3 h)],[]⟩) _ _ _ _ (es) ?_
   intro j s0 s1 s2 s3 lj
   refine rn ?_;refine z7 rfl (fun hc102=> ?_) (fun hc102=> ?_)
   ·have hj:=zan hc102
    have rj:=zaf (f:=j8) hj
    have bj:=Bd.fold (c:=1) (l:=h.ords[k].ts.take j) (fun s _ L n h=>h.t s) (bd.f (2,h.ords[k].o))
    have bl:(h.ords[k].ts.take j).length≤3000:=by rw [List.length_take];omega
    refine rn ?_;refine qq rfl rfl (y9 rfl rfl (by decide) (by decide)) ?_
    refine rn ?_;refine z8 rfl (q7 rfl rfl (zat (y3.of_fun (zbd _ _ _ (by have:=bj 0;omega)))) rfl ?_)
    rintro _ _ ⟨s',rfl,rfl⟩
    refine qq rfl rfl (y9 rfl rfl (by decide) (by decide)) ?_
    refine rn ?_;have e:(h.ords[k].ts.take (j+1)).foldl zo3 (zal (spO h k) (2,h.ords[k].o))=zo3 ((h.ords[k].ts.take j).foldl zo3 (zal (spO h k) (2,h.ords[k].o))) h.ords[k].ts[j]:=zgx _ _ hj
    exact ⟨hj,_,_,_,_,by simp only [e];exact eA⟩
   ·have qj:=zap hc102 lj
    refine rn ?_;have e:spO h (k+1)=(h.ords[k].ts.take j).foldl zo3 (zal (spO h k) (2,h.ords[k].o)):=by rw [spO,zgx _ _ hk,zra,ziz _ _ qj];rfl
    exact ⟨hk,_,_,_,_,by simp only [e];exact eA⟩
  ·have qk:=zap hc89 lk
   refine rn ?_;refine zi1 h.mats.length (fun k s0 s1 s2 s3=>⟨[(115,iv k),(1,pZ b1),(2,pZ b2),(3,pZ b3),(113,zpx h.mats),(114,iv (h.mats.map zc7).length)],[.row s0.v 1 3 (((spM h k) 0).map j8),.row s1.v 1 3 (((spM h k) 1).map j8),.row s2.v 1 3 (((spM h k) 2).map j8),.row s3.v 1 3 (((spM h k) 3).map j8),.box b3 171 [.v s0.v,.v s1.v,.v s2.v,.v s3.v],.box b2 171 [.v (.slice none 0 0),.v (.slice none 0 0),.v (.slice none 0 0),.v (.slice none 0 0)],.box b1 28 (x3 h)],[]⟩) _ _ _ _ (by rw [show spM h 0=spO h k from (ziz zra _ qk).symm];exact es) ?_
   intro k s0 s1 s2 s3 lk
   refine rn ?_;refine z7 rfl (fun hc116=> ?_) (fun hc116=> ?_)
   ·have hk:=zan hc116
    have rk:=zaf (f:=zc7) hk
    have bd:=bdM la k lk
    have ls:=la.matts h.mats[k] (List.getElem_mem hk)
    have le:=la.mats
    refine rn ?_;refine z8 rfl (y6 rfl fun b13=> ?_)
    refine rn ?_;refine qq rfl rfl (y9 rfl rfl (by decide) (by decide)) ?_
    refine rn ?_;refine z8 rfl (q7 rfl rfl (zat (y3.of_fun (zbd _ _ _ (by have:=bd 3;omega)))) rfl ?_)
    rintro _ _ ⟨s',rfl,rfl⟩
    refine qq rfl rfl (y9 rfl rfl (by decide) (by decide)) ?_
    refine rn ?_;refine qq rfl rfl (y9 rfl rfl (by decide) (by decide)) ?_
    refine rn ?_;refine z8 rfl (q7 rfl rfl (zat (y3.of_fun (zbd _ _ _ (by have:=bd 2;omega)))) rfl ?_)
    rintro _ _ ⟨s',rfl,rfl⟩
    refine qq rfl rfl (y9 rfl rfl (by decide) (by decide)) ?_
    refine rn ?_;refine zi1 h.mats[k].ts.length (fun j s0 s1 s2 s3=>⟨[(134,iv j),(1,pZ b1),(2,pZ b2),(3,pZ b3),(113,zpx h.mats),(114,iv (h.mats.map zc7).length),(115,iv k),(132,zbz h.mats[k].ts),(133,iv (h.mats[k].ts.map j8).length)],[.box b13 112 (zc7 h.mats[k]),.row s0.v 1 3 ((((h.mats[k].ts.take j).foldl zo3 (zal (zal (spM h k) (3,h.mats[k].p)) (2,h.mats[k].o))) 0).map j8),.row s1.v 1 3 ((((h.mats[k].ts.take j).foldl zo3 (zal (zal (spM h k) (3,h.mats[k].p)) (2,h.mats[k].o))) 1).map j8),.row s2.v 1 3 ((((h.mats[k].ts.take j).foldl zo3 (zal (zal (spM h k) (3,h.mats[k].p)) (2,h.mats[k].o))) 2).map j8),.row s3.v 1 3 ((((h.mats[k].ts.take j).foldl zo3 (zal (zal (spM h k) (3,h.mats[k].p)) (2,h.mats[k].o))) 3).map j8),.box b3 171 [.v s0.v,.v s1.v,.v s2.v,.v s3.v],.box b2 171 [.v (.slice none 0 0),.v (.slice none 0 0),.v (.slice none 0 0),.v (.slice none 0 0)],.box b1 28 (x3 h)],[]⟩) _ _ _ _ (es) ?_
    intro j s0 s1 s2 s3 lj
    refine rn ?_;refine z7 rfl (fun hc135=> ?_) (fun hc135=> ?_)
    ·have hj:=zan hc135
     have rj:=zaf (f:=j8) hj
     have bj:=Bd.fold (c:=1) (l:=h.mats[k].ts.take j) (fun s _ L n h=>h.t s) ((bd.f (3,h.mats[k].p)).f (2,h.mats[k].o))
     have bl:(h.mats[k].ts.take j).length≤3000:=by rw [List.length_take];omega
     refine rn ?_;refine qq rfl rfl (y9 rfl rfl (by decide) (by decide)) ?_
     refine rn ?_;refine z8 rfl (q7 rfl rfl (zat (y3.of_fun (zbd _ _ _ (by have:=bj 0;omega)))) rfl ?_)
     rintro _ _ ⟨s',rfl,rfl⟩
     refine qq rfl rfl (y9 rfl rfl (by decide) (by decide)) ?_
     refine rn ?_;have e:(h.mats[k].ts.take (j+1)).foldl zo3 (zal (zal (spM h k) (3,h.mats[k].p)) (2,h.mats[k].o))=zo3 ((h.mats[k].ts.take j).foldl zo3 (zal (zal (spM h k) (3,h.mats[k].p)) (2,h.mats[k].o))) h.mats[k].ts[j]:=zgx _ _ hj
     exact ⟨hj,_,_,_,_,by simp only [e];exact eA⟩
    ·have qj:=zap hc135 lj
     refine rn ?_;have e:spM h (k+1)=(h.mats[k].ts.take j).foldl zo3 (zal (zal (spM h k) (3,h.mats[k].p)) (2,h.mats[k].o)):=by rw [spM,zgx _ _ hk,stepM,ziz _ _ qj];rfl
     exact ⟨hk,_,_,_,_,by simp only [e];exact eA⟩
   ·have qk:=zap hc116 lk
    refine rn ?_;refine zi1 h.wants.length (fun k s0 s1 s2 s3=>⟨[(148,iv k),(2,pZ b2),(3,pZ b3),(146,zg9 h.wants),(147,iv (h.wants.map zco).length)],[.row s0.v 1 3 (((spW h k) 0).map j8),.row s1.v 1 3 (((spW h k) 1).map j8),.row s2.v 1 3 (((spW h k) 2).map j8),.row s3.v 1 3 (((spW h k) 3).map j8),.box b3 171 [.v s0.v,.v s1.v,.v s2.v,.v s3.v],.box b2 171 [.v (.slice none 0 0),.v (.slice none 0 0),.v (.slice none 0 0),.v (.slice none 0 0)],.box b1 28 (x3 h)],[]⟩) _ _ _ _ (by rw [show spW h 0=spM h k from (ziz stepM _ qk).symm];exact es) ?_
    intro k s0 s1 s2 s3 lk
    refine rn ?_;refine z7 rfl (fun hc149=> ?_) (fun hc149=> ?_)
    ·have hk:=zan hc149
     have rk:=zaf (f:=zco) hk
     have bd:=bdW la k lk
     have le:=la.wants
     refine rn ?_;refine z8 rfl (y6 rfl fun b17=> ?_)
     refine rn ?_;refine qq rfl rfl (y9 rfl rfl (by decide) (by decide)) ?_
     refine rn ?_;refine z8 rfl (q7 rfl rfl (zat (y3.of_fun (zbd _ _ _ (by have:=bd 1;omega)))) rfl ?_)
     rintro _ _ ⟨s',rfl,rfl⟩
     refine qq rfl rfl (y9 rfl rfl (by decide) (by decide)) ?_
     refine rn ?_;have e:spW h (k+1)=ye6 (spW h k) h.wants[k]:=zgx _ _ hk
     exact ⟨hk,_,_,_,_,by simp only [e];exact eA⟩
    ·have qk:=zap hc149 lk
     refine rn ?_;exact ze0 (.cons _ _ _ _ (.agg _ _ _ _ _ _ _ rfl inferInstance inferInstance inferInstance rfl) .nil) (.trans (zav [] _) (.trans (zav [_] _) (.trans (zav [_,_] _) (.trans (zav [_,_,_] _) (.drop [_,_,_] _ _))))) ⟨rfl,by rw [←show spW h k=zcd h from ziz _ _ qk];rfl⟩
theorem yfv (h:Hist) (la:Lim 4611686018427387904 h):y8 Tryz.prog 56 [.agg (x3 h)] [] (fun r h'=>h'= []∧r=bv (zji h)):=by
 refine z6 Tryz.func56 rfl rfl rfl ?_
 refine rn ?_;refine z8 rfl (x9 rfl rfl rfl fun b1=> ?_)
 refine rn ?_;refine qv rfl rfl (y4 rfl rfl (v6 (yaq h la) (Sbs.refl _))) ?_
 refine rn ?_;refine z7 rfl (fun hc10=> ?_) (fun hc10=> ?_)
 ·refine rn ?_;refine rq 1 ?_
  exact ⟨rfl,congrArg bv (by rw [ylw (by simpa using hc10)])⟩
 ·have hs:j9 h=true:=by simpa using hc10
  have la3:=zoa hs
  refine rn ?_;refine qv rfl rfl (y4 rfl rfl (v6 (yap h la3) (Sbs.refl _))) ?_
  refine rn ?_;refine zcj (4) (fun k:Nat=>∀j,j < k→okS h j=true) (fun k=> [(13,iv k)]) [(1,_),(12,_)] (fun j hj=>by omega) ?_
  intro k lk zk
  refine rn ?_;refine z7 rfl (fun hc14=> ?_) (fun hc14=> ?_)
  ·have hk:k < 4:=by simp at hc14;omega
   have r0:=yuf h hk
   have r1:=ymy h hk
   have bl:=zxw la3 k
   refine rn ?_;refine z7 rfl (fun hc35=> ?_) (fun hc35=> ?_)
   ·refine rn ?_;refine rq 1 ?_
    exact ⟨rfl,congrArg bv (by rw [yan hk];rw [okS,beq_eq_false_iff_ne.2 (by simp at hc35;omega),Bool.false_and])⟩
   ·have hlen:(zcd h k).length=(nmK h k).length:=by simp at hc35;omega
    refine rn ?_;refine zcj ((zcd h k).length) (fun i:Nat=>zfi 0 (zcd h k)=zfi i ((zcd h k).drop i)) (fun i=> [(38,iv i)]) [(1,_),(12,_),(13,_),(36,_),(37,_)] rfl ?_
    intro i li zi
    refine rn ?_;refine z7 rfl (fun hc39=> ?_) (fun hc39=> ?_)
    ·have hi:=zan hc39
     have ri:=zaf (f:=j8) hi
     refine rn ?_;refine z7 rfl (fun hc45=> ?_) (fun hc45=> ?_)
     ·refine rn ?_;refine rq 1 ?_
      exact ⟨rfl,congrArg bv (by rw [yan hk];rw [okS,yph hi zi (by simp at hc45;omega),Bool.and_false])⟩
     ·refine rn ?_;exact ⟨hi,zzw hi zi (by simp at hc45;omega),eA⟩
    ·have qi:=zap hc39 li
     refine rn ?_;exact ⟨hk,fun j hj=>(Nat.lt_or_ge j k).elim (zk j) (fun q=>by
      obtain rfl:j=k:=by omega
      rw [okS,hlen,ypi qi zi];simp),eA⟩
  ·have qk:k=4:=by simp at hc14;omega
   subst qk
   refine rn ?_;refine rq 1 ?_
   exact ⟨rfl,congrArg bv (by rw [ylv hs zk])⟩
theorem zrn (h:Hist) (la:Lim 4611686018427387904 h):y8 Tryz.prog 56 [.agg (x3 h)] [] (fun r h'=>h'= []∧r=bv (zfj h)):=
 (yfv h la).mono fun _ _ q=>⟨q.1,by rw [q.2,yao]⟩
attribute [local irreducible] zed jch zfd
theorem yrd {l:List Ev} {t x:Int} {j:Nat} (h:j < l.length) (hw:zbn t x l[j]=true):zhn l t x (j+1)=some (l[j].v,j):=by
 rw [zhn,List.getElem?_eq_getElem h];simp only [hw,if_true]
theorem zul {l:List Ev} {t x:Int} {j:Nat} (h:j < l.length) (hw:zbn t x l[j]=false):zhn l t x (j+1)=zhn l t x j:=by
 rw [zhn,List.getElem?_eq_getElem h];simp [hw]
theorem yfq {l:List Ev} {j:Nat} (h:j < l.length):(l.map evR)[(((j+1:Nat):Int) - 1).toNat]? =some (evR l[j]):=by
 rw [show (((j+1:Nat):Int) - 1).toNat=j by omega,List.getElem?_map,List.getElem?_eq_getElem h];rfl
theorem zxn {α:Type} {l:List α} {q:α→Bool} {k:Nat} (hk:k < l.length):(l.take (k+1)).all q=((l.take k).all q && q l[k]):=by
 rw [List.take_succ_eq_append_getElem hk,List.all_append,List.all_cons,List.all_nil,Bool.and_true]
theorem yfu (h:Hist) (la:Lim 4611686018427387904 h):y8 Tryz.prog 57 [.agg (x3 h)] [] (fun r h'=>h'= []∧r=bv (zb3 h)):=by
 refine z6 Tryz.func57 rfl rfl rfl ?_
 refine rn ?_;refine z8 rfl (x9 rfl rfl rfl fun b1=> ?_)
 refine rn ?_;refine qv rfl rfl (y4 rfl rfl (v6 (zrn h la) (Sbs.refl _))) ?_
 refine rn ?_;refine z7 rfl (fun hc7=> ?_) (fun hc7=> ?_)
 ·have hm:zfj h=false:=by simpa using hc7
  refine rn ?_;refine rq 1 ?_
  exact ⟨rfl,congrArg bv (by rw [zb3,hm];rfl)⟩
 ·have hm:zfj h=true:=by simpa using hc7
  refine rn ?_;refine qv rfl rfl (y4 rfl rfl (v6 (zx9 h ((zpw hm).mono (by decide))) (Sbs.refl _))) ?_
  obtain ⟨bi,bj,be⟩:=ydm (zaw (zew h) rules10)
  rw [be]
  refine rn ?_;refine z8 rfl (y6 rfl fun b3=> ?_)
  refine rn ?_;refine rq 2 ?_
  exact ⟨rfl,congrArg bv (by rw [zb3,hm,show zk6 h=zaw (zew h) rules10 from yhs hm];cases zaw (zew h) rules10 <;> rfl)⟩
theorem zyd (h:Hist) (la:Lim 4611686018427387904 h):y8 Tryz.prog 14 [.agg (x3 h)] [] (fun r h'=>h'= []∧r=iv (v8 h)):=by
 refine z6 Tryz.func14 rfl rfl rfl ?_
 refine rn ?_;refine z8 rfl (x9 rfl rfl rfl fun b1=> ?_)
 refine rn ?_;refine qv rfl rfl (y4 rfl rfl (v6 (zrn h la) (Sbs.refl _))) ?_
 refine rn ?_;refine z7 rfl (fun hc5=> ?_) (fun hc5=> ?_)
 ·have hm:zfj h=false:=by simpa using hc5
  refine rn ?_;refine rq 1 ?_
  exact ⟨rfl,by rw [v8,hm];rfl⟩
 ·have hm:zfj h=true:=by simpa using hc5
  refine rn ?_;refine qv rfl rfl (y4 rfl rfl (v6 (yfu h la) (Sbs.refl _))) ?_
  refine rn ?_;refine z7 rfl (fun hc8=> ?_) (fun hc8=> ?_)
  ·refine rn ?_;refine rq 1 ?_
   exact ⟨rfl,by rw [v8,hm,if_pos rfl,if_neg (by simpa using hc8)];rfl⟩
  ·refine rn ?_;refine rq 1 ?_
   exact ⟨rfl,by rw [v8,hm,if_pos rfl,if_pos (by simpa using hc8)];rfl⟩
theorem zya (h:Hist) (la:h.evs.length≤1000000) (t x:Int):y8 Tryz.prog 196 [.agg (x3 h),iv t,iv x] [] (fun r h'=>h'= []∧r= .tup [.agg (yez (ykr (zw7 h.evs t x))),iv (atO (zw7 h.evs t x)),bv (zw7 h.evs t x).isSome]):=by
 refine z6 Tryz.func196 rfl rfl rfl ?_
 refine rn ?_;refine z8 rfl (x9 rfl rfl rfl fun b3=> ?_)
 refine z8 rfl (y6 rfl fun b6=> ?_)
 refine q1 ?_;refine q1 ?_;refine u0 (j7 ?_)
 refine x8 ?_;refine x8 (y5 ?_)
 refine q1 ?_;refine q1 ?_;refine q1 ?_;refine qq rfl rfl (k9 rfl rfl rfl (by rw [oM];omega)) ?_
 refine rn ?_;refine zc4 (fun k:Nat=>k≤h.evs.length∧zhn h.evs t x h.evs.length=zhn h.evs t x k) (fun k=>⟨[(9,iv ((k:Int) - 1)),(1,iv t),(2,iv x),(3,pZ b3),(6,pZ b6),(7,iv 0),(8,bv false)],.box b6 63 [iv 0,iv 0]:: .box b3 28 (x3 h):: [],[]⟩) (fun k=>k) h.evs.length ⟨Nat.le_refl _,rfl⟩ (by rw [oM];exact es) ?_
 rintro k ⟨lk,zk⟩
 refine rn ?_;refine z7 rfl (fun hc16=> ?_) (fun hc16=> ?_)
 ·obtain ⟨j,rfl⟩:∃j,k=j+1:=⟨k - 1,by have:=oT hc16;omega⟩
  have hj:j < h.evs.length:=by omega
  refine zad ?_;refine j7 ?_;refine x8 ?_;refine zaj ?_;refine x8 (y5 ?_)
  refine q1 ?_;refine q1 ?_;refine q1 ?_;refine qq rfl rfl (zky rfl rfl (by omega) (yfq hj)) ?_
  refine rn ?_;refine z8 rfl (y6 rfl fun b10=> ?_)
  refine rn ?_;refine x4 (fun hg5_3=> ?_) (fun hg5_3=> ?_)
  ·refine rn ?_;refine x4 (fun hg5_9=> ?_) (fun hg5_9=> ?_)
   ·refine rn ?_;refine z7 rfl (fun hc38=> ?_) (fun hc38=> ?_)
    ·have hw:zbn t x h.evs[j]=true:=by rw [zbn];first|(rw [hg5_3,hg5_9,hc38];rfl)|(rw [hg5_3,hg5_9];rfl)|(rw [hg5_3];rfl)
     refine rn ?_;exact ze0 (.cons _ _ _ _ (.agg _ _ _ _ _ _ _ rfl inferInstance inferInstance inferInstance rfl) (.cons _ _ _ _ (.tmp _ _ rfl) (.cons _ _ _ _ (.tmp _ _ rfl) .nil))) (.drop [_,_,_] _ _) ⟨rfl,by rw [zw7,zk,yrd hj hw];simp only [ykr,atO];rw [show (((j+1:Nat):Int) - 1)=(j:Int) by omega];rfl⟩
    ·have hw:zbn t x h.evs[j]=false:=by rw [zbn];first|(rw [hg5_3,hg5_9,hc38];rfl)|(rw [hg5_3,hg5_9];rfl)|(rw [hg5_3];rfl)
     refine zad ?_;refine zho ?_;refine j7 ?_;refine y5 ?_;refine q1 ?_;refine qq rfl rfl (k9 rfl rfl rfl (by omega)) ?_
     refine rn ?_;exact ⟨j,⟨by omega,by rw [zk,zul hj hw]⟩,by rw [show (((j+1:Nat):Int) - 1 - 1)=(j:Int) - 1 by omega];exact eA,by omega⟩
   ·refine rn ?_;refine zeu rfl ?_;have hw:zbn t x h.evs[j]=false:=by rw [zbn];first|(rw [hg5_3,hg5_9,hc38];rfl)|(rw [hg5_3,hg5_9];rfl)|(rw [hg5_3];rfl)
    refine zad ?_;refine zho ?_;refine j7 ?_;refine y5 ?_;refine q1 ?_;refine qq rfl rfl (k9 rfl rfl rfl (by omega)) ?_
    refine rn ?_;exact ⟨j,⟨by omega,by rw [zk,zul hj hw]⟩,by rw [show (((j+1:Nat):Int) - 1 - 1)=(j:Int) - 1 by omega];exact eA,by omega⟩
  ·refine rn ?_;refine zeu rfl ?_;have hw:zbn t x h.evs[j]=false:=by rw [zbn];first|(rw [hg5_3,hg5_9,hc38];rfl)|(rw [hg5_3,hg5_9];rfl)|(rw [hg5_3];rfl)
   refine zad ?_;refine zho ?_;refine j7 ?_;refine y5 ?_;refine q1 ?_;refine qq rfl rfl (k9 rfl rfl rfl (by omega)) ?_
   refine rn ?_;exact ⟨j,⟨by omega,by rw [zk,zul hj hw]⟩,by rw [show (((j+1:Nat):Int) - 1 - 1)=(j:Int) - 1 by omega];exact eA,by omega⟩
 ·have qk:k=0:=by have:=oF hc16;omega
  subst qk
  refine zhv ?_;refine zhf ?_;refine zhf ?_;refine zd1 ?_;refine j7 ?_;refine x8 (y5 ?_)
  refine qq rfl rfl (zag (out:= [iv 0,iv 0]) rfl (by rfl)) ?_
  refine rn ?_;exact ze0 (.cons _ _ _ _ (.agg _ _ _ _ _ _ _ rfl inferInstance inferInstance inferInstance rfl) (.cons _ _ _ _ (.tmp _ _ rfl) (.cons _ _ _ _ (.tmp _ _ rfl) .nil))) (.drop [_,_] _ _) ⟨rfl,by rw [zw7,zk];rfl⟩
theorem yty {α β:Type} {l:List α} {q:α→Bool} {f:α→β} {k:Nat} (hk:k < l.length) (h:q l[k]=true):((l.take (k+1)).filter q).map f=((l.take k).filter q).map f++ [f l[k]]:=by
 rw [List.take_succ_eq_append_getElem hk,List.filter_append,List.filter_cons_of_pos h,List.map_append];rfl
theorem ytz {α β:Type} {l:List α} {q:α→Bool} {f:α→β} {k:Nat} (hk:k < l.length) (h:q l[k]=false):((l.take (k+1)).filter q).map f=((l.take k).filter q).map f:=by
 rw [List.take_succ_eq_append_getElem hk,List.filter_append,List.filter_cons_of_neg (by rw [h];decide)];simp
theorem yn5 {α β:Type} (l:List α) (q:α→Bool) (f:α→β) (k:Nat):(((l.take k).filter q).map f).length≤l.length:=by
 rw [oM];exact Nat.le_trans (List.length_filter_le _ _) (by rw [List.length_take];omega)
theorem yhg {h:Hist} {x:Int} {k:Nat} (hk:k < h.ords.length) (hx:(h.ords[k].o==x)=true) (hz:((h.ords.take k).all fun o:Ord=> !(o.o==x))=true):zle h x=h.ords[k].ts:=by
 have:h.ords.find? (fun o=>o.o==x)=some h.ords[k]:=by
  rw [List.find?_eq_some_iff_getElem]
  exact ⟨hx,k,hk,rfl,fun j hj=>by have:=List.all_eq_true.1 hz h.ords[j] (zmx (by omega) hj);exact this⟩
 rw [zle,this]
theorem yni {h:Hist} {x:Int} (hz:(h.ords.all fun o:Ord=> !(o.o==x))=true):zle h x=za6 h x:=by
 have:h.ords.find? (fun o=>o.o==x)=none:=by
  rw [List.find?_eq_none];intro s hs q
  have:=List.all_eq_true.1 hz s hs
  rw [q] at this;cases this
 rw [zle,this]
theorem ynj {h:Hist} {N:Nat} (la:Lim N h) (x:Int):(zle h x).length≤N:=by
 unfold zle
 split
 ·rename_i o ho;exact la.ordts o (List.mem_of_find?_eq_some ho)
 ·exact Nat.le_trans (zgj _ _) la.ts
def rkQ (h:Hist) (x:Int) (v:Ver) (t:Int):Bool:=ykr (zw7 h.evs t x)==v
def zpg (h:Hist) (x:Int) (v:Ver):Int×Bool:=if v=⟨0,0⟩ then (0,true) else if za9 (rkQ h x v) 0 (zle h x) ≥ 0 then (za9 (rkQ h x v) 0 (zle h x)+1,true) else (0,false)
theorem yp6 {h:Hist} {x:Int} {v:Ver} {k:Nat} (hv:v≠⟨0,0⟩) (hk:k < (zle h x).length) (hq:rkQ h x v (zle h x)[k]=true) (hz:(((zle h x).take k).all fun t=> !rkQ h x v t)=true):zpg h x v=((k:Int)+1,true):=by
 have:za9 (rkQ h x v) 0 (zle h x)=(k:Int):=by
  have:=ycz (p:=rkQ h x v) (l:=zle h x) (i:=0) hk hq (fun j hj=>by
   have:=List.all_eq_true.1 hz (zle h x)[j] (zmx (by omega) hj)
   simpa using this)
  rw [this];congr 1;omega
 rw [zpg,if_neg hv,this,if_pos (by omega)]
theorem yuk {h:Hist} {x:Int} {v:Ver} (hv:v≠⟨0,0⟩) (hz:((zle h x).all fun t=> !rkQ h x v t)=true):zpg h x v=(0,false):=by
 have:decide (za9 (rkQ h x v) 0 (zle h x) ≥ 0)=false:=by
  rw [zeq,List.any_eq_false];intro t ht
  have:=List.all_eq_true.1 hz t ht
  simpa using this
 rw [zpg,if_neg hv,if_neg (oF this)]
theorem yas (h:Hist) (la:Lim 1000000 h) (n:Int):y8 Tryz.prog 60 [.agg (x3 h),iv n] [] (fun r h'=>h'= []∧r=zbz (za0 h.evs n)):=by
 refine z6 Tryz.func60 rfl rfl rfl ?_
 have be:=la.evs
 refine rn ?_;refine z8 rfl (x9 rfl rfl rfl fun b2=> ?_)
 refine rn ?_;refine zet h.evs.length (fun k s=>⟨[(11,iv k),(5,.v s.v),(1,iv n),(2,pZ b2),(9,zlg h.evs),(10,iv (h.evs.map evR).length)],.row s.v 1 3 ((((h.evs.take k).filter (fun e:Ev=>e.kind==1 && (e.s==n && zsb h.evs e.t 5))).map Ev.t).map j8):: .box b2 28 (x3 h):: [],[]⟩) ⟨none,0,0⟩ (w9 (k6 1 3) es) ?_
 intro k s lk
 refine rn ?_;refine z7 rfl (fun hc12=> ?_) (fun hc12=> ?_)
 ·have hk:=zan hc12
  have rk:=zaf (f:=evR) hk
  refine rn ?_;refine z8 rfl (y6 rfl fun b7=> ?_)
  refine rn ?_;refine x4 (fun hg5_3=> ?_) (fun hg5_3=> ?_)
  ·refine rn ?_;refine x4 (fun hg5_9=> ?_) (fun hg5_9=> ?_)
   ·refine rn ?_;refine qv rfl rfl (y4 rfl rfl (v6 (yav h h.evs[k].t (la.mono (by decide))) (Sbs.refl _))) ?_
    refine rn ?_;refine z7 rfl (fun hc29=> ?_) (fun hc29=> ?_)
    ·refine rn ?_;refine qv rfl rfl (q8 rfl rfl) ?_
     refine z8 rfl (u6 rfl rfl (by rw [oM];simp only [List.length_cons,List.length_nil];have:=yn5 h.evs (fun e:Ev=>e.kind==1 && (e.s==n && zsb h.evs e.t 5)) Ev.t k;omega) rfl (fun s34=> ?_) (ziv [h.evs[k].t]))
     refine zaa s34 fun sv hsv=> ?_
     subst hsv
     refine rn ?_;first|exact ⟨hk,sv,by rw [yty hk (by first|(rw [hg5_3,hg5_9,hc29];rfl)|(rw [hg5_3,hg5_9];rfl)|(rw [hg5_3];rfl)),List.map_append];exact eA⟩|exact ⟨hk,s,by rw [ytz hk (by first|(rw [hg5_3,hg5_9,hc29];rfl)|(rw [hg5_3,hg5_9];rfl)|(rw [hg5_3];rfl))];exact eA⟩
    ·refine rn ?_;first|exact ⟨hk,sv,by rw [yty hk (by first|(rw [hg5_3,hg5_9,hc29];rfl)|(rw [hg5_3,hg5_9];rfl)|(rw [hg5_3];rfl)),List.map_append];exact eA⟩|exact ⟨hk,s,by rw [ytz hk (by first|(rw [hg5_3,hg5_9,hc29];rfl)|(rw [hg5_3,hg5_9];rfl)|(rw [hg5_3];rfl))];exact eA⟩
   ·refine rn ?_;refine zeu rfl ?_;refine rn ?_;first|exact ⟨hk,sv,by rw [yty hk (by first|(rw [hg5_3,hg5_9,hc29];rfl)|(rw [hg5_3,hg5_9];rfl)|(rw [hg5_3];rfl)),List.map_append];exact eA⟩|exact ⟨hk,s,by rw [ytz hk (by first|(rw [hg5_3,hg5_9,hc29];rfl)|(rw [hg5_3,hg5_9];rfl)|(rw [hg5_3];rfl))];exact eA⟩
  ·refine rn ?_;refine zeu rfl ?_;refine rn ?_;first|exact ⟨hk,sv,by rw [yty hk (by first|(rw [hg5_3,hg5_9,hc29];rfl)|(rw [hg5_3,hg5_9];rfl)|(rw [hg5_3];rfl)),List.map_append];exact eA⟩|exact ⟨hk,s,by rw [ytz hk (by first|(rw [hg5_3,hg5_9,hc29];rfl)|(rw [hg5_3,hg5_9];rfl)|(rw [hg5_3];rfl))];exact eA⟩
 ·have qk:=zap hc12 lk
  refine rn ?_;exact u9 rfl (.trans zcv (.drop [_] _ _)) ⟨rfl,by rw [qk,List.take_length];rfl⟩
theorem yat (h:Hist) (la:Lim 1000000 h) (x:Int):y8 Tryz.prog 195 [.agg (x3 h),iv x] [] (fun r h'=>h'= []∧r=zbz (zle h x)):=by
 refine z6 Tryz.func195 rfl rfl rfl ?_
 have bo:=la.ords
 refine rn ?_;refine z8 rfl (x9 rfl rfl rfl fun b2=> ?_)
 refine rn ?_;refine zcj (h.ords.length) (fun k:Nat=>((h.ords.take k).all fun o:Ord=> !(o.o==x))=true) (fun k=> [(10,iv k)]) [(1,_),(2,_),(8,_),(9,_)] rfl ?_
 intro k lk zk
 refine rn ?_;refine z7 rfl (fun hc11=> ?_) (fun hc11=> ?_)
 ·have hk:=zan hc11
  have rk:=zaf (f:=zcy) hk
  refine rn ?_;refine z8 rfl (y6 rfl fun b6=> ?_)
  refine rn ?_;refine z7 rfl (fun hc17=> ?_) (fun hc17=> ?_)
  ·refine rn ?_;refine rq 2 ?_
   exact ⟨rfl,by rw [yhg hk hc17 zk];rfl⟩
  ·refine rn ?_;exact ⟨hk,by rw [zxn hk,zk,hc17];rfl,eA⟩
 ·have qk:=zap hc11 lk
  rw [qk,List.take_length] at zk
  refine rn ?_;refine qv rfl rfl (y4 rfl rfl (v6 (zh4 h x la) (Sbs.refl _))) ?_
  refine rn ?_;refine rq 1 ?_
  exact ⟨rfl,by rw [yni zk];rfl⟩
theorem zro (h:Hist) (la:Lim 1000000 h) (x:Int) (v:Ver):y8 Tryz.prog 155 [.agg (x3 h),iv x,.agg (yez v)] [] (fun r h'=>h'= []∧r= .tup [iv (zpg h x v).1,bv (zpg h x v).2]):=by
 refine z6 Tryz.func155 rfl rfl rfl ?_
 have be:=la.evs
 have bi:=ynj la x
 refine rn ?_;refine z8 rfl (x9 rfl rfl rfl fun b3=> ?_)
 refine z8 rfl (x9 rfl rfl rfl fun b5=> ?_)
 refine q1 ?_;refine q1 ?_;refine u0 (j7 ?_)
 refine x8 ?_;refine x8 (y5 ?_)
 refine q1 ?_;refine qq rfl rfl (zag (out:= [iv 0,iv 0]) rfl (by rfl)) ?_
 refine rn ?_;refine z7 rfl (fun hc15=> ?_) (fun hc15=> ?_)
 ·have hv:v=⟨0,0⟩:=eq_of_beq (by rw [←zcq];exact hc15)
  refine rn ?_;refine rq 2 ?_
  exact ⟨rfl,by rw [zpg,if_pos hv];rfl⟩
 ·have hv:v≠⟨0,0⟩:=beq_eq_false_iff_ne.1 (by rw [←zcq];exact hc15)
  refine rn ?_;refine qv rfl rfl (y4 rfl rfl (v6 (yat h la x) (Sbs.refl _))) ?_
  refine rn ?_;refine zcj ((zle h x).length) (fun k:Nat=>(((zle h x).take k).all fun t=> !rkQ h x v t)=true) (fun k=> [(20,iv k)]) [(1,_),(3,_),(5,_),(18,_),(19,_)] rfl ?_
  intro k lk zk
  refine rn ?_;refine z7 rfl (fun hc21=> ?_) (fun hc21=> ?_)
  ·have hk:=zan hc21
   have rk:=zaf (f:=j8) hk
   refine rn ?_;refine qv rfl rfl (y4 rfl rfl (v6 (zya h la.evs (zle h x)[k] x) (Sbs.refl _))) ?_
   refine rn ?_;refine z8 rfl (y6 rfl fun b10=> ?_)
   refine rn ?_;refine z7 rfl (fun hc35=> ?_) (fun hc35=> ?_)
   ·have hq:(ykr (zw7 h.evs (zle h x)[k] x)==v)=true:=by rw [←zcq];exact hc35
    refine x8 (y5 ?_)
    refine q1 ?_;refine qq rfl rfl (k9 rfl rfl rfl (by omega)) ?_
    refine rn ?_;refine rq 3 ?_
    exact ⟨rfl,by rw [yp6 hv hk hq zk];rfl⟩
   ·have hq:(ykr (zw7 h.evs (zle h x)[k] x)==v)=false:=by rw [←zcq];exact hc35
    refine rn ?_;exact ⟨hk,by rw [zxn hk,zk,rkQ,hq];rfl,eA⟩
  ·have qk:=zap hc21 lk
   rw [qk,List.take_length] at zk
   refine rn ?_;refine rq 2 ?_
   exact ⟨rfl,by rw [yuk hv zk];rfl⟩
theorem zrl {h:Hist} (hc:v8 h=0) {x:Int} (h0:0≤x) (h1:x < h.os.length) (v:Ver):zpg h x v=((zs8 h x v).getD 0,(zs8 h x v).isSome):=by
 have hs:=zd3.1 hc
 rw [zs8,yam hs v h0 h1 _ (Nat.le_refl _) h1,zpg,←yjl hs h0 h1]
 by_cases hv:v=⟨0,0⟩
 ·rw [if_pos hv,if_pos hv];rfl
 ·rw [if_neg hv,if_neg hv]
  have e:za9 (rkQ h x v) 0 (zf1 h x)=zph h x v:=rfl
  rw [e]
  by_cases q:zph h x v ≥ 0
  ·rw [if_pos q,if_pos q];rfl
  ·rw [if_neg q,if_neg q];rfl
def kdR (rd:Bool):Int:=bif rd then 3 else 2
def zfk (h:Hist) (x:Int) (rd:Bool) (e:Ev):Option Int:=if e.o=x∧e.kind=kdR rd then zs8 h x e.v else none
theorem znj {h:Hist} {x:Int} {rd:Bool} {e:Ev} (hn:¬(e.o=x∧e.kind=kdR rd)):zfk h x rd e=none:=if_neg hn
theorem zvc {h:Hist} {x:Int} {rd:Bool} {e:Ev} (hy:e.o=x∧e.kind=kdR rd):zfk h x rd e=zs8 h x e.v:=if_pos hy
def rdA (g:Int):Bool:=g==2||g==8
def rdB (g:Int):Bool:=g==1||g==2
theorem yrq (g:Int):kdA g=kdR (rdA g):=by
 unfold kdA kdR rdA
 by_cases h1:g=2
 ·subst h1;rfl
 ·by_cases h2:g=8
  ·subst h2;rfl
  ·have e1:(g==2)=false:=by simpa using h1
   have e2:(g==8)=false:=by simpa using h2
   rw [if_neg (by omega),e1,e2];rfl
theorem yrp (g:Int):kdB g=kdR (rdB g):=by
 unfold kdB kdR rdB
 by_cases h1:g=1
 ·subst h1;rfl
 ·by_cases h2:g=2
  ·subst h2;rfl
  ·have e1:(g==1)=false:=by simpa using h1
   have e2:(g==2)=false:=by simpa using h2
   rw [if_neg (by omega),e1,e2];rfl
theorem ye1 {a b c d:Bool} (h1:a=c) (h2:b=d):zfc [bv a,bv b]= .tup [bv c,bv d]:=by rw [h1,h2];rfl
def zzl (h:Hist) (t kd x:Int) (k:Nat):List Acc:=(zqv h t kd k).filter fun a=>a.o==x
theorem yee {h:Hist} {t x:Int} {rd:Bool} {k:Nat} {r:Int} (hk:k < h.evs.length) (ht:h.evs[k].t=t) (hr:zfk h x rd h.evs[k]=some r):zzl h t (kdR rd) x (k+1)=zzl h t (kdR rd) x k++ [⟨x,r,k⟩]:=by
 rw [zfk] at hr
 split at hr
 ·rename_i q
  rw [zzl,zin hk,List.filter_append,yef ht q.2 (by rw [q.1];exact hr),q.1]
  simp [zzl]
 ·cases hr
theorem ykb {h:Hist} {t x:Int} {rd:Bool} {k:Nat} (hk:k < h.evs.length) (hn:h.evs[k].t≠t∨zfk h x rd h.evs[k]=none):zzl h t (kdR rd) x (k+1)=zzl h t (kdR rd) x k:=by
 have:(zno h t (kdR rd) k h.evs[k]).filter (fun a=>a.o==x)= []:=by
  rw [List.filter_eq_nil_iff]
  intro a ha hx
  obtain ⟨e1,e2,e3,e4,e5⟩:=zxr ha
  have hx:a.o=x:=by simpa using hx
  rcases hn with hn|hn
  ·exact hn e1
  ·rw [zvc ⟨by rw [←e3,hx],e2⟩,←hx,e3,e5] at hn;cases hn
 rw [zzl,zin hk,List.filter_append,this,List.append_nil];rfl
def hF (g t1 t2 x:Int) (a b:Acc):Option Brch:=if b.r < a.r then some ⟨g,t1,t2,x,a.a,b.a⟩ else none
def bG (h:Hist) (g t1 t2 x:Int) (i:Nat):List Brch:=(zzl h t1 (kdR (rdA g)) x i).flatMap fun a=>(zzl h t2 (kdR (rdB g)) x h.evs.length).filterMap (hF g t1 t2 x a)
def zta (h:Hist) (g t1 t2:Int) (k:Nat):List Brch:=(upR k).flatMap fun x=>bG h g t1 t2 x h.evs.length
theorem ytb (h:Hist) (g t1 t2:Int) (k:Nat):zta h g t1 t2 (k+1)=zta h g t1 t2 k++bG h g t1 t2 k h.evs.length:=by
 rw [zta,zzx,List.flatMap_append];simp [zta]
theorem yxa {h:Hist} {g t1 t2 x r:Int} {i:Nat} (hi:i < h.evs.length) (ht:h.evs[i].t=t1) (hr:zfk h x (rdA g) h.evs[i]=some r):bG h g t1 t2 x (i+1)=bG h g t1 t2 x i++(zzl h t2 (kdR (rdB g)) x h.evs.length).filterMap (hF g t1 t2 x ⟨x,r,i⟩):=by
 rw [bG,yee hi ht hr,List.flatMap_append];simp [bG]
theorem ywd {h:Hist} {g t1 t2 x:Int} {i:Nat} (hi:i < h.evs.length) (hn:h.evs[i].t≠t1∨zfk h x (rdA g) h.evs[i]=none):bG h g t1 t2 x (i+1)=bG h g t1 t2 x i:=by
 rw [bG,ykb hi hn];rfl
def bJ (h:Hist) (g t1 t2 x:Int) (a:Acc) (j:Nat):List Brch:=(zzl h t2 (kdR (rdB g)) x j).filterMap (hF g t1 t2 x a)
theorem yw8 {h:Hist} {g t1 t2 x r:Int} {a:Acc} {j:Nat} (hj:j < h.evs.length) (ht:h.evs[j].t=t2) (hr:zfk h x (rdB g) h.evs[j]=some r) (hlt:r < a.r):bJ h g t1 t2 x a (j+1)=bJ h g t1 t2 x a j++ [⟨g,t1,t2,x,a.a,j⟩]:=by
 rw [bJ,yee hj ht hr,List.filterMap_append];simp [bJ,hF,hlt]
theorem yw9 {h:Hist} {g t1 t2 x r:Int} {a:Acc} {j:Nat} (hj:j < h.evs.length) (ht:h.evs[j].t=t2) (hr:zfk h x (rdB g) h.evs[j]=some r) (hlt:¬r < a.r):bJ h g t1 t2 x a (j+1)=bJ h g t1 t2 x a j:=by
 rw [bJ,yee hj ht hr,List.filterMap_append];simp [bJ,hF,hlt]
theorem ywc {h:Hist} {g t1 t2 x:Int} {a:Acc} {j:Nat} (hj:j < h.evs.length) (hn:h.evs[j].t≠t2∨zfk h x (rdB g) h.evs[j]=none):bJ h g t1 t2 x a (j+1)=bJ h g t1 t2 x a j:=by
 rw [bJ,ykb hj hn];rfl
theorem yif (h:Hist) (g t1 t2:Int):zta h g t1 t2 h.os.length=ys9 h.os.length g t1 t2 (zn0 h t1 (kdA g)) (zn0 h t2 (kdB g)):=by
 rw [zta,ys9,yrq,yrp];rfl
theorem zqd {α β:Type} {f:α→List β} {c:Nat}:∀{l:List α},(∀a∈l,(f a).length≤c)→(l.flatMap f).length≤l.length * c
 | [],_=>by simp
 |a::l,h=>by
  have h1:=zqd (l:=l) fun x hx=>h x (by simp [hx])
  have h2:=h a (by simp)
  rw [List.flatMap_cons,List.length_append,List.length_cons,Nat.succ_mul];omega
theorem zqw (h:Hist) (t kd x:Int) (k:Nat):(zzl h t kd x k).length≤k:=Nat.le_trans (List.length_filter_le _ _) (zfo h t kd k)
theorem ytc (h:Hist) (g t1 t2 x:Int) (a:Acc) (j:Nat):(bJ h g t1 t2 x a j).length≤j:=Nat.le_trans (List.length_filterMap_le _ _) (zqw _ _ _ _ _)
theorem yj1 (h:Hist) (g t1 t2 x:Int) (i:Nat):(bG h g t1 t2 x i).length≤i * h.evs.length:=by
 refine Nat.le_trans (zqd (c:=h.evs.length) fun a _=>Nat.le_trans (List.length_filterMap_le _ _) (zqw _ _ _ _ _)) ?_
 exact Nat.mul_le_mul_right _ (zqw _ _ _ _ _)
theorem yie (h:Hist) (g t1 t2:Int) (k:Nat):(zta h g t1 t2 k).length≤k * (h.evs.length * h.evs.length):=by
 refine Nat.le_trans (zqd (c:=h.evs.length * h.evs.length) fun x _=>yj1 _ _ _ _ _ _) ?_
 rw [upR,oM,List.length_range];exact Nat.le_refl _
theorem yj2 {h:Hist} (hE:h.evs.length≤70) (hc:v8 h=0) {g t1 t2 x:Int} {k i j:Nat} {a:Acc} (hk:k≤h.os.length) (hi:i≤h.evs.length) (hj:j≤h.evs.length):(zta h g t1 t2 k++bG h g t1 t2 x i++bJ h g t1 t2 x a j).length≤15000000:=by
 have lA:=zg1 hc
 have lO:=lA.os;have lE:=hE
 have e1:h.evs.length * h.evs.length≤70 * 70:=Nat.mul_le_mul lE lE
 have e2:k * (h.evs.length * h.evs.length)≤3000 * (70 * 70):=Nat.mul_le_mul (by omega) e1
 have e3:i * h.evs.length≤70 * 70:=Nat.mul_le_mul (by omega) lE
 have h1:=yie h g t1 t2 k
 have h2:=yj1 h g t1 t2 x i
 have h3:=ytc h g t1 t2 x a j
 rw [List.length_append,List.length_append];omega
theorem ydt {h:Hist} (hE:h.evs.length≤70) (hc:v8 h=0) (g t1 t2:Int):(zta h g t1 t2 h.os.length).length≤15000000:=by
 have:=yj2 hE hc (g:=g) (t1:=t1) (t2:=t2) (x:=0) (a:=⟨0,0,0⟩) (k:=h.os.length) (i:=0) (j:=0) (Nat.le_refl _) (Nat.zero_le _) (Nat.zero_le _)
 rw [List.length_append,List.length_append] at this;omega
def eR (h:Hist) (g:Int) (l:List Int) (t2:Int) (i:Nat):List Brch:=(l.take i).flatMap fun t1=>zta h g t1 t2 h.os.length
theorem yw7 {h:Hist} {g:Int} {l:List Int} {t2:Int} {i:Nat} (hi:i < l.length):eR h g l t2 (i+1)=eR h g l t2 i++zta h g l[i] t2 h.os.length:=by
 rw [eR,List.take_succ_eq_append_getElem hi,List.flatMap_append];simp [eR]
def eL (h:Hist) (g:Int) (l:List Int):Nat→List Brch
 |0=> []
 |k+1=>eL h g l k++(match l[k]? with|some t2=>eR h g (l.take k) t2 (l.take k).length|none=> [])
theorem ywa {h:Hist} {g:Int} {l:List Int} {k:Nat} (hk:k < l.length):eL h g l (k+1)=eL h g l k++eR h g (l.take k) l[k] (l.take k).length:=by rw [eL,List.getElem?_eq_getElem hk]
theorem yc5 (h:Hist) (g:Int) (l:List Int):∀k,eL h g l k=zqh h.os.length g (l.map (doi h g)) k
 |0=>rfl
 |k+1=>by
  rw [eL,zqh,yc5 h g l k,List.getElem?_map]
  cases l[k]? with
  |none=>rfl
  |some t2=>
   simp only [Option.map_some]
   rw [eR,List.take_length,←List.map_take,List.flatMap_map]
   congr 1
   exact zcm fun t1 _=>yif h g t1 t2
theorem yjt (h:Hist) (s g:Int):eL h g (za0 h.evs s) (za0 h.evs s).length=eaS h s g:=by rw [yc5,eaS,zy4,oM]
theorem yjr {h:Hist} (hE:h.evs.length≤70) (hc:v8 h=0) (g:Int) (l:List Int) (t2:Int) (i:Nat):(eR h g l t2 i).length≤i * 15000000:=by
 refine Nat.le_trans (zqd (c:=15000000) fun t1 _=>ydt hE hc g t1 t2) ?_
 exact Nat.mul_le_mul_right _ (by rw [List.length_take];exact Nat.min_le_left _ _)
theorem yjs {h:Hist} (hE:h.evs.length≤70) (hc:v8 h=0) (g:Int) (l:List Int):∀k,k≤l.length→(eL h g l k).length≤k * (l.length * 15000000)
 |0,_=>by simp [eL]
 |k+1,hk=>by
  have h1:=yjs hE hc g l k (by omega)
  have h2:=yjr hE hc g (l.take k) l[k] (l.take k).length
  have h3:(l.take k).length * 15000000≤l.length * 15000000:=Nat.mul_le_mul_right _ (by rw [List.length_take];omega)
  rw [ywa hk,List.length_append,Nat.succ_mul];omega
theorem yju {h:Hist} (hE:h.evs.length≤70) (hc:v8 h=0) (g:Int) {l:List Int} (hl:l.length≤70) {k i:Nat} (t2:Int) (hk:k≤l.length) (hi:i≤70):(eL h g l k++eR h g (l.take k) t2 i).length≤80000000000:=by
 have h1:=yjs hE hc g l k hk
 have h2:=yjr hE hc g (l.take k) t2 i
 have h3:k * (l.length * 15000000)≤70 * (70 * 15000000):=Nat.mul_le_mul (by omega) (Nat.mul_le_mul_right _ hl)
 rw [List.length_append];omega
theorem yod {h:Hist} (hE:h.evs.length≤70) (hc:v8 h=0) (s g:Int):(eaS h s g).length≤80000000000:=by
 have lL:=zlx h s
 have lE:=hE
 have:=yju hE hc g (l:=za0 h.evs s) (by omega) (k:=(za0 h.evs s).length) (i:=0) 0 (Nat.le_refl _) (by omega)
 rw [yjt,List.length_append] at this;omega
abbrev zxi (l:List Brch):AV:= .list false 6 (l.map zb9)
theorem yqd (h:Hist) (la:Lim 3000 h) (hc:v8 h=0) (hE:h.evs.length≤70) (i x:Nat) (hi:i < h.evs.length) (hx:x < h.os.length):y8 Tryz.prog 115 [.agg (x3 h),iv (i:Int),iv (x:Int),bv true] [] (fun r h'=>h'= []∧r= .tup [iv ((zfk h x true h.evs[i]).getD 0),bv (zfk h x true h.evs[i]).isSome]):=by
 refine z6 Tryz.func115 rfl rfl rfl ?_
 refine rn ?_;refine z8 rfl (x9 rfl rfl rfl fun b4=> ?_)
 refine q1 ?_;refine q1 ?_;refine u0 (j7 ?_)
 refine x8 (y5 ?_)
 refine q1 ?_;refine q1 ?_;refine q1 ?_;refine qq rfl rfl (zas rfl rfl (zaf (f:=evR) hi)) ?_
 refine rn ?_;refine z8 rfl (y6 rfl fun b10=> ?_)
 refine rn ?_;refine x4 (fun hg2_4=> ?_) (fun hg2_4=> ?_)
 ·refine rn ?_;refine z7 rfl (fun hc35=> ?_) (fun hc35=> ?_)
  ·have hn:¬(h.evs[i].o=(x:Int)∧h.evs[i].kind=kdR true):=by
    intro qq
    have q1:h.evs[i].kind=3:=qq.2
    first|(have w:=hg2_4;rw [qq.1] at w;simp at w;done)|(have w:=hg2_11;rw [q1] at w;simp at w;done)|(have w:=hc35;rw [q1] at w;simp at w;done)
   refine rn ?_;refine rq 2 ?_
   exact ⟨rfl,by rw [znj hn];rfl⟩
  ·first|cases hc35|exact absurd hc35 (by decide)|(exfalso;simp_all;done)
 ·refine q1 ?_;refine q1 ?_;refine q1 ?_;refine q1 ?_;refine qq rfl rfl (zjk rfl rfl) ?_
  refine rn ?_;refine x4 (fun hg2_11=> ?_) (fun hg2_11=> ?_)
  ·refine rn ?_;refine z7 rfl (fun hc35=> ?_) (fun hc35=> ?_)
   ·have hn:¬(h.evs[i].o=(x:Int)∧h.evs[i].kind=kdR true):=by
     intro qq
     have q1:h.evs[i].kind=3:=qq.2
     first|(have w:=hg2_4;rw [qq.1] at w;simp at w;done)|(have w:=hg2_11;rw [q1] at w;simp at w;done)|(have w:=hc35;rw [q1] at w;simp at w;done)
    refine rn ?_;refine rq 2 ?_
    exact ⟨rfl,by rw [znj hn];rfl⟩
   ·first|cases hc35|exact absurd hc35 (by decide)|(exfalso;simp_all;done)
  ·refine rn ?_;refine z7 rfl (fun hc35=> ?_) (fun hc35=> ?_)
   ·first|cases hc35|exact absurd hc35 (by decide)|(exfalso;simp_all;done)
   ·have hyy:h.evs[i].o=(x:Int)∧h.evs[i].kind=kdR true:=⟨by simpa using hg2_4,by simpa [kdR] using hg2_11⟩
    refine rn ?_;refine qv rfl rfl (y4 rfl rfl (v6 ((zro h (la.mono (by decide)) (x:Int) h.evs[i].v).mono fun _ _ q=>⟨q.1,by rw [q.2,zrl hc (by omega) (by omega),←zvc hyy]⟩) (Sbs.refl _))) ?_
    refine rn ?_;refine rq 2 ?_
    exact ⟨rfl,rfl⟩
theorem yqe (h:Hist) (la:Lim 3000 h) (hc:v8 h=0) (hE:h.evs.length≤70) (i x:Nat) (hi:i < h.evs.length) (hx:x < h.os.length):y8 Tryz.prog 115 [.agg (x3 h),iv (i:Int),iv (x:Int),bv false] [] (fun r h'=>h'= []∧r= .tup [iv ((zfk h x false h.evs[i]).getD 0),bv (zfk h x false h.evs[i]).isSome]):=by
 refine z6 Tryz.func115 rfl rfl rfl ?_
 refine rn ?_;refine z8 rfl (x9 rfl rfl rfl fun b4=> ?_)
 refine q1 ?_;refine q1 ?_;refine u0 (j7 ?_)
 refine x8 (y5 ?_)
 refine q1 ?_;refine q1 ?_;refine q1 ?_;refine qq rfl rfl (zas rfl rfl (zaf (f:=evR) hi)) ?_
 refine rn ?_;refine z8 rfl (y6 rfl fun b10=> ?_)
 refine rn ?_;refine x4 (fun hg2_4=> ?_) (fun hg2_4=> ?_)
 ·refine rn ?_;refine z7 rfl (fun hc35=> ?_) (fun hc35=> ?_)
  ·have hn:¬(h.evs[i].o=(x:Int)∧h.evs[i].kind=kdR false):=by
    intro qq
    have q1:h.evs[i].kind=2:=qq.2
    first|(have w:=hg2_4;rw [qq.1] at w;simp at w;done)|(have w:=hg2_11;rw [q1] at w;simp at w;done)|(have w:=hc35;rw [q1] at w;simp at w;done)
   refine rn ?_;refine rq 2 ?_
   exact ⟨rfl,by rw [znj hn];rfl⟩
  ·first|cases hc35|exact absurd hc35 (by decide)|(exfalso;simp_all;done)
 ·refine q1 ?_;refine q1 ?_;refine q1 ?_;refine q1 ?_;refine qq rfl rfl (zjk rfl rfl) ?_
  refine rn ?_;refine x4 (fun hg2_11=> ?_) (fun hg2_11=> ?_)
  ·refine rn ?_;refine z7 rfl (fun hc35=> ?_) (fun hc35=> ?_)
   ·have hn:¬(h.evs[i].o=(x:Int)∧h.evs[i].kind=kdR false):=by
     intro qq
     have q1:h.evs[i].kind=2:=qq.2
     first|(have w:=hg2_4;rw [qq.1] at w;simp at w;done)|(have w:=hg2_11;rw [q1] at w;simp at w;done)|(have w:=hc35;rw [q1] at w;simp at w;done)
    refine rn ?_;refine rq 2 ?_
    exact ⟨rfl,by rw [znj hn];rfl⟩
   ·first|cases hc35|exact absurd hc35 (by decide)|(exfalso;simp_all;done)
  ·refine rn ?_;refine z7 rfl (fun hc35=> ?_) (fun hc35=> ?_)
   ·have hn:¬(h.evs[i].o=(x:Int)∧h.evs[i].kind=kdR false):=by
     intro qq
     have q1:h.evs[i].kind=2:=qq.2
     first|(have w:=hg2_4;rw [qq.1] at w;simp at w;done)|(have w:=hg2_11;rw [q1] at w;simp at w;done)|(have w:=hc35;rw [q1] at w;simp at w;done)
    refine rn ?_;refine rq 2 ?_
    exact ⟨rfl,by rw [znj hn];rfl⟩
   ·have hyy:h.evs[i].o=(x:Int)∧h.evs[i].kind=kdR false:=⟨by simpa using hg2_4,by simpa [kdR] using hc35⟩
    refine rn ?_;refine qv rfl rfl (y4 rfl rfl (v6 ((zro h (la.mono (by decide)) (x:Int) h.evs[i].v).mono fun _ _ q=>⟨q.1,by rw [q.2,zrl hc (by omega) (by omega),←zvc hyy]⟩) (Sbs.refl _))) ?_
    refine rn ?_;refine rq 2 ?_
    exact ⟨rfl,rfl⟩
theorem yay (h:Hist) (la:Lim 3000 h) (hc:v8 h=0) (hE:h.evs.length≤70) (i x:Nat) (hi:i < h.evs.length) (hx:x < h.os.length) (rd:Bool):y8 Tryz.prog 115 [.agg (x3 h),iv (i:Int),iv (x:Int),bv rd] [] (fun r h'=>h'= []∧r= .tup [iv ((zfk h x rd h.evs[i]).getD 0),bv (zfk h x rd h.evs[i]).isSome]):=by
 cases rd
 ·exact yqe h la hc hE i x hi hx
 ·exact yqd h la hc hE i x hi hx
theorem yaz (g:Int):y8 Tryz.prog 114 [iv g] [] (fun r h'=>h'= []∧r= .tup [bv (rdA g),bv (rdB g)]):=by
 refine z6 Tryz.func114 rfl rfl rfl ?_
 refine rn ?_;refine x4 (fun hg1_2=> ?_) (fun hg1_2=> ?_)
 ·refine rn ?_;refine x4 (fun hg1_8=> ?_) (fun hg1_8=> ?_)
  ·refine rn ?_;refine rq 0 ?_
   exact ⟨rfl,ye1 (by simp only [rdA,hg1_2,Bool.true_or,Bool.false_or]) (by simp only [rdB,hg1_8,Bool.true_or,Bool.false_or])⟩
  ·refine rn ?_;refine rq 0 ?_
   exact ⟨rfl,ye1 (by simp only [rdA,hg1_2,Bool.true_or,Bool.false_or]) (by simp only [rdB,hg1_8,Bool.true_or,Bool.false_or])⟩
 ·refine rn ?_;refine x4 (fun hg1_8=> ?_) (fun hg1_8=> ?_)
  ·refine rn ?_;refine rq 0 ?_
   exact ⟨rfl,ye1 (by simp only [rdA,hg1_2,Bool.true_or,Bool.false_or]) (by simp only [rdB,hg1_8,Bool.true_or,Bool.false_or])⟩
  ·refine rn ?_;refine rq 0 ?_
   exact ⟨rfl,ye1 (by simp only [rdA,hg1_2,Bool.true_or,Bool.false_or]) (by simp only [rdB,hg1_8,Bool.true_or,Bool.false_or])⟩
theorem zx8 (g:Int):y8 Tryz.prog 18 [iv g] [] (fun r h'=>h'= []∧r=bv (g==1||g==2||g==4||g==8)):=by
 refine z6 Tryz.func18 rfl rfl rfl ?_
 refine rn ?_;refine x4 (fun hg1_2=> ?_) (fun hg1_2=> ?_)
 ·refine rn ?_;refine rq 0 ?_
  exact ⟨rfl,congrArg bv (by simp_all)⟩
 ·refine rn ?_;refine x4 (fun hg1_6=> ?_) (fun hg1_6=> ?_)
  ·refine rn ?_;refine rq 0 ?_
   exact ⟨rfl,congrArg bv (by simp_all)⟩
  ·refine rn ?_;refine x4 (fun hg1_10=> ?_) (fun hg1_10=> ?_)
   ·refine rn ?_;refine rq 0 ?_
    exact ⟨rfl,congrArg bv (by simp_all)⟩
   ·refine rn ?_;refine rq 0 ?_
    exact ⟨rfl,congrArg bv (by simp_all)⟩
set_option maxHeartbeats 8000000 in
theorem yax (h:Hist) (la:Lim 3000 h) (hc:v8 h=0) (hE:h.evs.length≤70) (g t1 t2:Int):y8 Tryz.prog 61 [.agg (x3 h),iv g,iv t1,iv t2] [] (fun r h'=>∃v:SV,h'= [.row v.v 6 36 ((zta h g t1 t2 h.os.length).map zb9)]∧r= .v v.v):=by
 refine z6 Tryz.func61 rfl rfl rfl ?_
 have lO:=la.os
 have lE:=la.evs
 refine rn ?_;refine z8 rfl (x9 rfl rfl rfl fun b4=> ?_)
 refine rn ?_;refine qv rfl rfl (y4 rfl rfl (v6 (yaz g) (Sbs.refl _))) ?_
 refine rn ?_;refine zet h.os.length (fun x v=>⟨[(29,iv x),(9,.v v.v),(1,iv g),(2,iv t1),(3,iv t2),(4,pZ b4),(10,bv (rdA g)),(11,bv (rdB g)),(28,iv (h.os.map za2).length)],.row v.v 6 36 ((zta h g t1 t2 x).map zb9):: .box b4 28 (x3 h):: [],[]⟩) ⟨none,0,0⟩ (w9 (k6 6 36) es) ?_
 intro x v lx
 refine rn ?_;refine z7 rfl (fun hc30=> ?_) (fun hc30=> ?_)
 ·have hx:x < h.os.length:=by have q:=oT hc30;rw [oM] at q;omega
  refine rn ?_;refine zet h.evs.length (fun i v=>⟨[(35,iv i),(9,.v v.v),(1,iv g),(2,iv t1),(3,iv t2),(4,pZ b4),(10,bv (rdA g)),(11,bv (rdB g)),(12,iv x),(28,iv (h.os.map za2).length),(29,iv x),(33,zlg h.evs),(34,iv (h.evs.map evR).length)],.row v.v 6 36 ((zta h g t1 t2 x++bG h g t1 t2 x i).map zb9):: .box b4 28 (x3 h):: [],[]⟩) v (by rw [show bG h g t1 t2 x 0= [] from rfl,List.append_nil];exact es) ?_
  intro i v li
  refine rn ?_;refine z7 rfl (fun hc36=> ?_) (fun hc36=> ?_)
  ·have hi:=zan hc36
   have ri:=zaf (f:=evR) hi
   refine rn ?_;refine z8 rfl (y6 rfl fun b14=> ?_)
   refine rn ?_;refine qv rfl rfl (y4 rfl rfl (v6 (yay h la hc hE i x hi hx (rdA g)) (Sbs.refl _))) ?_
   refine rn ?_;refine x4 (fun hg10_4=> ?_) (fun hg10_4=> ?_)
   ·refine rn ?_;refine zdi rfl ?_;have hn:h.evs[i].t≠t1∨(zfk h x (rdA g) h.evs[i])=none:=by
     first|(have w:=hg10_4;exact .inl (by simpa using w))|(have w:=hc55;exact .inr (by simpa using w))
    refine rn ?_;exact ⟨hi,v,by rw [ywd hi hn];exact eA⟩
   ·refine rn ?_;refine z7 rfl (fun hc55=> ?_) (fun hc55=> ?_)
    ·have hn:h.evs[i].t≠t1∨(zfk h x (rdA g) h.evs[i])=none:=by
      first|(have w:=hg10_4;exact .inl (by simpa using w))|(have w:=hc55;exact .inr (by simpa using w))
     refine rn ?_;exact ⟨hi,v,by rw [ywd hi hn];exact eA⟩
    ·have ht1:h.evs[i].t=t1:=by simpa using hg10_4
     obtain ⟨r1,hr1⟩:∃r,(zfk h x (rdA g) h.evs[i])=some r:=Option.isSome_iff_exists.1 (by simpa using hc55)
     rw [hr1,Option.getD_some,Option.isSome_some]
     refine rn ?_;refine zet h.evs.length (fun j v=>⟨[(59,iv j),(9,.v v.v),(1,iv g),(2,iv t1),(3,iv t2),(4,pZ b4),(10,bv (rdA g)),(11,bv (rdB g)),(12,iv x),(13,iv i),(15,iv r1),(28,iv (h.os.map za2).length),(29,iv x),(33,zlg h.evs),(34,iv (h.evs.map evR).length),(35,iv i),(57,zlg h.evs),(58,iv (h.evs.map evR).length)],.row v.v 6 36 ((zta h g t1 t2 x++bG h g t1 t2 x i++bJ h g t1 t2 x ⟨x,r1,i⟩ j).map zb9):: .box b14 66 (evR h.evs[i]):: .box b4 28 (x3 h):: [],[]⟩) v (by rw [show bJ h g t1 t2 x ⟨x,r1,i⟩ 0= [] from rfl,List.append_nil];exact w9 (zax (pt1 _ _ _)) es) ?_
     intro j v lj
     refine rn ?_;refine z7 rfl (fun hc60=> ?_) (fun hc60=> ?_)
     ·have hj:=zan hc60
      have rj:=zaf (f:=evR) hj
      refine rn ?_;refine z8 rfl (y6 rfl fun b18=> ?_)
      refine rn ?_;refine qv rfl rfl (y4 rfl rfl (v6 (yay h la hc hE j x hj hx (rdB g)) (Sbs.refl _))) ?_
      refine rn ?_;refine x4 (fun hg15_4=> ?_) (fun hg15_4=> ?_)
      ·refine rn ?_;refine x4 (fun hg15_7=> ?_) (fun hg15_7=> ?_)
       ·refine rn ?_;refine z7 rfl (fun hc83=> ?_) (fun hc83=> ?_)
        ·have ht2:h.evs[j].t=t2:=by simpa using hg15_4
         obtain ⟨r2,hr2⟩:∃r,(zfk h x (rdB g) h.evs[j])=some r:=Option.isSome_iff_exists.1 hg15_7
         have hlt:r2 < r1:=by have w:=oT hc83;rw [hr2] at w;exact w
         refine y5 ?_;refine q1 ?_;refine q1 ?_;refine q1 ?_;refine q1 ?_;refine q1 ?_;refine q1 ?_;refine q1 ?_;refine qq rfl rfl (zag (out:= [iv g,iv t1,iv t2,iv x,iv i,iv j]) rfl (by rfl)) ?_
         refine qv rfl rfl (q8 rfl rfl) ?_
         refine z8 rfl (u6 rfl rfl (by simp only [oM,List.length_cons,List.length_nil];have:=yj2 hE hc (g:=g) (t1:=t1) (t2:=t2) (x:=x) (a:=⟨x,r1,i⟩) (k:=x) (i:=i) (j:=j) (by omega) (by omega) (by omega);omega) rfl (fun s93=> ?_) (fun r hr=>by rw [List.mem_singleton.1 hr];rfl))
         refine zaa s93 fun sv hsv=> ?_
         subst hsv
         refine rn ?_;exact ⟨hj,sv,by rw [yw8 hj ht2 hr2 hlt,←List.append_assoc];simp only [List.map_append];exact eA⟩
        ·skip
         refine rn ?_;have ht2:h.evs[j].t=t2:=by simpa using hg15_4
         obtain ⟨r2,hr2⟩:∃r,(zfk h x (rdB g) h.evs[j])=some r:=Option.isSome_iff_exists.1 hg15_7
         have hlt:¬r2 < r1:=by have w:=oF hc83;rw [hr2] at w;exact w
         exact ⟨hj,v,by rw [yw9 hj ht2 hr2 hlt];exact eA⟩
       ·refine rn ?_;refine zeu rfl ?_;skip
        refine rn ?_;have hn2:(zfk h x (rdB g) h.evs[j])=none:=by have w:=hg15_7;simpa using w
        exact ⟨hj,v,by rw [ywc hj (.inr hn2)];exact eA⟩
      ·refine rn ?_;refine zeu rfl ?_;skip
       refine rn ?_;have hn2:h.evs[j].t≠t2:=by simpa using hg15_4
       exact ⟨hj,v,by rw [ywc hj (.inl hn2)];exact eA⟩
     ·have qj:=zap hc60 lj
      subst qj
      refine rn ?_;exact ⟨hi,v,by rw [yxa hi ht1 hr1,←List.append_assoc];exact eD 1⟩
  ·have qi:=zap hc36 li
   subst qi
   refine rn ?_;exact ⟨hx,v,by rw [ytb];exact eA⟩
 ·have qx:x=h.os.length:=by have q:=oF hc30;rw [oM] at q;omega
  refine rn ?_;exact u9 rfl (.trans (.perm (pt1 _ _ _) _) (.drop [_] _ _)) ⟨v,by rw [qx],rfl⟩
theorem yf2 (h:Hist) (la:Lim 3000 h) (hc:v8 h=0) (hE:h.evs.length≤70) (g t1 t2:Int):y8 Tryz.prog 61 [.agg (x3 h),iv g,iv t1,iv t2] [] (fun r h'=>h'= []∧r=zxi (zta h g t1 t2 h.os.length)):=(yax h la hc hE g t1 t2).ventR (by rintro _ _ ⟨v,rfl,rfl⟩;exact ⟨_,_,zcv,rfl,rfl⟩)
set_option maxHeartbeats 8000000 in
theorem zyc (h:Hist) (la:Lim 3000 h) (hc:v8 h=0) (hE:h.evs.length≤70) (s g:Int):y8 Tryz.prog 20 [.agg (x3 h),iv s,iv g] [] (fun r h'=>∃v:SV,h'= [.row v.v 6 36 ((eaS h s g).map zb9)]∧r= .v v.v):=by
 refine z6 Tryz.func20 rfl rfl rfl ?_
 have lE:=la.evs
 have lL:=zlx h s
 have lL3:(za0 h.evs s).length≤70:=by omega
 refine rn ?_;refine z8 rfl (x9 rfl rfl rfl fun b3=> ?_)
 refine rn ?_;refine qv rfl rfl (y4 rfl rfl (v6 (yas h (la.mono (by decide)) s) (Sbs.refl _))) ?_
 refine rn ?_;refine zet (za0 h.evs s).length (fun k v=>⟨[(18,iv k),(7,.v v.v),(2,iv g),(3,pZ b3),(8,zbz (za0 h.evs s)),(16,zbz (za0 h.evs s)),(17,iv ((za0 h.evs s).map j8).length)],.row v.v 6 36 ((eL h g (za0 h.evs s) k).map zb9):: .box b3 28 (x3 h):: [],[]⟩) ⟨none,0,0⟩ (w9 (k6 6 36) es) ?_
 intro k v lk
 refine rn ?_;refine z7 rfl (fun hc19=> ?_) (fun hc19=> ?_)
 ·have hk:=zan hc19
  have rk:=zaf (f:=j8) hk
  refine zad ?_;refine j7 ?_;refine x8 ?_;refine zaj ?_;refine x8 (y5 ?_)
  refine q1 ?_;refine q1 ?_;refine q1 ?_;refine q1 ?_;refine q1 ?_;refine u0 (j7 ?_)
  refine x8 (y5 ?_)
  refine q1 ?_;refine q1 ?_;refine qq rfl rfl (zbe (k:=k) rfl rfl (by rw [oM];omega)) ?_
  rw [←List.map_take]
  refine rn ?_;refine zet ((za0 h.evs s).take k).length (fun i v=>⟨[(27,iv i),(7,.v v.v),(2,iv g),(3,pZ b3),(8,zbz (za0 h.evs s)),(10,iv (za0 h.evs s)[k]),(16,zbz (za0 h.evs s)),(17,iv ((za0 h.evs s).map j8).length),(18,iv k),(25,zbz ((za0 h.evs s).take k)),(26,iv (((za0 h.evs s).take k).map j8).length)],.row v.v 6 36 ((eL h g (za0 h.evs s) k++eR h g ((za0 h.evs s).take k) (za0 h.evs s)[k] i).map zb9):: .box b3 28 (x3 h):: [],[]⟩) v (by rw [show eR h g ((za0 h.evs s).take k) (za0 h.evs s)[k] 0= [] by simp [eR],List.append_nil];exact es) ?_
  intro i v li
  refine rn ?_;refine z7 rfl (fun hc28=> ?_) (fun hc28=> ?_)
  ·have hi:=zan hc28
   have ri:=zaf (f:=j8) hi
   have htl:=List.length_take_le k (za0 h.evs s)
   refine rn ?_;refine qv rfl rfl (y4 rfl rfl (v6 (yf2 h la hc hE g ((za0 h.evs s).take k)[i] (za0 h.evs s)[k]) (Sbs.refl _))) ?_
   refine z8 rfl (u6 rfl rfl (by have q1:=yju hE hc g lL3 (k:=k) (i:=i) (za0 h.evs s)[k] (by omega) (by omega);have q2:=ydt hE hc g ((za0 h.evs s).take k)[i] (za0 h.evs s)[k];simp only [oM];omega) rfl (fun s37=> ?_) (yh9 _))
   refine zaa s37 fun sv hsv=> ?_
   subst hsv
   refine rn ?_;exact ⟨hi,sv,by rw [yw7 hi,←List.append_assoc];simp only [List.map_append];exact eA⟩
  ·have qi:=zap hc28 li
   refine rn ?_;exact ⟨hk,v,by rw [ywa hk,qi];exact eA⟩
 ·have qk:=zap hc19 lk
  refine rn ?_;exact u9 rfl (.trans (.perm (pt1 _ _ _) _) (.drop [_] _ _)) ⟨v,by rw [←yjt,qk],rfl⟩
theorem zmn (h:Hist) (la:Lim 3000 h) (hc:v8 h=0) (hE:h.evs.length≤70) (s g:Int):y8 Tryz.prog 20 [.agg (x3 h),iv s,iv g] [] (fun r h'=>h'= []∧r=zxi (eaS h s g)):=(zyc h la hc hE s g).ventR (by rintro _ _ ⟨v,rfl,rfl⟩;exact ⟨_,_,zcv,rfl,rfl⟩)
theorem yuz {α:Type} {z:α} {l:List α} {k:Nat} (hk:k < l.length) (hz:z ∉ l.take k) (hn:l[k]≠z):z ∉ l.take (k+1):=by
 rw [List.take_succ_eq_append_getElem hk,List.mem_append,List.mem_singleton]
 exact fun q=>q.elim hz fun e=>hn e.symm
def isG (g:Int):Bool:=g==1||g==2||g==4||g==8
def hrK (h:Hist) (s:Int) (k:Nat):Int:=(zen.take k).foldl (fun n g=>if eaS h s g= [] then n+g else n) 0
theorem yr2 {h:Hist} {s:Int} {k:Nat} (hk:k < zen.length):hrK h s (k+1)=if eaS h s zen[k]= [] then hrK h s k+zen[k] else hrK h s k:=by
 rw [hrK,List.take_succ_eq_append_getElem hk,List.foldl_append];rfl
theorem yvz:∀b∈zen,0≤b∧b≤8:=by decide
theorem yr3 (h:Hist) (s:Int):∀k,k≤4→0≤hrK h s k∧hrK h s k≤15:=by
 intro k hk
 rcases (by omega:k=0∨k=1∨k=2∨k=3∨k=4) with rfl|rfl|rfl|rfl|rfl <;> simp only [hrK,zen,List.take,List.foldl_cons,List.foldl_nil] <;> repeat' split
 all_goals omega
theorem yl2 (h:Hist) (la:Lim 3000 h) (hc:v8 h=0) (hE:h.evs.length≤70) (s:Int) (z:Brch):y8 Tryz.prog 27 [.agg (x3 h),iv s,.agg (zb9 z)] [] (fun r h'=>h'= []∧r=bv (isG z.g && decide (z∈(eaS h s z.g)))):=by
 refine z6 Tryz.func27 rfl rfl rfl ?_
 have bl:=yod hE hc s z.g
 refine rn ?_;refine z8 rfl (x9 rfl rfl rfl fun b3=> ?_)
 refine z8 rfl (x9 rfl rfl rfl fun b5=> ?_)
 refine rn ?_;refine qv rfl rfl (y4 rfl rfl (v6 (zx8 z.g) (Sbs.refl _))) ?_
 refine rn ?_;refine z7 rfl (fun hc12=> ?_) (fun hc12=> ?_)
 ·have hg:isG z.g=false:=zpn hc12
  refine rn ?_;refine rq 2 ?_
  exact ⟨rfl,by rw [hg];rfl⟩
 ·have hg:isG z.g=true:=zpo hc12
  refine rn ?_;refine qv rfl rfl (y4 rfl rfl (v6 (zmn h la hc hE s z.g) (Sbs.refl _))) ?_
  refine rn ?_;refine zcj ((eaS h s z.g).length) (fun k:Nat=>z ∉ (eaS h s z.g).take k) (fun k=> [(19,iv k)]) [(5,_),(17,_),(18,_)] (by simp) ?_
  intro k lk zk
  refine rn ?_;refine z7 rfl (fun hc20=> ?_) (fun hc20=> ?_)
  ·have hk:=zan hc20
   have rk:=zaf (f:=zb9) hk
   refine rn ?_;refine z8 rfl (y6 rfl fun b8=> ?_)
   refine rn ?_;refine z7 rfl (fun hc25=> ?_) (fun hc25=> ?_)
   ·have hz:(eaS h s z.g)[k]=z:=eq_of_beq (by rw [←zs1];simpa using hc25)
    refine rn ?_;refine rq 3 ?_
    exact ⟨rfl,by rw [hg,decide_eq_true (by have w:=List.getElem_mem hk;rw [hz] at w;exact w)];rfl⟩
   ·have hz:¬(eaS h s z.g)[k]=z:=fun e=>by rw [←beq_iff_eq,←zs1] at e;simp [e] at hc25
    refine rn ?_;exact ⟨hk,yuz hk zk hz,eA⟩
  ·have qk:=zap hc20 lk
   refine rn ?_;refine rq 2 ?_
   exact ⟨rfl,by rw [hg,decide_eq_false (by rw [qk,List.take_length] at zk;exact zk)];rfl⟩
theorem yf1 (h:Hist) (la:Lim 3000 h) (hc:v8 h=0) (hE:h.evs.length≤70) (s:Int):y8 Tryz.prog 25 [.agg (x3 h),iv s] [] (fun r h'=>h'= []∧r=iv (zzi h s)):=by
 refine z6 Tryz.func25 rfl rfl rfl ?_
 refine rn ?_;refine z8 rfl (x9 rfl rfl rfl fun b2=> ?_)
 refine rn ?_;refine qv rfl rfl (q8 rfl rfl) ?_
 refine rn ?_;refine zbu 4 (fun _=>True) (fun k=>⟨[(10,iv (k:Nat)),(5,iv (hrK h s k)),(1,iv s),(2,pZ b2),(8,.list true 1 (zen.map j8)),(9,iv 4)],.box b2 28 (x3 h):: [],[]⟩) trivial es ?_
 intro k lk _
 refine rn ?_;refine z7 rfl (fun hc11=> ?_) (fun hc11=> ?_)
 ·have hk:k < 4:=by have q:=oT hc11;omega
  have rk:=zaf (f:=j8) (l:=zen) hk
  have hb:=yvz _ (List.getElem_mem (l:=zen) hk)
  have hin:=yr3 h s k lk
  refine rn ?_;refine qv rfl rfl (y4 rfl rfl (v6 (zmn h la hc hE s zen[k]) (Sbs.refl _))) ?_
  refine rn ?_;refine z7 rfl (fun hc19=> ?_) (fun hc19=> ?_)
  ·have hz:eaS h s zen[k]= []:=by have w:=hc19;simpa using w
   refine rn ?_;exact ⟨hk,trivial,by rw [yr2 hk,if_pos hz];exact eA⟩
  ·have hz:¬eaS h s zen[k]= []:=by have w:=hc19;intro e;rw [e] at w;simp at w
   refine rn ?_;exact ⟨hk,trivial,by rw [yr2 hk,if_neg hz];exact eA⟩
 ·have qk:k=4:=by have q:=oF hc11;omega
  refine rn ?_;refine rq 1 ?_
  exact ⟨rfl,by rw [qk];rfl⟩
def nmR (n:NV) (h:Hist) (L:List Res):List Res:= .row n.vT.v 1 9 (h.ts.map za2):: .row n.vS.v 1 9 (h.ss.map za2):: .row n.vO.v 1 9 (h.os.map za2):: .row n.vP.v 1 9 (h.ps.map za2)::L
def yn8 (e:Ev):List AV:= [iv e.kind,iv e.t,iv e.s,iv e.l,iv e.o,iv e.v.t,iv e.v.k,iv e.p,.v (.slice none 0 0)]
theorem yn9 {α:Type} [DecidableEq α] {l m:List α} {k:Nat} (h1:k < l.length) (h2:k < m.length) (h:l.take k=m.take k) (e:l[k]=m[k]):l.take (k+1)=m.take (k+1):=by
 rw [List.take_succ_eq_append_getElem h1,List.take_succ_eq_append_getElem h2,h,e]
theorem yu1 {α:Type} {l m:List α} {k:Nat} (h1:k < l.length) (h2:k < m.length) (e:l[k]≠m[k]):l≠m:=fun q=>e (by subst q;rfl)
theorem yoa {a b:Nat} (h:((a:Int) !=(b:Int))=false):a=b:=Int.ofNat.inj (by simpa using h)
theorem yn0 (h:Hist) (t:Int) {k:Nat} (hk:k < 4):zd2 k (zu0 h t)=zn6 h.os.length (zn0 h t (kdA (zc2 k))):=by
 rcases (by omega:k=0∨k=1∨k=2∨k=3) with rfl|rfl|rfl|rfl <;> rfl
theorem ylb (h:Hist) (t:Int) {k:Nat} (hk:k < 4):zh0 k (zu0 h t)=zn6 h.os.length (zn0 h t (kdB (zc2 k))):=by
 rcases (by omega:k=0∨k=1∨k=2∨k=3) with rfl|rfl|rfl|rfl <;> rfl
theorem yom (h:Hist) (t1 t2:Int) {k:Nat} (hk:k < 4):zkq k (zu0 h t1) (zu0 h t2)=yic h.os.length (zc2 k) t1 t2 (zn0 h t1 (kdA (zc2 k))) (zn0 h t2 (kdB (zc2 k))):=by
 rw [zkq,yn0 h t1 hk,ylb h t2 hk];rfl
theorem ydp (h:Hist) (s:Int) {k:Nat} (hk:k < 4):∀j,brW k (zao h s) j=brL h.os.length (zc2 k) (zy4 h s (zc2 k)) j
 |0=>rfl
 |j+1=>by
  rw [brW,brL,ydp h s hk j,zao,zy4,List.getElem?_map,List.getElem?_map]
  cases (za0 h.evs s)[j]? with
  |none=>rfl
  |some t2=>
   simp only [Option.map_some]
   rw [←List.map_take,←List.map_take,List.filterMap_map,List.filterMap_map]
   congr 1
   refine zqc fun t1 _=> ?_
   simp only [Function.comp,hdW]
   rw [yom h t1 t2 hk];rfl
theorem zng (h:Hist) (s:Int) {k:Nat} (hk:k < 4):brW k (zao h s) (zao h s).length=brS h s (zc2 k):=by
 rw [ydp h s hk,brS,zao,zy4,oM,oM]
theorem yln {h:Hist} {s g:Int} (he:znl h s g=0):seB h s g=brS h s g:=by
 obtain ⟨_,_,k,hk,_,eB,eG⟩:=yd3 he
 rw [yfm he eG,zng h s hk,eB]
theorem ynn {h:Hist} {s:Int} (hl:ze4 h s=0):haO h s=yo9 h s:=by
 rw [haO,if_pos hl]
 simp only [haK,yo9,List.foldl_cons,List.foldl_nil]
 rw [zng h s (by decide:0 < 4),zng h s (by decide:1 < 4),zng h s (by decide:2 < 4),zng h s (by decide:3 < 4)]
 simp only [show zc2 0=1 from rfl,show zc2 1=2 from rfl,show zc2 2=4 from rfl,show zc2 3=8 from rfl]
 by_cases h1:brS h s 1= [] <;> by_cases h2:brS h s 2= [] <;> by_cases h3:brS h s 4= [] <;> by_cases h4:brS h s 8= [] <;> simp only [h1,h2,h3,h4,if_true,if_false,↓reduceIte] <;> decide
theorem zp3 {n m:Int}:isB n m=true ↔ 0≤n∧n < m:=by unfold isB;simp
theorem yby {h:Hist} (hc:v8 h=0) {s:Int} (hb:isB s h.ss.length=true):ze4 h s=0:=ydz hc (zp3.1 hb)
theorem ysg {g:Int}:zp9 g < 0 ↔ isG g=false:=by
 unfold zp9 isG
 by_cases h1:g=1
 ·subst h1;decide
 by_cases h2:g=2
 ·subst h2;decide
 by_cases h3:g=4
 ·subst h3;decide
 by_cases h4:g=8
 ·subst h4;decide
 simp [h1,h2,h3,h4]
theorem yj8 {h:Hist} (hc:v8 h=0) {s:Int} (hb:isB s h.ss.length=true) {g:Int} (hg:isG g=true):znl h s g=0:=(zks (yby hc hb) fun q=>by rw [ysg.1 q] at hg;cases hg).1
theorem zjj {f g:Bool} (l m:List ByteArray) (hl:l.length≤4611686018427387904) (hm:m.length≤4611686018427387904):y8 Tryz.prog 62 [.list f 1 (l.map za2),.list g 1 (m.map za2)] [] (fun r h'=>h'= []∧r=bv (decide (l=m))):=
 (yfy l m hl hm).mono (fun r h' q=>⟨q.1,by rw [q.2,zgf zvu]⟩)
theorem zmm {f g:Bool} (l m:List Int) (hl:l.length≤4611686018427387904) (hm:m.length≤4611686018427387904):y8 Tryz.prog 64 [.list f 1 (l.map j8),.list g 1 (m.map j8)] [] (fun r h'=>h'= []∧r=bv (decide (l=m))):=
 (zx5 l m hl hm).mono (fun r h' q=>⟨q.1,by rw [q.2,zgf zjr]⟩)
theorem yau (a b:Ev) (ha:a.scan.length≤4611686018427387904) (hb:b.scan.length≤4611686018427387904):y8 Tryz.prog 63 [.agg (evR a),.agg (evR b)] [] (fun r h'=>h'= []∧r=bv (decide (a=b))):=
 (zfm a b ha hb).mono (fun r h' q=>⟨q.1,by rw [q.2,zuy]⟩)
theorem zc5 {a b:Hist} (h:a≠b):ztp a b=false:=by
 cases q:ztp a b with
 |false=>rfl
 |true=>exact absurd ((zmi a b).1 q) h
theorem ylo {a b:Hist} (h:a=b):ztp a b=true:=(zmi a b).2 h
theorem yl1 (a b:Hist) (la:Lim 4611686018427387904 a) (lb:Lim 4611686018427387904 b):y8 Tryz.prog 22 [.agg (x3 a),.agg (x3 b)] [] (fun r h'=>h'= []∧r=bv (ztp a b)):=by
 refine z6 Tryz.func22 rfl rfl rfl ?_
 refine rn ?_;refine z8 rfl (x9 rfl rfl rfl fun b2=> ?_)
 refine z8 rfl (x9 rfl rfl rfl fun b3=> ?_)
 refine rn ?_;refine qv rfl rfl (y4 rfl rfl (v6 (zjj a.ts b.ts la.ts lb.ts) (Sbs.refl _))) ?_
 refine rn ?_;refine x4 (fun hg1_6=> ?_) (fun hg1_6=> ?_)
 ·refine rn ?_;refine zdi rfl ?_;refine rn ?_;exact u9 rfl (.drop [_,_] _ _) ⟨rfl,congrArg bv (Eq.symm (zc5 fun q=>by subst q;simp_all))⟩
 ·refine rn ?_;refine qv rfl rfl (y4 rfl rfl (v6 (zjj a.ss b.ss la.ss lb.ss) (Sbs.refl _))) ?_
  refine rn ?_;refine x4 (fun hg1_14=> ?_) (fun hg1_14=> ?_)
  ·refine rn ?_;refine zdi rfl ?_;refine rn ?_;exact u9 rfl (.drop [_,_] _ _) ⟨rfl,congrArg bv (Eq.symm (zc5 fun q=>by subst q;simp_all))⟩
  ·refine rn ?_;refine qv rfl rfl (y4 rfl rfl (v6 (zjj a.os b.os la.os lb.os) (Sbs.refl _))) ?_
   refine rn ?_;refine x4 (fun hg1_22=> ?_) (fun hg1_22=> ?_)
   ·refine rn ?_;refine zdi rfl ?_;refine rn ?_;exact u9 rfl (.drop [_,_] _ _) ⟨rfl,congrArg bv (Eq.symm (zc5 fun q=>by subst q;simp_all))⟩
   ·refine rn ?_;refine qv rfl rfl (y4 rfl rfl (v6 (zjj a.ps b.ps la.ps lb.ps) (Sbs.refl _))) ?_
    refine rn ?_;refine x4 (fun hg1_30=> ?_) (fun hg1_30=> ?_)
    ·refine rn ?_;refine zdi rfl ?_;refine rn ?_;exact u9 rfl (.drop [_,_] _ _) ⟨rfl,congrArg bv (Eq.symm (zc5 fun q=>by subst q;simp_all))⟩
    ·refine rn ?_;refine x4 (fun hg1_39=> ?_) (fun hg1_39=> ?_)
     ·refine rn ?_;refine zdi rfl ?_;refine rn ?_;exact u9 rfl (.drop [_,_] _ _) ⟨rfl,congrArg bv (Eq.symm (zc5 fun q=>by subst q;simp_all))⟩
     ·refine rn ?_;refine x4 (fun hg1_48=> ?_) (fun hg1_48=> ?_)
      ·refine rn ?_;refine zdi rfl ?_;refine rn ?_;exact u9 rfl (.drop [_,_] _ _) ⟨rfl,congrArg bv (Eq.symm (zc5 fun q=>by subst q;simp_all))⟩
      ·refine rn ?_;refine x4 (fun hg1_57=> ?_) (fun hg1_57=> ?_)
       ·refine rn ?_;refine zdi rfl ?_;refine rn ?_;exact u9 rfl (.drop [_,_] _ _) ⟨rfl,congrArg bv (Eq.symm (zc5 fun q=>by subst q;simp_all))⟩
       ·refine rn ?_;refine z7 rfl (fun hc78=> ?_) (fun hc78=> ?_)
        ·refine rn ?_;exact u9 rfl (.drop [_,_] _ _) ⟨rfl,congrArg bv (Eq.symm (zc5 fun q=>by subst q;simp_all))⟩
        ·have Ets:a.ts=b.ts:=by simp_all
         have Ess:a.ss=b.ss:=by simp_all
         have Eos:a.os=b.os:=by simp_all
         have Eps:a.ps=b.ps:=by simp_all
         have Levs:a.evs.length=b.evs.length:=by simp at *;omega
         have Lords:a.ords.length=b.ords.length:=by simp at *;omega
         have Lmats:a.mats.length=b.mats.length:=by simp at *;omega
         have Lwants:a.wants.length=b.wants.length:=by simp at *;omega
         refine rn ?_;refine u5 (fun k:Nat=>k≤a.evs.length∧a.evs.take k=b.evs.take k) (fun k=>⟨[(82,iv k),(81,iv (a.evs.map evR).length),(2,pZ b2),(3,pZ b3)],[.box b3 28 (x3 b),.box b2 28 (x3 a)],[]⟩) (fun k=>a.evs.length - k) 0 ⟨Nat.zero_le _,by simp⟩
          (w6 (.cons _ _ _ rfl (.cons _ _ _ rfl (.cons _ _ _ rfl (.cons _ _ _ rfl (.nil)))))) ?_
         rintro k ⟨hk,ht⟩
         refine rn ?_;refine z7 rfl (fun hc83=> ?_) (fun hc83=> ?_)
         ·have hbig:=la.evs
          have hk2:k < a.evs.length:=by simpa using hc83
          have hk3:k < b.evs.length:=by omega
          obtain ⟨x,hx0⟩:∃x,x=a.evs[k]:=⟨_,rfl⟩
          obtain ⟨y,hy0⟩:∃y,y=b.evs[k]:=⟨_,rfl⟩
          have hrow1:(a.evs.map evR)[k]? =some (evR x):=by rw [hx0];simp [hk2]
          have hrow2:(b.evs.map evR)[k]? =some (evR y):=by rw [hy0];simp [hk3]
          refine rn ?_;refine j4 10 rfl ?_
          refine rn ?_;refine qv rfl rfl (y4 rfl rfl (v6 (yau x y (la.scans _ (by rw [hx0];exact List.getElem_mem _)) (lb.scans _ (by rw [hy0];exact List.getElem_mem _))) (Sbs.refl _))) ?_
          refine rn ?_;refine z7 rfl (fun hc96=> ?_) (fun hc96=> ?_)
          ·have hne:x≠y:=by clear hx0 hy0 hrow1 hrow2 ht;intro q;subst q;simp_all
           refine rn ?_;exact u9 rfl (.drop [_,_] _ _) ⟨rfl,congrArg bv (Eq.symm (zc5 fun q=>by subst q;exact hne (hx0.trans hy0.symm)))⟩
          ·have hxy:x=y:=by simpa using hc96
           refine rn ?_;exact ⟨k+1,⟨by omega,by rw [List.take_succ_eq_append_getElem hk2,List.take_succ_eq_append_getElem hk3,ht,←hx0,←hy0,hxy]⟩,(w6 (.cons _ _ _ rfl (.cons _ _ _ rfl (.cons _ _ _ rfl (.cons _ _ _ rfl (.nil)))))),by omega⟩
         ·have hk2:¬k < a.evs.length:=by simpa using hc83
          have Eevs:a.evs=b.evs:=by
           have hk3:k=a.evs.length:=by omega
           rw [hk3,List.take_length] at ht
           rw [ht,Levs,List.take_length]
          clear ht hk
          refine rn ?_;refine u5 (fun k:Nat=>k≤a.ords.length∧a.ords.take k=b.ords.take k) (fun k=>⟨[(101,iv k),(100,iv (a.ords.map zcy).length),(99,zpl a.ords),(2,pZ b2),(3,pZ b3)],[.box b3 28 (x3 b),.box b2 28 (x3 a)],[]⟩) (fun k=>a.ords.length - k) 0 ⟨Nat.zero_le _,by simp⟩
           (w6 (.cons _ _ _ rfl (.cons _ _ _ rfl (.cons _ _ _ rfl (.cons _ _ _ rfl (.cons _ _ _ rfl (.nil))))))) ?_
          rintro k ⟨hk,ht⟩
          refine rn ?_;refine z7 rfl (fun hc102=> ?_) (fun hc102=> ?_)
          ·have hbig:=la.ords
           have hk2:k < a.ords.length:=by simpa using hc102
           have hk3:k < b.ords.length:=by omega
           obtain ⟨x,hx0⟩:∃x,x=a.ords[k]:=⟨_,rfl⟩
           obtain ⟨y,hy0⟩:∃y,y=b.ords[k]:=⟨_,rfl⟩
           have hrow1:(a.ords.map zcy)[k]? =some (zcy x):=by rw [hx0];simp [hk2]
           have hrow2:(b.ords.map zcy)[k]? =some (zcy y):=by rw [hy0];simp [hk3]
           refine rn ?_;refine z8 rfl (y6 rfl fun b7=> ?_)
           refine rn ?_;refine z8 rfl (y6 rfl fun b8=> ?_)
           refine rn ?_;refine x4 (fun hg13_5=> ?_) (fun hg13_5=> ?_)
           ·refine rn ?_;refine zdi rfl ?_;have hne:x≠y:=by clear hx0 hy0 hrow1 hrow2 ht;intro q;subst q;simp_all
            refine rn ?_;exact u9 rfl (.drop [_,_,_,_] _ _) ⟨rfl,congrArg bv (Eq.symm (zc5 fun q=>by subst q;exact hne (hx0.trans hy0.symm)))⟩
           ·refine rn ?_;refine qv rfl rfl (y4 rfl rfl (v6 (zmm x.ts y.ts (la.ordts _ (by rw [hx0];exact List.getElem_mem _)) (lb.ordts _ (by rw [hy0];exact List.getElem_mem _))) (Sbs.refl _))) ?_
            refine rn ?_;refine z7 rfl (fun hc123=> ?_) (fun hc123=> ?_)
            ·have hne:x≠y:=by clear hx0 hy0 hrow1 hrow2 ht;intro q;subst q;simp_all
             refine rn ?_;exact u9 rfl (.drop [_,_,_,_] _ _) ⟨rfl,congrArg bv (Eq.symm (zc5 fun q=>by subst q;exact hne (hx0.trans hy0.symm)))⟩
            ·have hxy:x=y:=by clear hx0 hy0 hrow1 hrow2 ht;cases x;cases y;simp_all
             refine rn ?_;exact ⟨k+1,⟨by omega,by rw [List.take_succ_eq_append_getElem hk2,List.take_succ_eq_append_getElem hk3,ht,←hx0,←hy0,hxy]⟩,(w9 (zba (h1:= [_,_])) (w6 (.cons _ _ _ rfl (.cons _ _ _ rfl (.cons _ _ _ rfl (.cons _ _ _ rfl (.cons _ _ _ rfl (.nil)))))))),by omega⟩
          ·have hk2:¬k < a.ords.length:=by simpa using hc102
           have Eords:a.ords=b.ords:=by
            have hk3:k=a.ords.length:=by omega
            rw [hk3,List.take_length] at ht
            rw [ht,Lords,List.take_length]
           clear ht hk
           refine rn ?_;refine u5 (fun k:Nat=>k≤a.mats.length∧a.mats.take k=b.mats.take k) (fun k=>⟨[(128,iv k),(127,iv (a.mats.map zc7).length),(126,zpx a.mats),(2,pZ b2),(3,pZ b3)],[.box b3 28 (x3 b),.box b2 28 (x3 a)],[]⟩) (fun k=>a.mats.length - k) 0 ⟨Nat.zero_le _,by simp⟩
            (w6 (.cons _ _ _ rfl (.cons _ _ _ rfl (.cons _ _ _ rfl (.cons _ _ _ rfl (.cons _ _ _ rfl (.nil))))))) ?_
           rintro k ⟨hk,ht⟩
           refine rn ?_;refine z7 rfl (fun hc129=> ?_) (fun hc129=> ?_)
           ·have hbig:=la.mats
            have hk2:k < a.mats.length:=by simpa using hc129
            have hk3:k < b.mats.length:=by omega
            obtain ⟨x,hx0⟩:∃x,x=a.mats[k]:=⟨_,rfl⟩
            obtain ⟨y,hy0⟩:∃y,y=b.mats[k]:=⟨_,rfl⟩
            have hrow1:(a.mats.map zc7)[k]? =some (zc7 x):=by rw [hx0];simp [hk2]
            have hrow2:(b.mats.map zc7)[k]? =some (zc7 y):=by rw [hy0];simp [hk3]
            refine rn ?_;refine z8 rfl (y6 rfl fun b10=> ?_)
            refine rn ?_;refine z8 rfl (y6 rfl fun b11=> ?_)
            refine rn ?_;refine x4 (fun hg20_5=> ?_) (fun hg20_5=> ?_)
            ·refine rn ?_;refine zdi rfl ?_;have hne:x≠y:=by clear hx0 hy0 hrow1 hrow2 ht;intro q;subst q;simp_all
             refine rn ?_;exact u9 rfl (.drop [_,_,_,_] _ _) ⟨rfl,congrArg bv (Eq.symm (zc5 fun q=>by subst q;exact hne (hx0.trans hy0.symm)))⟩
            ·refine rn ?_;refine x4 (fun hg20_12=> ?_) (fun hg20_12=> ?_)
             ·refine rn ?_;refine zdi rfl ?_;have hne:x≠y:=by clear hx0 hy0 hrow1 hrow2 ht;intro q;subst q;simp_all
              refine rn ?_;exact u9 rfl (.drop [_,_,_,_] _ _) ⟨rfl,congrArg bv (Eq.symm (zc5 fun q=>by subst q;exact hne (hx0.trans hy0.symm)))⟩
             ·refine rn ?_;refine x4 (fun hg20_19=> ?_) (fun hg20_19=> ?_)
              ·refine rn ?_;refine zdi rfl ?_;have hne:x≠y:=by clear hx0 hy0 hrow1 hrow2 ht;intro q;subst q;simp_all
               refine rn ?_;exact u9 rfl (.drop [_,_,_,_] _ _) ⟨rfl,congrArg bv (Eq.symm (zc5 fun q=>by subst q;exact hne (hx0.trans hy0.symm)))⟩
              ·refine rn ?_;refine qv rfl rfl (y4 rfl rfl (v6 (zmm x.ts y.ts (la.matts _ (by rw [hx0];exact List.getElem_mem _)) (lb.matts _ (by rw [hy0];exact List.getElem_mem _))) (Sbs.refl _))) ?_
               refine rn ?_;refine z7 rfl (fun hc164=> ?_) (fun hc164=> ?_)
               ·have hne:x≠y:=by clear hx0 hy0 hrow1 hrow2 ht;intro q;subst q;simp_all
                refine rn ?_;exact u9 rfl (.drop [_,_,_,_] _ _) ⟨rfl,congrArg bv (Eq.symm (zc5 fun q=>by subst q;exact hne (hx0.trans hy0.symm)))⟩
               ·have hxy:x=y:=by clear hx0 hy0 hrow1 hrow2 ht;cases x;cases y;simp_all
                refine rn ?_;exact ⟨k+1,⟨by omega,by rw [List.take_succ_eq_append_getElem hk2,List.take_succ_eq_append_getElem hk3,ht,←hx0,←hy0,hxy]⟩,(w9 (zba (h1:= [_,_])) (w6 (.cons _ _ _ rfl (.cons _ _ _ rfl (.cons _ _ _ rfl (.cons _ _ _ rfl (.cons _ _ _ rfl (.nil)))))))),by omega⟩
           ·have hk2:¬k < a.mats.length:=by simpa using hc129
            have Emats:a.mats=b.mats:=by
             have hk3:k=a.mats.length:=by omega
             rw [hk3,List.take_length] at ht
             rw [ht,Lmats,List.take_length]
            clear ht hk
            refine rn ?_;refine u5 (fun k:Nat=>k≤a.wants.length∧a.wants.take k=b.wants.take k) (fun k=>⟨[(169,iv k),(168,iv (a.wants.map zco).length),(2,pZ b2),(3,pZ b3)],[.box b3 28 (x3 b),.box b2 28 (x3 a)],[]⟩) (fun k=>a.wants.length - k) 0 ⟨Nat.zero_le _,by simp⟩
             (w6 (.cons _ _ _ rfl (.cons _ _ _ rfl (.cons _ _ _ rfl (.cons _ _ _ rfl (.nil)))))) ?_
            rintro k ⟨hk,ht⟩
            refine rn ?_;refine z7 rfl (fun hc170=> ?_) (fun hc170=> ?_)
            ·have hbig:=la.wants
             have hk2:k < a.wants.length:=by simpa using hc170
             have hk3:k < b.wants.length:=by omega
             obtain ⟨x,hx0⟩:∃x,x=a.wants[k]:=⟨_,rfl⟩
             obtain ⟨y,hy0⟩:∃y,y=b.wants[k]:=⟨_,rfl⟩
             have hrow1:(a.wants.map zco)[k]? =some (zco x):=by rw [hx0];simp [hk2]
             have hrow2:(b.wants.map zco)[k]? =some (zco y):=by rw [hy0];simp [hk3]
             refine rn ?_;refine j4 10 rfl ?_
             refine rn ?_;refine z7 rfl (fun hc182=> ?_) (fun hc182=> ?_)
             ·have hne:x≠y:=by clear hx0 hy0 hrow1 hrow2 ht;intro q;subst q;simp_all
              refine rn ?_;exact u9 rfl (.drop [_,_] _ _) ⟨rfl,congrArg bv (Eq.symm (zc5 fun q=>by subst q;exact hne (hx0.trans hy0.symm)))⟩
             ·have hxy:x=y:=by clear hx0 hy0 hrow1 hrow2 ht;cases x;cases y;simp_all
              refine rn ?_;exact ⟨k+1,⟨by omega,by rw [List.take_succ_eq_append_getElem hk2,List.take_succ_eq_append_getElem hk3,ht,←hx0,←hy0,hxy]⟩,(w6 (.cons _ _ _ rfl (.cons _ _ _ rfl (.cons _ _ _ rfl (.cons _ _ _ rfl (.nil)))))),by omega⟩
            ·have hk2:¬k < a.wants.length:=by simpa using hc170
             have Ewants:a.wants=b.wants:=by
              have hk3:k=a.wants.length:=by omega
              rw [hk3,List.take_length] at ht
              rw [ht,Lwants,List.take_length]
             clear ht hk
             refine rn ?_;exact u9 rfl (.drop [_,_] _ _) ⟨rfl,congrArg bv (Eq.symm (ylo (by cases a;cases b;simp_all)))⟩
theorem yp3 (h:Hist) (la:Lim 4611686018427387904 h):y8 Tryz.prog 22 [.agg (x3 h),.agg (x3 h)] [] (fun r h'=>h'= []∧r=bv true):=(yl1 h h la la).mono fun _ _ q=>⟨q.1,by rw [q.2,zx0]⟩
end Go.Proofs
namespace Go.Ab
open Go
section
variable {P:Program} {h:List Res} {f:Operand→Option AV} {dst:Option Tmp} {ty:TypeId} {pos:String} {after:Array Edge} {guard:Option (Nat×Bool)} {x:Operand}
theorem yi5 {T T':TypeId} {k:IntKind} {a b c:Int} {y:Operand} (hx:f x=some (.v (.int k a))) (hy:f y=some (.v (.int k b))) (hb:b≠0) (hc:a.tmod b=c):
 QR P h f ⟨dst,.binOp .rem T x y T',ty,pos,after,guard⟩ (.v (.int k c)):=fun X ρ w he=>by
 refine ⟨_,run_v _ ?_,.v _⟩
 rw [(he.rel x _ hx).v_eq,(he.rel y _ hy).v_eq,zdt]
 simp [binOp,Op.intDiv,hb,hc]
end
end Go.Ab
set_option maxRecDepth 10000
namespace Go.Proofs
open Go Go.Ab
attribute [local irreducible] QR QV OE zcz aw zdg zbs zbh za1 thn zfx zed jch zfd
open Go.H
theorem take_min {α β:Type} {f:α→β} (l:List α) (n:Nat):(l.map f).take (min (l.map f).length n)=(l.take n).map f:=by
 rw [←List.map_take,oM]
 congr 1
 by_cases h:l.length≤n
 ·rw [Nat.min_eq_left h,List.take_length,List.take_of_length_le h]
 ·rw [Nat.min_eq_right (by omega)]
theorem ypz:∀{k:Nat},k < 4→zn9 .shl .i64 1 (k:Nat)=some (zc2 k)
 |0,_=>rfl
 |1,_=>rfl
 |2,_=>rfl
 |3,_=>rfl
end Go.Proofs
