/- The walk of the reference's test of an event. Conditions: none. -/
import Derived.Test.YtfmcbdjnmlcacaaGreatDoorWJsI
set_option maxHeartbeats 4000000
set_option linter.unusedSectionVars false
set_option linter.unusedSimpArgs false
set_option linter.unusedVariables false
set_option maxRecDepth 10000
namespace Go.Proofs
open Go Go.Ab
attribute [local irreducible] QR QV OE zcr aw zdc zdn zbj zcg thn zff
open Go.H
theorem bvz0_9917 {a b:Bool} (h:a=b:=by first|(simp only [zky,zv2, *,Bool.true_and,Bool.false_and,Bool.and_false,Bool.and_true,Bool.true_or,Bool.or_false,Bool.false_or,Bool.or_true,if_true,if_false,Bool.false_eq_true,Bool.not_true,Bool.not_false];done)|(simp_all [zky,zv2];done)|(simp_all [zky,zv2] <;> omega)):bv a=bv b:=congrArg bv h
theorem zyt (h:Hist) (e:Ev) (hl:e.scan.length≤4611686018427387904):y7 Tryz.prog 164 [.agg (y9 h),.agg (evR e)] [] (fun r h'=>h'= []∧r=bv (zky h e)):=by
 refine z6 Tryz.func164 rfl rfl rfl ?_
 refine rn ?_;refine z8 rfl (w8 rfl rfl rfl fun b2=> ?_)
 refine z8 rfl (w8 rfl rfl rfl fun b3=> ?_)
 refine rn ?_;refine qv rfl rfl (y2 rfl rfl (u3 (zjc _ _) (Sbs.refl _))) ?_
 refine rn ?_;refine z7 rfl (fun hc16=> ?_) (fun hc16=> ?_)
 ·refine rn ?_;exact j9 rfl (.drop [_,_] _ _) ⟨rfl,bvz0_9917⟩
 ·refine rn ?_;refine z8 rfl (y5 rfl fun b6=> ?_)
  refine rn ?_;refine z7 rfl (fun hc24=> ?_) (fun hc24=> ?_)
  ·refine rn ?_;refine zc1 6 [(b6,60,_)] rfl (List.perm_append_comm (l₁:= [_])) ?_
   refine rn ?_;refine dw 0 rfl rfl rfl rfl rfl (Nat.le_of_ble_eq_true rfl) ?_
   refine rn2 ?_;show zcr _ _ _ _ _ _ ⟨_,.box b6 60 [iv e.kind,iv e.t,iv e.s,iv 0,iv 0,iv 0,iv 0,iv 0,.v (.slice none 0 0)]:: .box b3 60 (evR e):: .box b2 28 (y9 h):: [],_⟩
   refine rn0 ?_;refine w9 ?_;show aw _ _ _ _ _ ⟨_,.box b6 60 [iv e.kind,iv e.t,iv e.s,iv e.l,iv 0,iv 0,iv 0,iv 0,.v (.slice none 0 0)]:: .box b3 60 (evR e):: .box b2 28 (y9 h):: [],_⟩
   refine rn ?_;refine qv rfl rfl (y2 rfl rfl (u3 (zgt ⟨e.kind,e.t,e.s,e.l,0,⟨0,0⟩,0,[]⟩ e (by simp [hl]) hl) (by exact ⟨(by exact Sb.aggs (by exact ⟨.refl _,.refl _,.refl _,.refl _,.refl _,.refl _,.refl _,.refl _,.nil _ _,trivial⟩)),.refl _,trivial⟩))) ?_
   refine rn ?_;refine w7 (fun hg8_3=> ?_) (fun hg8_3=> ?_)
   ·refine rn ?_;refine qv rfl rfl (y2 rfl rfl (u3 (zjc _ _) (Sbs.refl _))) ?_
    refine rn ?_;refine w7 (fun hg8_11=> ?_) (fun hg8_11=> ?_)
    ·refine rn ?_;refine qv rfl rfl (y2 rfl rfl (u3 (ywl _) (Sbs.refl _))) ?_
     refine rn ?_;exact j9 rfl (.drop [_,_,_] _ _) ⟨rfl,bvz0_9917⟩
    ·refine rn ?_;exact j9 rfl (.drop [_,_,_] _ _) ⟨rfl,bvz0_9917⟩
   ·refine rn ?_;exact j9 rfl (.drop [_,_,_] _ _) ⟨rfl,bvz0_9917⟩
  ·refine rn ?_;refine z7 rfl (fun hc48=> ?_) (fun hc48=> ?_)
   ·refine rn ?_;refine z7 rfl (fun hc48=> ?_) (fun hc48=> ?_)
    ·refine rn ?_;refine zc1 6 [(b6,60,_)] rfl (List.perm_append_comm (l₁:= [_])) ?_
     refine rn ?_;refine dw 0 rfl rfl rfl rfl rfl (Nat.le_of_ble_eq_true rfl) ?_
     refine rn2 ?_;show zcr _ _ _ _ _ _ ⟨_,.box b6 60 [iv e.kind,iv e.t,iv 0,iv 0,iv e.o,iv 0,iv 0,iv 0,.v (.slice none 0 0)]:: .box b3 60 (evR e):: .box b2 28 (y9 h):: [],_⟩
     refine rn0 ?_;refine w9 ?_;refine w9 ?_;show aw _ _ _ _ _ ⟨_,.box b6 60 [iv e.kind,iv e.t,iv 0,iv 0,iv e.o,iv e.v.t,iv e.v.k,iv 0,.v (.slice none 0 0)]:: .box b3 60 (evR e):: .box b2 28 (y9 h):: [],_⟩
     refine rn ?_;refine w7 (fun hg12_3=> ?_) (fun hg12_3=> ?_)
     ·refine rn ?_;refine w7 (fun hg12_8=> ?_) (fun hg12_8=> ?_)
      ·refine rn ?_;refine zfp rfl ?_;refine rn ?_;exact j9 rfl (.drop [_,_,_] _ _) ⟨rfl,bvz0_9917⟩
      ·refine rn ?_;refine z7 rfl (fun hc73=> ?_) (fun hc73=> ?_)
       ·refine rn ?_;exact j9 rfl (.drop [_,_,_] _ _) ⟨rfl,bvz0_9917⟩
       ·refine rn ?_;refine qv rfl rfl (y2 rfl rfl (u3 (zgt ⟨e.kind,e.t,0,0,e.o,e.v,0,[]⟩ e (by simp [hl]) hl) (by exact ⟨(by exact Sb.aggs (by exact ⟨.refl _,.refl _,.refl _,.refl _,.refl _,.refl _,.refl _,.refl _,.nil _ _,trivial⟩)),.refl _,trivial⟩))) ?_
        refine rn ?_;refine w7 (fun hg14_3=> ?_) (fun hg14_3=> ?_)
        ·refine rn ?_;refine qv rfl rfl (y2 rfl rfl (u3 (zjc _ _) (Sbs.refl _))) ?_
         refine rn ?_;refine w7 (fun hg14_11=> ?_) (fun hg14_11=> ?_)
         ·refine rn ?_;refine qv rfl rfl (y2 rfl rfl (u3 (zgb e.v _) (Sbs.refl _))) ?_
          refine rn ?_;exact j9 rfl (.drop [_,_,_] _ _) ⟨rfl,bvz0_9917⟩
         ·refine rn ?_;exact j9 rfl (.drop [_,_,_] _ _) ⟨rfl,bvz0_9917⟩
        ·refine rn ?_;exact j9 rfl (.drop [_,_,_] _ _) ⟨rfl,bvz0_9917⟩
     ·refine rn ?_;refine zd9 rfl ?_;refine rn ?_;refine qv rfl rfl (y2 rfl rfl (u3 (zgt ⟨e.kind,e.t,0,0,e.o,e.v,0,[]⟩ e (by simp [hl]) hl) (by exact ⟨(by exact Sb.aggs (by exact ⟨.refl _,.refl _,.refl _,.refl _,.refl _,.refl _,.refl _,.refl _,.nil _ _,trivial⟩)),.refl _,trivial⟩))) ?_
      refine rn ?_;refine w7 (fun hg14_3=> ?_) (fun hg14_3=> ?_)
      ·refine rn ?_;refine qv rfl rfl (y2 rfl rfl (u3 (zjc _ _) (Sbs.refl _))) ?_
       refine rn ?_;refine w7 (fun hg14_11=> ?_) (fun hg14_11=> ?_)
       ·refine rn ?_;refine qv rfl rfl (y2 rfl rfl (u3 (zgb e.v _) (Sbs.refl _))) ?_
        refine rn ?_;exact j9 rfl (.drop [_,_,_] _ _) ⟨rfl,bvz0_9917⟩
       ·refine rn ?_;exact j9 rfl (.drop [_,_,_] _ _) ⟨rfl,bvz0_9917⟩
      ·refine rn ?_;exact j9 rfl (.drop [_,_,_] _ _) ⟨rfl,bvz0_9917⟩
    ·first|cases hc48|exact absurd hc48 (by decide)|(exfalso;simp_all;done)
   ·refine rn ?_;refine z7 rfl (fun hc48=> ?_) (fun hc48=> ?_)
    ·refine rn ?_;refine zc1 6 [(b6,60,_)] rfl (List.perm_append_comm (l₁:= [_])) ?_
     refine rn ?_;refine dw 0 rfl rfl rfl rfl rfl (Nat.le_of_ble_eq_true rfl) ?_
     refine rn2 ?_;show zcr _ _ _ _ _ _ ⟨_,.box b6 60 [iv e.kind,iv e.t,iv 0,iv 0,iv e.o,iv 0,iv 0,iv 0,.v (.slice none 0 0)]:: .box b3 60 (evR e):: .box b2 28 (y9 h):: [],_⟩
     refine rn0 ?_;refine w9 ?_;refine w9 ?_;show aw _ _ _ _ _ ⟨_,.box b6 60 [iv e.kind,iv e.t,iv 0,iv 0,iv e.o,iv e.v.t,iv e.v.k,iv 0,.v (.slice none 0 0)]:: .box b3 60 (evR e):: .box b2 28 (y9 h):: [],_⟩
     refine rn ?_;refine w7 (fun hg12_3=> ?_) (fun hg12_3=> ?_)
     ·refine rn ?_;refine w7 (fun hg12_8=> ?_) (fun hg12_8=> ?_)
      ·refine rn ?_;refine zfp rfl ?_;refine rn ?_;exact j9 rfl (.drop [_,_,_] _ _) ⟨rfl,bvz0_9917⟩
      ·refine rn ?_;refine z7 rfl (fun hc73=> ?_) (fun hc73=> ?_)
       ·refine rn ?_;exact j9 rfl (.drop [_,_,_] _ _) ⟨rfl,bvz0_9917⟩
       ·refine rn ?_;refine qv rfl rfl (y2 rfl rfl (u3 (zgt ⟨e.kind,e.t,0,0,e.o,e.v,0,[]⟩ e (by simp [hl]) hl) (by exact ⟨(by exact Sb.aggs (by exact ⟨.refl _,.refl _,.refl _,.refl _,.refl _,.refl _,.refl _,.refl _,.nil _ _,trivial⟩)),.refl _,trivial⟩))) ?_
        refine rn ?_;refine w7 (fun hg14_3=> ?_) (fun hg14_3=> ?_)
        ·refine rn ?_;refine qv rfl rfl (y2 rfl rfl (u3 (zjc _ _) (Sbs.refl _))) ?_
         refine rn ?_;refine w7 (fun hg14_11=> ?_) (fun hg14_11=> ?_)
         ·refine rn ?_;refine qv rfl rfl (y2 rfl rfl (u3 (zgb e.v _) (Sbs.refl _))) ?_
          refine rn ?_;exact j9 rfl (.drop [_,_,_] _ _) ⟨rfl,bvz0_9917⟩
         ·refine rn ?_;exact j9 rfl (.drop [_,_,_] _ _) ⟨rfl,bvz0_9917⟩
        ·refine rn ?_;exact j9 rfl (.drop [_,_,_] _ _) ⟨rfl,bvz0_9917⟩
     ·refine rn ?_;refine zd9 rfl ?_;refine rn ?_;refine qv rfl rfl (y2 rfl rfl (u3 (zgt ⟨e.kind,e.t,0,0,e.o,e.v,0,[]⟩ e (by simp [hl]) hl) (by exact ⟨(by exact Sb.aggs (by exact ⟨.refl _,.refl _,.refl _,.refl _,.refl _,.refl _,.refl _,.refl _,.nil _ _,trivial⟩)),.refl _,trivial⟩))) ?_
      refine rn ?_;refine w7 (fun hg14_3=> ?_) (fun hg14_3=> ?_)
      ·refine rn ?_;refine qv rfl rfl (y2 rfl rfl (u3 (zjc _ _) (Sbs.refl _))) ?_
       refine rn ?_;refine w7 (fun hg14_11=> ?_) (fun hg14_11=> ?_)
       ·refine rn ?_;refine qv rfl rfl (y2 rfl rfl (u3 (zgb e.v _) (Sbs.refl _))) ?_
        refine rn ?_;exact j9 rfl (.drop [_,_,_] _ _) ⟨rfl,bvz0_9917⟩
       ·refine rn ?_;exact j9 rfl (.drop [_,_,_] _ _) ⟨rfl,bvz0_9917⟩
      ·refine rn ?_;exact j9 rfl (.drop [_,_,_] _ _) ⟨rfl,bvz0_9917⟩
    ·refine rn ?_;refine z7 rfl (fun hc91=> ?_) (fun hc91=> ?_)
     ·refine rn ?_;refine zc1 6 [(b6,60,_)] rfl (List.perm_append_comm (l₁:= [_])) ?_
      refine rn ?_;refine dw 0 rfl rfl rfl rfl rfl (Nat.le_of_ble_eq_true rfl) ?_
      refine rn2 ?_;show zcr _ _ _ _ _ _ ⟨_,.box b6 60 [iv e.kind,iv e.t,iv 0,iv 0,iv 0,iv 0,iv 0,iv e.p,.v (.slice none 0 0)]:: .box b3 60 (evR e):: .box b2 28 (y9 h):: [],_⟩
      refine rn0 ?_;refine w9 ?_;refine w9 ?_;show aw _ _ _ _ _ ⟨_,.box b6 60 [iv e.kind,iv e.t,iv 0,iv 0,iv 0,iv 0,iv 0,iv e.p,zee e.scan]:: .box b3 60 (evR e):: .box b2 28 (y9 h):: [],_⟩
      refine rn ?_;refine zab (fun k:Nat=>k≤e.scan.length∧e.scan.all (zb2 h)=(e.scan.drop k).all (zb2 h)) (fun k=>⟨[(102,iv k),(101,iv (e.scan.map zah).length),(100,zee e.scan),(2,pZ b2),(3,pZ b3),(6,pZ b6),(5,iv (h.ts.map zeh).length)],[.box b6 60 (evR ⟨e.kind,e.t,0,0,0,⟨0,0⟩,e.p,e.scan⟩),.box b3 60 (evR e),.box b2 28 (y9 h)],[]⟩) (fun k=>e.scan.length - k) 0 ⟨Nat.zero_le _,by simp⟩
       (v7 (.cons _ _ _ rfl (.cons _ _ _ rfl (.cons _ _ _ rfl (.cons _ _ _ rfl (.cons _ _ _ rfl (.cons _ _ _ rfl (.cons _ _ _ rfl (.nil))))))))) ?_
      rintro k ⟨hk,hz⟩
      refine rn ?_;refine z7 rfl (fun hc103=> ?_) (fun hc103=> ?_)
      ·have hk2:k < e.scan.length:=by simpa using hc103
       obtain ⟨s,hs⟩:∃s,s=e.scan[k]:=⟨_,rfl⟩
       have hrow:(e.scan.map zah)[k]? =some (zah s):=by rw [hs];simp [hk2]
       have hd:=List.drop_eq_getElem_cons hk2
       rw [←hs] at hd
       refine rn ?_;refine z8 rfl (y5 rfl fun b8=> ?_)
       refine rn ?_;refine qv rfl rfl (y2 rfl rfl (u3 (zjc _ _) (Sbs.refl _))) ?_
       refine rn ?_;refine w7 (fun hg20_7=> ?_) (fun hg20_7=> ?_)
       ·refine rn ?_;refine zfp rfl ?_;have hx:zb2 h s=false:=by clear hz hd hrow hs hc103 hk2 hk;simp_all [zb2]
        have hall:e.scan.all (zb2 h)=false:=by rw [hz,hd,List.all_cons,hx,Bool.false_and]
        clear hz hd hx hrow
        refine rn ?_;exact j9 rfl (.drop [_,_,_,_] _ _) ⟨rfl,bvz0_9917⟩
       ·refine rn ?_;refine qv rfl rfl (y2 rfl rfl (u3 (zgb s.v _) (Sbs.refl _))) ?_
        refine rn ?_;refine z7 rfl (fun hc119=> ?_) (fun hc119=> ?_)
        ·have hx:zb2 h s=false:=by clear hz hd hrow hs hc103 hk2 hk;simp_all [zb2]
         have hall:e.scan.all (zb2 h)=false:=by rw [hz,hd,List.all_cons,hx,Bool.false_and]
         clear hz hd hx hrow
         refine rn ?_;exact j9 rfl (.drop [_,_,_,_] _ _) ⟨rfl,bvz0_9917⟩
        ·have hx:zb2 h s=true:=by clear hz hd hrow hs hc103 hk2 hk;simp_all [zb2]
         refine rn ?_;exact ⟨k+1,⟨by omega,by rw [hz,hd,List.all_cons,hx,Bool.true_and]⟩,(v8 (zcp (h1:= [_])) (v7 (.cons _ _ _ rfl (.cons _ _ _ rfl (.cons _ _ _ rfl (.cons _ _ _ rfl (.cons _ _ _ rfl (.cons _ _ _ rfl (.cons _ _ _ rfl (.nil)))))))))),by omega⟩
      ·have hk3:k=e.scan.length:=by
        have:e.scan.length≤k:=by simpa using hc103
        omega
       rw [hk3,List.drop_length,List.all_nil] at hz
       refine rn ?_;refine qv rfl rfl (y2 rfl rfl (u3 (zgt ⟨e.kind,e.t,0,0,0,⟨0,0⟩,e.p,e.scan⟩ e (by simp [hl]) hl) (by exact ⟨(by exact Sb.aggs (by exact ⟨.refl _,.refl _,.refl _,.refl _,.refl _,.refl _,.refl _,.refl _,.refl _,trivial⟩)),.refl _,trivial⟩))) ?_
       refine rn ?_;refine w7 (fun hg23_3=> ?_) (fun hg23_3=> ?_)
       ·refine rn ?_;refine qv rfl rfl (y2 rfl rfl (u3 (zjc _ _) (Sbs.refl _))) ?_
        refine rn ?_;refine w7 (fun hg23_11=> ?_) (fun hg23_11=> ?_)
        ·refine rn ?_;exact j9 rfl (.drop [_,_,_] _ _) ⟨rfl,bvz0_9917⟩
        ·refine rn ?_;exact j9 rfl (.drop [_,_,_] _ _) ⟨rfl,bvz0_9917⟩
       ·refine rn ?_;exact j9 rfl (.drop [_,_,_] _ _) ⟨rfl,bvz0_9917⟩
     ·refine rn ?_;refine qv rfl rfl (y2 rfl rfl (u3 (zgt ⟨e.kind,e.t,0,0,0,⟨0,0⟩,0,[]⟩ e (by simp [hl]) hl) (by exact ⟨(by exact Sb.aggs (by exact ⟨.refl _,.refl _,.refl _,.refl _,.refl _,.refl _,.refl _,.refl _,.nil _ _,trivial⟩)),.refl _,trivial⟩))) ?_
      refine rn ?_;refine w7 (fun hg24_3=> ?_) (fun hg24_3=> ?_)
      ·refine rn ?_;refine w7 (fun hg24_7=> ?_) (fun hg24_7=> ?_)
       ·refine rn ?_;exact j9 rfl (.drop [_,_,_] _ _) ⟨rfl,bvz0_9917⟩
       ·refine rn ?_;exact j9 rfl (.drop [_,_,_] _ _) ⟨rfl,bvz0_9917⟩
      ·refine rn ?_;exact j9 rfl (.drop [_,_,_] _ _) ⟨rfl,bvz0_9917⟩
end Go.Proofs
namespace Go.Ab
open Go
section
variable {P:Program} {dst:Option Tmp} {ty:TypeId} {pos:String} {after:Array Edge} {guard:Option (Nat×Bool)} {x:Operand} {h:List Res} {f:Operand→Option AV}
theorem zoq {S T:TypeId} {k:IntKind} {n:Int} (hx:f x=some (.v (.int k n))) [hs:Und P S (.int k)] [ht:Und P T .string]:
 QR P h f ⟨dst,.convert S T x,ty,pos,after,guard⟩ (.v (.string (Utf8.encode n))):=fun X ρ w he=>by
 refine ⟨_,run_v _ ?_,.v _⟩
 rw [(he.rel x _ hx).v_eq]
 simp only [convert,Sem.run_bind,Go.Ab.run_underlying (d:=TypeDesc.int k),Go.Ab.run_underlying (d:=TypeDesc.string),Result.andThen_ok]
 rfl
end
end Go.Ab
set_option maxRecDepth 10000
namespace Go.Proofs
open Go Go.Ab
attribute [local irreducible] QR QV OE zcr aw zdc zdn zbj zcg thn zff
open Go.H
theorem ybw (s:ByteArray):y7 Tryz.prog 256 [sv s] [] (fun r h'=>h'= []∧r= .tup [.v (.int .i32 (zcf s).1),iv (zcf s).2]):=by
 refine z6 Tryz.func256 rfl rfl rfl ?_
 refine rn ?_;refine z8 rfl (zln rfl rfl fun b8=> ?_)
 refine rn ?_;refine zab (fun x:Unit=>True) (fun x=>⟨[(8,pZ b8),(0,sv s),(2,.v (.int .i32 0)),(3,iv 0)],[.obj b8 (.stringIter s 0)],[]⟩) (fun x=>0) () trivial
  (v7 (.cons _ _ _ rfl (.cons _ _ _ rfl (.cons _ _ _ rfl (.cons _ _ _ rfl (.nil)))))) ?_
 rintro _ _
 refine w9 (y6 ?_)
 refine z8 rfl (znn rfl rfl (fun hp=> ?_) (fun hp=> ?_))
 ·refine rn ?_;refine z7 rfl (fun hc10=> ?_) (fun hc10=> ?_)
  ·first|cases hc10|exact absurd hc10 (by decide)|(exfalso;simp_all;done)
  ·refine rn ?_;exact zbz rfl rfl (.drop1 _ _ _) ⟨rfl,by first|(rw [zcf,if_pos hp];rfl)|(rw [zcf,if_neg (by omega)];split <;> first|rfl|(exfalso;simp_all;done)|(exfalso;simp_all;omega))⟩
 ·refine rn ?_;refine z7 rfl (fun hc10=> ?_) (fun hc10=> ?_)
  ·refine rn ?_;refine z7 rfl (fun hc14=> ?_) (fun hc14=> ?_)
   ·exact absurd hc14 (by decide)
   ·refine za7 ?_;refine zac ?_;refine w9 (y6 ?_)
    refine q1 ?_;refine qq rfl rfl (zoq rfl) ?_
    refine rn ?_;refine w7 (fun hg6_2=> ?_) (fun hg6_2=> ?_)
    ·refine rn ?_;refine w7 (fun hg6_6=> ?_) (fun hg6_6=> ?_)
     ·refine rn ?_;refine z7 rfl (fun hc29=> ?_) (fun hc29=> ?_)
      ·refine rn ?_;exact zbz rfl rfl (.drop1 _ _ _) ⟨rfl,by first|(rw [zcf,if_pos hp];rfl)|(rw [zcf,if_neg (by omega)];split <;> first|rfl|(exfalso;simp_all;done)|(exfalso;simp_all;omega))⟩
      ·first|cases hc29|exact absurd hc29 (by decide)|(exfalso;simp_all;done)
     ·refine q1 ?_;refine qq rfl rfl (zej (k:=3) rfl rfl (by have:=hg6_6;simp at this;omega)) ?_
      refine rn ?_;refine z7 rfl (fun hc29=> ?_) (fun hc29=> ?_)
      ·refine rn ?_;exact zbz rfl rfl (.drop1 _ _ _) ⟨rfl,by first|(rw [zcf,if_pos hp];rfl)|(rw [zcf,if_neg (by omega)];split <;> first|rfl|(exfalso;simp_all;done)|(exfalso;simp_all;omega))⟩
      ·refine rn ?_;exact zbz rfl rfl (.drop1 _ _ _) ⟨rfl,by first|(rw [zcf,if_pos hp];rfl)|(rw [zcf,if_neg (by omega)];split <;> first|rfl|(exfalso;simp_all;done)|(exfalso;simp_all;omega))⟩
    ·refine rn ?_;refine z7 rfl (fun hc29=> ?_) (fun hc29=> ?_)
     ·first|cases hc29|exact absurd hc29 (by decide)|(exfalso;simp_all;done)
     ·refine rn ?_;exact zbz rfl rfl (.drop1 _ _ _) ⟨rfl,by first|(rw [zcf,if_pos hp];rfl)|(rw [zcf,if_neg (by omega)];split <;> first|rfl|(exfalso;simp_all;done)|(exfalso;simp_all;omega))⟩
  ·first|cases hc10|exact absurd hc10 (by decide)|(exfalso;simp_all;done)
theorem zy1 (s:ByteArray) (c n:Int) (h:zcf s=(c,n)):y7 Tryz.prog 256 [sv s] [] (fun r h'=>h'= []∧r= .tup [.v (.int .i32 c),iv n]):=
 (ybw s).mono fun _ _ q=>⟨q.1,by rw [q.2,h]⟩
theorem ygz (s:ByteArray):y7 Tryz.prog 214 [sv s] [] (fun r h'=>h'= []∧r=bv (zhf s)):=by
 refine z6 Tryz.func214 rfl rfl rfl ?_
 refine rn ?_;refine w7 (fun hg1_2=> ?_) (fun hg1_2=> ?_)
 ·refine rn ?_;refine zfp rfl ?_;refine rn ?_;refine rq 0 ?_
  exact ⟨rfl,congrArg bv (by first|(rw [zgm,←yd7,hg1_2];rfl)|(rw [zgm,decide_eq_false (show ¬(s.size:Int)≤24 by simp at hc12;omega),Bool.and_false];rfl))⟩
 ·refine rn ?_;refine z7 rfl (fun hc12=> ?_) (fun hc12=> ?_)
  ·refine rn ?_;refine rq 0 ?_
   exact ⟨rfl,congrArg bv (by first|(rw [zgm,←yd7,hg1_2];rfl)|(rw [zgm,decide_eq_false (show ¬(s.size:Int)≤24 by simp at hc12;omega),Bool.and_false];rfl))⟩
  ·have hlen:s.size≤24:=by simp at hc12;omega
   refine rn ?_;refine zmy (fun i:Nat=>ziq s 0=ziq s i∧i≤48) (fun i=>⟨[(3,iv i),(0,sv s)],[],[]⟩) (fun i=>s.size - i) 0 ⟨rfl,by omega⟩ es ?_
   rintro i ⟨hz,hi⟩
   refine rn ?_;refine z7 rfl (fun hc16=> ?_) (fun hc16=> ?_)
   ·have h1:i < s.size:=by simpa using hc16
    refine za7 ?_;refine zac ?_;refine zb9 ?_;refine w9 (y6 ?_)
    refine q1 ?_;refine q1 ?_;refine qq rfl rfl (zei (k:=i) rfl rfl (by omega)) ?_
    obtain ⟨c,n,hw,hn1,hn4⟩:=yin h1
    refine qv rfl rfl (y2 rfl rfl (u3 (zy1 _ c n hw) (Sbs.refl _))) ?_
    refine rn ?_;refine qv rfl rfl (y2 rfl rfl (u3 (zy0 _) (Sbs.refl _))) ?_
    refine rn ?_;refine w7 (fun hg6_3=> ?_) (fun hg6_3=> ?_)
    ·refine rn ?_;refine w7 (fun hg6_6=> ?_) (fun hg6_6=> ?_)
     ·refine rn ?_;refine zfp rfl ?_;refine rn ?_;refine rq 0 ?_
      exact ⟨rfl,congrArg bv (by rw [zgm,hz,zo0 h1 hw (by simpa using hg6_3) (by first|exact .inl (by simpa using hg6_6)|exact .inr (by simpa using hc35)),Bool.and_false])⟩
     ·refine rn ?_;refine qv rfl rfl (y2 rfl rfl (u3 (zsj _) (Sbs.refl _))) ?_
      refine rn ?_;refine z7 rfl (fun hc35=> ?_) (fun hc35=> ?_)
      ·refine rn ?_;refine rq 0 ?_
       exact ⟨rfl,congrArg bv (by rw [zgm,hz,zo0 h1 hw (by simpa using hg6_3) (by first|exact .inl (by simpa using hg6_6)|exact .inr (by simpa using hc35)),Bool.and_false])⟩
      ·refine rn ?_;exact ⟨i+n,⟨hz.trans (zwd h1 hw hn1 (.inr ⟨by simpa using hg6_6,by simpa using hc35⟩)),by omega⟩,eA,by omega⟩
    ·refine rn ?_;first|(refine qv rfl rfl (y2 rfl rfl (u3 (zsj _) (Sbs.refl _))) ?_)|refine qs rfl rfl ?_|skip
     refine rn ?_;refine zd9 rfl ?_;refine rn ?_;exact ⟨i+n,⟨hz.trans (zwd h1 hw hn1 (.inl (by simpa using hg6_3))),by omega⟩,eA,by omega⟩
   ·have h1:¬i < s.size:=by simpa using hc16
    refine rn ?_;refine rq 0 ?_
    exact ⟨rfl,congrArg bv (by rw [zgm,←yd7,hg1_2,hz,yah h1,decide_eq_true (show (s.size:Int)≤24 by omega)];rfl)⟩
theorem ze5 (l:List ByteArray) (most:Nat) (hl:l.length≤4611686018427387904):y7 Tryz.prog 163 [zdf l,iv most] [] (fun r h'=>h'= []∧r=bv (zcz most l)):=by
 refine z6 Tryz.func163 rfl rfl rfl ?_
 refine rn ?_;refine zcj (l.length) (fun k:Nat=>zbo [] l=zbo (l.take k) (l.drop k)) (fun k=> [(11,iv k)]) [(0,_),(1,_),(9,_),(10,_)] rfl ?_
 intro k lk zk
 refine rn ?_;refine z7 rfl (fun hc12=> ?_) (fun hc12=> ?_)
 ·have hk:=zay hc12
  have rk:=zag (f:=zeh) hk
  refine rn ?_;refine qv rfl rfl (y2 rfl rfl (u3 (ygz _) (Sbs.refl _))) ?_
  refine rn ?_;refine z7 rfl (fun hc18=> ?_) (fun hc18=> ?_)
  ·refine rn ?_;refine rq 0 ?_
   exact ⟨rfl,congrArg bv (by rw [zcz,yn5 hk zk (by simpa using hc18),Bool.and_false])⟩
  ·refine za7 ?_;refine zac ?_;refine w9 (y6 ?_)
   refine q1 ?_;refine q1 ?_;refine qq rfl rfl (zcc (k:=k) rfl rfl (by simp;omega)) ?_
   rw [←List.map_take]
   refine rn ?_;refine zcj ((l.take k).length) (fun j:Nat=>(l.take k).all (fun t=> !(l[k].toList==t.toList))=((l.take k).drop j).all (fun t=> !(l[k].toList==t.toList))) (fun j=> [(23,iv j)]) [(0,_),(1,_),(6,_),(9,_),(10,_),(11,_),(21,_),(22,_)] rfl ?_
   intro j lj zj
   refine rn ?_;refine z7 rfl (fun hc24=> ?_) (fun hc24=> ?_)
   ·have hj:=zay hc24
    have rj:=zag (f:=zeh) hj
    have bj:(l.take k).length≤4611686018427387904:=by simp;omega
    refine rn ?_;refine z7 rfl (fun hc29=> ?_) (fun hc29=> ?_)
    ·refine rn ?_;refine rq 0 ?_
     exact ⟨rfl,congrArg bv (by rw [zcz,yn6 hk zk (zt4 hj (by simpa using hc29)),Bool.and_false])⟩
    ·refine rn ?_;exact ⟨hj,zt3 hj zj (by simpa using hc29),eA⟩
   ·have qj:=zaz hc24 lj
    have aj:=zzz qj zj
    refine rn ?_;exact ⟨hk,zzp hk zk (by simpa using hc18) aj,eA⟩
 ·have qk:=zaz hc12 lk
  refine rn ?_;refine rq 0 ?_
  exact ⟨rfl,congrArg bv (by rw [zcz,yn7 qk zk];simp)⟩
theorem zup (h:Hist) (e:Ev) (hl:e.scan.length≤4611686018427387904):y7 Tryz.prog 164 [.agg (y9 h),.agg (evR e)] [] (fun r h'=>h'= []∧r=bv (zb5 h e)):=
 (zyt h e hl).mono fun _ _ q=>⟨q.1,by rw [q.2,zyq]⟩
theorem bvz1_3290 {a b:Bool} (h:a=b:=by rw [ya4 (by simp_all) (by simp_all) (by simp_all) (by simp_all) ai aj ak am];first|(simp_all;done)|(simp_all;intros;omega)):bv a=bv b:=congrArg bv h
theorem ybq (h:Hist) (la:Lim 4611686018427387904 h):y7 Tryz.prog 122 [.agg (y9 h)] [] (fun r h'=>h'= []∧r=bv (zae h)):=by
 refine z6 Tryz.func122 rfl rfl rfl ?_
 refine rn ?_;refine z8 rfl (w8 rfl rfl rfl fun b1=> ?_)
 refine rn ?_;refine qv rfl rfl (y2 rfl rfl (u3 (ze5 h.ts 300 la.ts) (Sbs.refl _))) ?_
 refine rn ?_;refine w7 (fun hg1_4=> ?_) (fun hg1_4=> ?_)
 ·refine rn ?_;refine zfp rfl ?_;refine rn ?_;refine rq 1 ?_
  exact ⟨rfl,congrArg bv (by rw [zjy (by simp_all)])⟩
 ·refine rn ?_;refine qv rfl rfl (y2 rfl rfl (u3 (ze5 h.ss 60 la.ss) (Sbs.refl _))) ?_
  refine rn ?_;refine w7 (fun hg1_10=> ?_) (fun hg1_10=> ?_)
  ·refine rn ?_;refine zfp rfl ?_;refine rn ?_;refine rq 1 ?_
   exact ⟨rfl,congrArg bv (by rw [zjy (by simp_all)])⟩
  ·refine rn ?_;refine qv rfl rfl (y2 rfl rfl (u3 (ze5 h.os 300 la.os) (Sbs.refl _))) ?_
   refine rn ?_;refine w7 (fun hg1_16=> ?_) (fun hg1_16=> ?_)
   ·refine rn ?_;refine zfp rfl ?_;refine rn ?_;refine rq 1 ?_
    exact ⟨rfl,congrArg bv (by rw [zjy (by simp_all)])⟩
   ·refine rn ?_;refine qv rfl rfl (y2 rfl rfl (u3 (ze5 h.ps 60 la.ps) (Sbs.refl _))) ?_
    refine rn ?_;refine z7 rfl (fun hc32=> ?_) (fun hc32=> ?_)
    ·refine rn ?_;refine rq 1 ?_
     exact ⟨rfl,congrArg bv (by rw [zjy (by simp_all)])⟩
    ·refine rn ?_;refine zcj (h.evs.length) (fun i:Nat=>h.evs.all (zb5 h)=(h.evs.drop i).all (zb5 h)) (fun i=> [(36,iv i)]) [(1,_),(34,_),(35,_)] rfl ?_
     intro i li zi
     refine rn ?_;refine z7 rfl (fun hc37=> ?_) (fun hc37=> ?_)
     ·have hi:=zay hc37
      have ri:=zag (f:=evR) hi
      have bi:=la.evs
      have si:=la.scans h.evs[i] (List.getElem_mem hi)
      refine rn ?_;refine z8 rfl (y5 rfl fun b4=> ?_)
      refine rn ?_;refine qv rfl rfl (y2 rfl rfl (u3 (zup h h.evs[i] si) (Sbs.refl _))) ?_
      refine rn ?_;refine z7 rfl (fun hc43=> ?_) (fun hc43=> ?_)
      ·refine rn ?_;refine rq 2 ?_
       exact ⟨rfl,congrArg bv (by rw [ya5 (zt4 hi (by simpa using hc43))])⟩
      ·refine rn ?_;exact ⟨hi,zt3 hi zi (by simpa using hc43),eA⟩
     ·have qi:=zaz hc37 li
      have ai:=zzz qi zi
      refine rn ?_;refine zcj (h.ords.length) (fun j:Nat=>h.ords.all (zrr h)=(h.ords.drop j).all (zrr h)) (fun j=> [(48,iv j)]) [(1,_),(46,_),(47,_)] rfl ?_
      intro j lj zj
      refine rn ?_;refine z7 rfl (fun hc49=> ?_) (fun hc49=> ?_)
      ·have hj:=zay hc49
       have rj:=zag (f:=zez) hj
       have bj:=la.ords
       have sj:=la.ordts h.ords[j] (List.getElem_mem hj)
       refine rn ?_;refine z8 rfl (y5 rfl fun b6=> ?_)
       refine rn ?_;refine qv rfl rfl (y2 rfl rfl (u3 (zjc _ _) (Sbs.refl _))) ?_
       refine rn ?_;refine w7 (fun hg12_7=> ?_) (fun hg12_7=> ?_)
       ·refine rn ?_;refine zfp rfl ?_;refine rn ?_;refine rq 2 ?_
        exact ⟨rfl,congrArg bv (by rw [zsa (zt4 hj (by rw [zuy];simp_all))])⟩
       ·refine rn ?_;refine qv rfl rfl (y2 rfl rfl (u3 (yp5 h h.ords[j].ts sj) (Sbs.refl _))) ?_
        refine rn ?_;refine z7 rfl (fun hc65=> ?_) (fun hc65=> ?_)
        ·refine rn ?_;refine rq 2 ?_
         exact ⟨rfl,congrArg bv (by rw [zsa (zt4 hj (by rw [zuy];simp_all))])⟩
        ·refine rn ?_;exact ⟨hj,zt3 hj zj (by rw [zuy];simp_all),eA⟩
      ·have qj:=zaz hc49 lj
       have aj:=zzz qj zj
       refine rn ?_;refine zcj (h.mats.length) (fun k:Nat=>h.mats.all (zu6 h)=(h.mats.drop k).all (zu6 h)) (fun k=> [(70,iv k)]) [(1,_),(68,_),(69,_)] rfl ?_
       intro k lk zk
       refine rn ?_;refine z7 rfl (fun hc71=> ?_) (fun hc71=> ?_)
       ·have hk:=zay hc71
        have rk:=zag (f:=zeq) hk
        have bk:=la.mats
        have sk:=la.matts h.mats[k] (List.getElem_mem hk)
        refine rn ?_;refine z8 rfl (y5 rfl fun b8=> ?_)
        refine rn ?_;refine qv rfl rfl (y2 rfl rfl (u3 (zjc _ _) (Sbs.refl _))) ?_
        refine rn ?_;refine w7 (fun hg18_7=> ?_) (fun hg18_7=> ?_)
        ·refine rn ?_;refine zfp rfl ?_;refine rn ?_;refine rq 2 ?_
         exact ⟨rfl,congrArg bv (by rw [zna (zt4 hk (by rw [zq6];simp_all))])⟩
        ·refine rn ?_;refine qv rfl rfl (y2 rfl rfl (u3 (zjc _ _) (Sbs.refl _))) ?_
         refine rn ?_;refine w7 (fun hg18_16=> ?_) (fun hg18_16=> ?_)
         ·refine rn ?_;refine zfp rfl ?_;refine rn ?_;refine rq 2 ?_
          exact ⟨rfl,congrArg bv (by rw [zna (zt4 hk (by rw [zq6];simp_all))])⟩
         ·refine rn ?_;refine qv rfl rfl (y2 rfl rfl (u3 (yp5 h h.mats[k].ts sk) (Sbs.refl _))) ?_
          refine rn ?_;refine z7 rfl (fun hc96=> ?_) (fun hc96=> ?_)
          ·refine rn ?_;refine rq 2 ?_
           exact ⟨rfl,congrArg bv (by rw [zna (zt4 hk (by rw [zq6];simp_all))])⟩
          ·refine rn ?_;exact ⟨hk,zt3 hk zk (by rw [zq6];simp_all),eA⟩
       ·have qk:=zaz hc71 lk
        have ak:=zzz qk zk
        refine rn ?_;refine zcj (h.wants.length) (fun m:Nat=>h.wants.all (zwh h)=(h.wants.drop m).all (zwh h)) (fun m=> [(101,iv m)]) [(1,_),(99,_),(100,_)] rfl ?_
        intro m lm zm
        refine rn ?_;refine z7 rfl (fun hc102=> ?_) (fun hc102=> ?_)
        ·have hm:=zay hc102
         have rm:=zag (f:=zf4) hm
         have bm:=la.wants
         refine rn ?_;refine z8 rfl (y5 rfl fun b10=> ?_)
         refine rn ?_;refine qv rfl rfl (y2 rfl rfl (u3 (zjc _ _) (Sbs.refl _))) ?_
         refine rn ?_;refine w7 (fun hg24_7=> ?_) (fun hg24_7=> ?_)
         ·refine rn ?_;refine zfp rfl ?_;refine rn ?_;refine rq 2 ?_
          exact ⟨rfl,congrArg bv (by rw [zr9 (zt4 hm (by rw [zua];simp_all))])⟩
         ·refine rn ?_;refine qv rfl rfl (y2 rfl rfl (u3 (zjc _ _) (Sbs.refl _))) ?_
          refine rn ?_;refine z7 rfl (fun hc117=> ?_) (fun hc117=> ?_)
          ·refine rn ?_;refine rq 2 ?_
           exact ⟨rfl,congrArg bv (by rw [zr9 (zt4 hm (by rw [zua];simp_all))])⟩
          ·refine rn ?_;exact ⟨hm,zt3 hm zm (by rw [zua];simp_all),eA⟩
        ·have qm:=zaz hc102 lm
         have am:=zzz qm zm
         refine rn ?_;refine w7 (fun hg27_4=> ?_) (fun hg27_4=> ?_)
         ·refine rn ?_;refine w7 (fun hg27_10=> ?_) (fun hg27_10=> ?_)
          ·refine rn ?_;refine w7 (fun hg27_16=> ?_) (fun hg27_16=> ?_)
           ·refine rn ?_;refine rq 1 ?_
            exact ⟨rfl,bvz1_3290⟩
           ·refine rn ?_;refine rq 1 ?_
            exact ⟨rfl,bvz1_3290⟩
          ·refine rn ?_;refine rq 1 ?_
           exact ⟨rfl,bvz1_3290⟩
         ·refine rn ?_;refine rq 1 ?_
          exact ⟨rfl,bvz1_3290⟩
theorem zbp (s:SV) (l:List Int) (n:Int) (hl:l.length≤1000000000):y7 Tryz.prog 166 [.v s.v,iv n] [.row s.v 1 3 (l.map zai)] (fun r h'=>∃s':SV,h'= [.row s'.v 1 3 ((yfv l n).map zai)]∧r= .v s'.v):=by
 refine z6 Tryz.func166 rfl rfl rfl ?_
 refine rn ?_;refine qv rfl rfl (y2 rfl rfl (y0.lend (R:=fun x=>x=iv (atI n 0 l)) (y0.of_fun (zyz (f:=false) l n (by omega))) (fun r hr=>by rw [hr];rfl) (.refl _ _) ⟨yok,.refl _ _,trivial⟩)) ?_
 refine rn ?_;refine z7 rfl (fun hc8=> ?_) (fun hc8=> ?_)
 ·refine rn ?_;refine rq 0 ?_
  exact ⟨s,by rw [yfv,if_pos (by simpa using hc8)];rfl,rfl⟩
 ·refine rn ?_;refine qv rfl rfl (q6 rfl rfl) ?_
  refine z8 rfl (u7 rfl rfl (by simp;omega) rfl (fun s13=> ?_) (fun r hr=>by simp at hr;subst hr;rfl))
  refine k7 s13 fun sv hsv=> ?_
  subst hsv
  refine rn ?_;refine rq 0 ?_
  exact ⟨sv,by rw [yfv,if_neg (by simpa using hc8),List.map_append];rfl,rfl⟩
theorem zng (s:SV) (l:List Int) (v:Ver) (hl:l.length≤1000000000):y7 Tryz.prog 167 [.v s.v,.agg (zyk v)] [.row s.v 1 3 (l.map zai)] (fun r h'=>∃s':SV,h'= [.row s'.v 1 3 ((you l v).map zai)]∧r= .v s'.v):=by
 refine z6 Tryz.func167 rfl rfl rfl ?_
 refine rn ?_;refine z8 rfl (w8 rfl rfl rfl fun b3=> ?_)
 refine rn ?_;refine z7 rfl (fun hc7=> ?_) (fun hc7=> ?_)
 ·refine rn ?_;refine rq 1 ?_
  exact ⟨s,by rw [you,if_pos (by simpa using hc7)];rfl,rfl⟩
 ·refine rn ?_;refine z8 rfl (v2 rfl rfl (za3 (y0.of_fun (zbp s l v.t hl))) rfl ?_)
  rintro _ _ ⟨s',rfl,rfl⟩
  refine rn ?_;refine rq 1 ?_
  exact ⟨s',by rw [you,if_neg (by simpa using hc7)];rfl,rfl⟩
theorem ybp (h:Hist) (la:Lim 3000 h):y7 Tryz.prog 123 [.agg (y9 h)] [] (fun r h'=>h'= []∧r= .agg [zaq (zcl h 0),zaq (zcl h 1),zaq (zcl h 2),zaq (zcl h 3)]):=by
 refine z6 Tryz.func123 rfl rfl rfl ?_
 refine rn ?_;refine z8 rfl (w8 rfl rfl rfl fun b1=> ?_)
 refine z8 rfl (y5 rfl fun b2=> ?_)
 refine rn ?_;refine z8 rfl (y5 rfl fun b3=> ?_)
 refine rn ?_;refine zjk h.evs.length (fun k s0 s1 s2 s3=>⟨[(21,iv k),(1,pZ b1),(2,pZ b2),(3,pZ b3),(19,znz h.evs),(20,iv (h.evs.map evR).length)],[.row s0.v 1 3 (((spE h k) 0).map zai),.row s1.v 1 3 (((spE h k) 1).map zai),.row s2.v 1 3 (((spE h k) 2).map zai),.row s3.v 1 3 (((spE h k) 3).map zai),.box b3 154 [.v s0.v,.v s1.v,.v s2.v,.v s3.v],.box b2 154 [.v (.slice none 0 0),.v (.slice none 0 0),.v (.slice none 0 0),.v (.slice none 0 0)],.box b1 28 (y9 h)],[]⟩) (⟨none,0,0⟩) (⟨none,0,0⟩) (⟨none,0,0⟩) (⟨none,0,0⟩) (v8 (k9 1 3) (v8 (k9 1 3) (v8 (k9 1 3) (v8 (k9 1 3) es)))) ?_
 intro k s0 s1 s2 s3 lk
 refine rn ?_;refine z7 rfl (fun hc22=> ?_) (fun hc22=> ?_)
 ·have hk:=zay hc22
  have rk:=zag (f:=evR) hk
  have bd:=bdE la k lk
  have ls:=la.scans h.evs[k] (List.getElem_mem hk)
  have le:=la.evs
  refine rn ?_;refine z8 rfl (y5 rfl fun b5=> ?_)
  refine rn ?_;refine qq rfl rfl (y8 rfl rfl (by decide) (by decide)) ?_
  refine rn ?_;refine z8 rfl (v2 rfl rfl (za3 (y0.of_fun (zbp _ _ _ (by have:=bd 0;omega)))) rfl ?_)
  rintro _ _ ⟨s',rfl,rfl⟩
  refine qq rfl rfl (y8 rfl rfl (by decide) (by decide)) ?_
  refine rn0 ?_;refine yon (fun s0 s1 s2 s3=>⟨[(5,pZ b5),(21,iv k),(20,iv (h.evs.map evR).length),(19,znz h.evs),(1,pZ b1),(2,pZ b2),(3,pZ b3)],[.box b5 60 (evR h.evs[k]),.row s0.v 1 3 (((zfz (za1 (spE h k) (0,h.evs[k].t)) h.evs[k]) 0).map zai),.row s1.v 1 3 (((zfz (za1 (spE h k) (0,h.evs[k].t)) h.evs[k]) 1).map zai),.row s2.v 1 3 (((zfz (za1 (spE h k) (0,h.evs[k].t)) h.evs[k]) 2).map zai),.row s3.v 1 3 (((zfz (za1 (spE h k) (0,h.evs[k].t)) h.evs[k]) 3).map zai),.box b3 154 [.v s0.v,.v s1.v,.v s2.v,.v s3.v],.box b2 154 [.v (.slice none 0 0),.v (.slice none 0 0),.v (.slice none 0 0),.v (.slice none 0 0)],.box b1 28 (y9 h)],[]⟩) ?_ ?_
  ·refine rn ?_;refine z7 rfl (fun hc33=> ?_) (fun hc33=> ?_)
   ·refine rn ?_;refine qq rfl rfl (y8 rfl rfl (by decide) (by decide)) ?_
    refine rn ?_;refine z8 rfl (v2 rfl rfl (za3 (y0.of_fun (zbp _ _ _ (by have:=bd 1;omega)))) rfl ?_)
    rintro _ _ ⟨s',rfl,rfl⟩
    refine qq rfl rfl (y8 rfl rfl (by decide) (by decide)) ?_
    refine rn ?_;exact ⟨_,_,_,_,by unfold zfz;first|(rw [if_pos (by simpa using hc33)];exact eA)|(rw [if_neg (by simpa using hc33),if_pos (by simp at hc33;simp_all)];exact eA)|(rw [if_neg (by simpa using hc33),if_neg (by simp at hc33;simp_all),if_pos (by simpa using hc56)];exact eA)|(rw [if_neg (by simpa using hc33),if_neg (by simp at hc33;simp_all),if_neg (by simpa using hc56)];exact eA)⟩
   ·refine rn ?_;refine z7 rfl (fun hc41=> ?_) (fun hc41=> ?_)
    ·refine rn ?_;refine z7 rfl (fun hc41=> ?_) (fun hc41=> ?_)
     ·refine rn ?_;refine qq rfl rfl (y8 rfl rfl (by decide) (by decide)) ?_
      refine rn ?_;refine z8 rfl (v2 rfl rfl (za3 (y0.of_fun (zbp _ _ _ (by have:=bd 2;omega)))) rfl ?_)
      rintro _ _ ⟨s',rfl,rfl⟩
      refine qq rfl rfl (y8 rfl rfl (by decide) (by decide)) ?_
      refine rn ?_;refine qq rfl rfl (y8 rfl rfl (by decide) (by decide)) ?_
      refine rn ?_;refine z8 rfl (v2 rfl rfl (za3 (y0.of_fun (zng _ _ _ (by have:=(bd.f (0,h.evs[k].t)) 0;exact Nat.le_trans this (by omega))))) rfl ?_)
      rintro _ _ ⟨s',rfl,rfl⟩
      refine qq rfl rfl (y8 rfl rfl (by decide) (by decide)) ?_
      refine rn ?_;exact ⟨_,_,_,_,by unfold zfz;first|(rw [if_pos (by simpa using hc33)];exact eA)|(rw [if_neg (by simpa using hc33),if_pos (by simp at hc33;simp_all)];exact eA)|(rw [if_neg (by simpa using hc33),if_neg (by simp at hc33;simp_all),if_pos (by simpa using hc56)];exact eA)|(rw [if_neg (by simpa using hc33),if_neg (by simp at hc33;simp_all),if_neg (by simpa using hc56)];exact eA)⟩
     ·first|cases hc41|exact absurd hc41 (by decide)|(exfalso;simp_all;done)
    ·refine rn ?_;refine z7 rfl (fun hc41=> ?_) (fun hc41=> ?_)
     ·refine rn ?_;refine qq rfl rfl (y8 rfl rfl (by decide) (by decide)) ?_
      refine rn ?_;refine z8 rfl (v2 rfl rfl (za3 (y0.of_fun (zbp _ _ _ (by have:=bd 2;omega)))) rfl ?_)
      rintro _ _ ⟨s',rfl,rfl⟩
      refine qq rfl rfl (y8 rfl rfl (by decide) (by decide)) ?_
      refine rn ?_;refine qq rfl rfl (y8 rfl rfl (by decide) (by decide)) ?_
      refine rn ?_;refine z8 rfl (v2 rfl rfl (za3 (y0.of_fun (zng _ _ _ (by have:=(bd.f (0,h.evs[k].t)) 0;exact Nat.le_trans this (by omega))))) rfl ?_)
      rintro _ _ ⟨s',rfl,rfl⟩
      refine qq rfl rfl (y8 rfl rfl (by decide) (by decide)) ?_
      refine rn ?_;exact ⟨_,_,_,_,by unfold zfz;first|(rw [if_pos (by simpa using hc33)];exact eA)|(rw [if_neg (by simpa using hc33),if_pos (by simp at hc33;simp_all)];exact eA)|(rw [if_neg (by simpa using hc33),if_neg (by simp at hc33;simp_all),if_pos (by simpa using hc56)];exact eA)|(rw [if_neg (by simpa using hc33),if_neg (by simp at hc33;simp_all),if_neg (by simpa using hc56)];exact eA)⟩
     ·refine rn ?_;refine z7 rfl (fun hc56=> ?_) (fun hc56=> ?_)
      ·refine rn ?_;refine qq rfl rfl (y8 rfl rfl (by decide) (by decide)) ?_
       refine rn ?_;refine z8 rfl (v2 rfl rfl (za3 (y0.of_fun (zbp _ _ _ (by have:=bd 3;omega)))) rfl ?_)
       rintro _ _ ⟨s',rfl,rfl⟩
       refine qq rfl rfl (y8 rfl rfl (by decide) (by decide)) ?_
       refine rn ?_;exact ⟨_,_,_,_,by unfold zfz;first|(rw [if_pos (by simpa using hc33)];exact eA)|(rw [if_neg (by simpa using hc33),if_pos (by simp at hc33;simp_all)];exact eA)|(rw [if_neg (by simpa using hc33),if_neg (by simp at hc33;simp_all),if_pos (by simpa using hc56)];exact eA)|(rw [if_neg (by simpa using hc33),if_neg (by simp at hc33;simp_all),if_neg (by simpa using hc56)];exact eA)⟩
      ·refine rn ?_;exact ⟨_,_,_,_,by unfold zfz;first|(rw [if_pos (by simpa using hc33)];exact eA)|(rw [if_neg (by simpa using hc33),if_pos (by simp at hc33;simp_all)];exact eA)|(rw [if_neg (by simpa using hc33),if_neg (by simp at hc33;simp_all),if_pos (by simpa using hc56)];exact eA)|(rw [if_neg (by simpa using hc33),if_neg (by simp at hc33;simp_all),if_neg (by simpa using hc56)];exact eA)⟩
  ·intro s0 s1 s2 s3
   refine rn ?_;refine zjk h.evs[k].scan.length (fun j s0 s1 s2 s3=>⟨[(67,iv j),(1,pZ b1),(2,pZ b2),(3,pZ b3),(19,znz h.evs),(20,iv (h.evs.map evR).length),(21,iv k),(65,zee h.evs[k].scan),(66,iv (h.evs[k].scan.map zah).length)],[.box b5 60 (evR h.evs[k]),.row s0.v 1 3 ((((h.evs[k].scan.take j).foldl stepS (zfz (za1 (spE h k) (0,h.evs[k].t)) h.evs[k])) 0).map zai),.row s1.v 1 3 ((((h.evs[k].scan.take j).foldl stepS (zfz (za1 (spE h k) (0,h.evs[k].t)) h.evs[k])) 1).map zai),.row s2.v 1 3 ((((h.evs[k].scan.take j).foldl stepS (zfz (za1 (spE h k) (0,h.evs[k].t)) h.evs[k])) 2).map zai),.row s3.v 1 3 ((((h.evs[k].scan.take j).foldl stepS (zfz (za1 (spE h k) (0,h.evs[k].t)) h.evs[k])) 3).map zai),.box b3 154 [.v s0.v,.v s1.v,.v s2.v,.v s3.v],.box b2 154 [.v (.slice none 0 0),.v (.slice none 0 0),.v (.slice none 0 0),.v (.slice none 0 0)],.box b1 28 (y9 h)],[]⟩) _ _ _ _ (es) ?_
   intro j s0 s1 s2 s3 lj
   refine rn ?_;refine z7 rfl (fun hc68=> ?_) (fun hc68=> ?_)
   ·have hj:=zay hc68
    have rj:=zag (f:=zah) hj
    have bj:=Bd.fold (c:=2) (l:=h.evs[k].scan.take j) (fun s _ L n h=>h.s s) ((bd.f (0,h.evs[k].t)).k h.evs[k])
    have bl:(h.evs[k].scan.take j).length≤3000:=by rw [List.length_take];omega
    refine rn ?_;refine z8 rfl (y5 rfl fun b7=> ?_)
    refine rn ?_;refine qq rfl rfl (y8 rfl rfl (by decide) (by decide)) ?_
    refine rn ?_;refine z8 rfl (v2 rfl rfl (za3 (y0.of_fun (zbp _ _ _ (by have:=bj 2;omega)))) rfl ?_)
    rintro _ _ ⟨s',rfl,rfl⟩
    refine qq rfl rfl (y8 rfl rfl (by decide) (by decide)) ?_
    refine rn ?_;refine qq rfl rfl (y8 rfl rfl (by decide) (by decide)) ?_
    refine rn ?_;refine z8 rfl (v2 rfl rfl (za3 (y0.of_fun (zng _ _ _ (by have:=bj 0;omega)))) rfl ?_)
    rintro _ _ ⟨s',rfl,rfl⟩
    refine qq rfl rfl (y8 rfl rfl (by decide) (by decide)) ?_
    refine rn ?_;have e:(h.evs[k].scan.take (j+1)).foldl stepS (zfz (za1 (spE h k) (0,h.evs[k].t)) h.evs[k])=stepS ((h.evs[k].scan.take j).foldl stepS (zfz (za1 (spE h k) (0,h.evs[k].t)) h.evs[k])) h.evs[k].scan[j]:=zg3 _ _ hj
    exact ⟨hj,_,_,_,_,by simp only [e];exact eA⟩
   ·have qj:=zaz hc68 lj
    refine rn ?_;have e:spE h (k+1)=(h.evs[k].scan.take j).foldl stepS (zfz (za1 (spE h k) (0,h.evs[k].t)) h.evs[k]):=by rw [spE,zg3 _ _ hk,H.stepE,zjh _ _ qj];rfl
    exact ⟨hk,_,_,_,_,by simp only [e];exact eA⟩
 ·have qk:=zaz hc22 lk
  refine rn ?_;refine zjk h.ords.length (fun k s0 s1 s2 s3=>⟨[(88,iv k),(1,pZ b1),(2,pZ b2),(3,pZ b3),(86,yci h.ords),(87,iv (h.ords.map zez).length)],[.row s0.v 1 3 (((spO h k) 0).map zai),.row s1.v 1 3 (((spO h k) 1).map zai),.row s2.v 1 3 (((spO h k) 2).map zai),.row s3.v 1 3 (((spO h k) 3).map zai),.box b3 154 [.v s0.v,.v s1.v,.v s2.v,.v s3.v],.box b2 154 [.v (.slice none 0 0),.v (.slice none 0 0),.v (.slice none 0 0),.v (.slice none 0 0)],.box b1 28 (y9 h)],[]⟩) _ _ _ _ (by rw [show spO h 0=spE h k from (zjh stepE noR qk).symm];exact es) ?_
  intro k s0 s1 s2 s3 lk
  refine rn ?_;refine z7 rfl (fun hc89=> ?_) (fun hc89=> ?_)
  ·have hk:=zay hc89
   have rk:=zag (f:=zez) hk
   have bd:=bdO la k lk
   have ls:=la.ordts h.ords[k] (List.getElem_mem hk)
   have le:=la.ords
   refine rn ?_;refine z8 rfl (y5 rfl fun b9=> ?_)
   refine rn ?_;refine qq rfl rfl (y8 rfl rfl (by decide) (by decide)) ?_
   refine rn ?_;refine z8 rfl (v2 rfl rfl (za3 (y0.of_fun (zbp _ _ _ (by have:=bd 2;omega)))) rfl ?_)
   rintro _ _ ⟨s',rfl,rfl⟩
   refine qq rfl rfl (y8 rfl rfl (by decide) (by decide)) ?_
   refine rn ?_;refine zjk h.ords[k].ts.length (fun j s0 s1 s2 s3=>⟨[(101,iv j),(1,pZ b1),(2,pZ b2),(3,pZ b3),(86,yci h.ords),(87,iv (h.ords.map zez).length),(88,iv k),(99,zaq h.ords[k].ts),(100,iv (h.ords[k].ts.map zai).length)],[.box b9 87 (zez h.ords[k]),.row s0.v 1 3 ((((h.ords[k].ts.take j).foldl zqa (za1 (spO h k) (2,h.ords[k].o))) 0).map zai),.row s1.v 1 3 ((((h.ords[k].ts.take j).foldl zqa (za1 (spO h k) (2,h.ords[k].o))) 1).map zai),.row s2.v 1 3 ((((h.ords[k].ts.take j).foldl zqa (za1 (spO h k) (2,h.ords[k].o))) 2).map zai),.row s3.v 1 3 ((((h.ords[k].ts.take j).foldl zqa (za1 (spO h k) (2,h.ords[k].o))) 3).map zai),.box b3 154 [.v s0.v,.v s1.v,.v s2.v,.v s3.v],.box b2 154 [.v (.slice none 0 0),.v (.slice none 0 0),.v (.slice none 0 0),.v (.slice none 0 0)],.box b1 28 (y9 h)],[]⟩) _ _ _ _ (es) ?_
   intro j s0 s1 s2 s3 lj
   refine rn ?_;refine z7 rfl (fun hc102=> ?_) (fun hc102=> ?_)
   ·have hj:=zay hc102
    have rj:=zag (f:=zai) hj
    have bj:=Bd.fold (c:=1) (l:=h.ords[k].ts.take j) (fun s _ L n h=>h.t s) (bd.f (2,h.ords[k].o))
    have bl:(h.ords[k].ts.take j).length≤3000:=by rw [List.length_take];omega
    refine rn ?_;refine qq rfl rfl (y8 rfl rfl (by decide) (by decide)) ?_
    refine rn ?_;refine z8 rfl (v2 rfl rfl (za3 (y0.of_fun (zbp _ _ _ (by have:=bj 0;omega)))) rfl ?_)
    rintro _ _ ⟨s',rfl,rfl⟩
    refine qq rfl rfl (y8 rfl rfl (by decide) (by decide)) ?_
    refine rn ?_;have e:(h.ords[k].ts.take (j+1)).foldl zqa (za1 (spO h k) (2,h.ords[k].o))=zqa ((h.ords[k].ts.take j).foldl zqa (za1 (spO h k) (2,h.ords[k].o))) h.ords[k].ts[j]:=zg3 _ _ hj
    exact ⟨hj,_,_,_,_,by simp only [e];exact eA⟩
   ·have qj:=zaz hc102 lj
    refine rn ?_;have e:spO h (k+1)=(h.ords[k].ts.take j).foldl zqa (za1 (spO h k) (2,h.ords[k].o)):=by rw [spO,zg3 _ _ hk,zr2,zjh _ _ qj];rfl
    exact ⟨hk,_,_,_,_,by simp only [e];exact eA⟩
  ·have qk:=zaz hc89 lk
   refine rn ?_;refine zjk h.mats.length (fun k s0 s1 s2 s3=>⟨[(115,iv k),(1,pZ b1),(2,pZ b2),(3,pZ b3),(113,zze h.mats),(114,iv (h.mats.map zeq).length)],[.row s0.v 1 3 (((spM h k) 0).map zai),.row s1.v 1 3 (((spM h k) 1).map zai),.row s2.v 1 3 (((spM h k) 2).map zai),.row s3.v 1 3 (((spM h k) 3).map zai),.box b3 154 [.v s0.v,.v s1.v,.v s2.v,.v s3.v],.box b2 154 [.v (.slice none 0 0),.v (.slice none 0 0),.v (.slice none 0 0),.v (.slice none 0 0)],.box b1 28 (y9 h)],[]⟩) _ _ _ _ (by rw [show spM h 0=spO h k from (zjh zr2 _ qk).symm];exact es) ?_
   intro k s0 s1 s2 s3 lk
   refine rn ?_;refine z7 rfl (fun hc116=> ?_) (fun hc116=> ?_)
   ·have hk:=zay hc116
    have rk:=zag (f:=zeq) hk
    have bd:=bdM la k lk
    have ls:=la.matts h.mats[k] (List.getElem_mem hk)
    have le:=la.mats
    refine rn ?_;refine z8 rfl (y5 rfl fun b13=> ?_)
    refine rn ?_;refine qq rfl rfl (y8 rfl rfl (by decide) (by decide)) ?_
    refine rn ?_;refine z8 rfl (v2 rfl rfl (za3 (y0.of_fun (zbp _ _ _ (by have:=bd 3;omega)))) rfl ?_)
    rintro _ _ ⟨s',rfl,rfl⟩
    refine qq rfl rfl (y8 rfl rfl (by decide) (by decide)) ?_
    refine rn ?_;refine qq rfl rfl (y8 rfl rfl (by decide) (by decide)) ?_
    refine rn ?_;refine z8 rfl (v2 rfl rfl (za3 (y0.of_fun (zbp _ _ _ (by have:=bd 2;omega)))) rfl ?_)
    rintro _ _ ⟨s',rfl,rfl⟩
    refine qq rfl rfl (y8 rfl rfl (by decide) (by decide)) ?_
    refine rn ?_;refine zjk h.mats[k].ts.length (fun j s0 s1 s2 s3=>⟨[(134,iv j),(1,pZ b1),(2,pZ b2),(3,pZ b3),(113,zze h.mats),(114,iv (h.mats.map zeq).length),(115,iv k),(132,zaq h.mats[k].ts),(133,iv (h.mats[k].ts.map zai).length)],[.box b13 109 (zeq h.mats[k]),.row s0.v 1 3 ((((h.mats[k].ts.take j).foldl zqa (za1 (za1 (spM h k) (3,h.mats[k].p)) (2,h.mats[k].o))) 0).map zai),.row s1.v 1 3 ((((h.mats[k].ts.take j).foldl zqa (za1 (za1 (spM h k) (3,h.mats[k].p)) (2,h.mats[k].o))) 1).map zai),.row s2.v 1 3 ((((h.mats[k].ts.take j).foldl zqa (za1 (za1 (spM h k) (3,h.mats[k].p)) (2,h.mats[k].o))) 2).map zai),.row s3.v 1 3 ((((h.mats[k].ts.take j).foldl zqa (za1 (za1 (spM h k) (3,h.mats[k].p)) (2,h.mats[k].o))) 3).map zai),.box b3 154 [.v s0.v,.v s1.v,.v s2.v,.v s3.v],.box b2 154 [.v (.slice none 0 0),.v (.slice none 0 0),.v (.slice none 0 0),.v (.slice none 0 0)],.box b1 28 (y9 h)],[]⟩) _ _ _ _ (es) ?_
    intro j s0 s1 s2 s3 lj
    refine rn ?_;refine z7 rfl (fun hc135=> ?_) (fun hc135=> ?_)
    ·have hj:=zay hc135
     have rj:=zag (f:=zai) hj
     have bj:=Bd.fold (c:=1) (l:=h.mats[k].ts.take j) (fun s _ L n h=>h.t s) ((bd.f (3,h.mats[k].p)).f (2,h.mats[k].o))
     have bl:(h.mats[k].ts.take j).length≤3000:=by rw [List.length_take];omega
     refine rn ?_;refine qq rfl rfl (y8 rfl rfl (by decide) (by decide)) ?_
     refine rn ?_;refine z8 rfl (v2 rfl rfl (za3 (y0.of_fun (zbp _ _ _ (by have:=bj 0;omega)))) rfl ?_)
     rintro _ _ ⟨s',rfl,rfl⟩
     refine qq rfl rfl (y8 rfl rfl (by decide) (by decide)) ?_
     refine rn ?_;have e:(h.mats[k].ts.take (j+1)).foldl zqa (za1 (za1 (spM h k) (3,h.mats[k].p)) (2,h.mats[k].o))=zqa ((h.mats[k].ts.take j).foldl zqa (za1 (za1 (spM h k) (3,h.mats[k].p)) (2,h.mats[k].o))) h.mats[k].ts[j]:=zg3 _ _ hj
     exact ⟨hj,_,_,_,_,by simp only [e];exact eA⟩
    ·have qj:=zaz hc135 lj
     refine rn ?_;have e:spM h (k+1)=(h.mats[k].ts.take j).foldl zqa (za1 (za1 (spM h k) (3,h.mats[k].p)) (2,h.mats[k].o)):=by rw [spM,zg3 _ _ hk,zuf,zjh _ _ qj];rfl
     exact ⟨hk,_,_,_,_,by simp only [e];exact eA⟩
   ·have qk:=zaz hc116 lk
    refine rn ?_;refine zjk h.wants.length (fun k s0 s1 s2 s3=>⟨[(148,iv k),(2,pZ b2),(3,pZ b3),(146,yll h.wants),(147,iv (h.wants.map zf4).length)],[.row s0.v 1 3 (((spW h k) 0).map zai),.row s1.v 1 3 (((spW h k) 1).map zai),.row s2.v 1 3 (((spW h k) 2).map zai),.row s3.v 1 3 (((spW h k) 3).map zai),.box b3 154 [.v s0.v,.v s1.v,.v s2.v,.v s3.v],.box b2 154 [.v (.slice none 0 0),.v (.slice none 0 0),.v (.slice none 0 0),.v (.slice none 0 0)],.box b1 28 (y9 h)],[]⟩) _ _ _ _ (by rw [show spW h 0=spM h k from (zjh zuf _ qk).symm];exact es) ?_
    intro k s0 s1 s2 s3 lk
    refine rn ?_;refine z7 rfl (fun hc149=> ?_) (fun hc149=> ?_)
    ·have hk:=zay hc149
     have rk:=zag (f:=zf4) hk
     have bd:=bdW la k lk
     have le:=la.wants
     refine rn ?_;refine z8 rfl (y5 rfl fun b17=> ?_)
     refine rn ?_;refine qq rfl rfl (y8 rfl rfl (by decide) (by decide)) ?_
     refine rn ?_;refine z8 rfl (v2 rfl rfl (za3 (y0.of_fun (zbp _ _ _ (by have:=bd 1;omega)))) rfl ?_)
     rintro _ _ ⟨s',rfl,rfl⟩
     refine qq rfl rfl (y8 rfl rfl (by decide) (by decide)) ?_
     refine rn ?_;have e:spW h (k+1)=ygb (spW h k) h.wants[k]:=zg3 _ _ hk
     exact ⟨hk,_,_,_,_,by simp only [e];exact eA⟩
    ·have qk:=zaz hc149 lk
     refine rn ?_;exact zef (.cons _ _ _ _ (.agg _ _ _ _ _ _ _ rfl inferInstance inferInstance inferInstance rfl) .nil) (.trans (zbi [] _) (.trans (zbi [_] _) (.trans (zbi [_,_] _) (.trans (zbi [_,_,_] _) (.drop [_,_,_] _ _))))) ⟨rfl,by rw [←show spW h k=zcl h from zjh _ _ qk];rfl⟩
theorem ygu (h:Hist) (la:Lim 4611686018427387904 h):y7 Tryz.prog 65 [.agg (y9 h)] [] (fun r h'=>h'= []∧r=bv (zj3 h)):=by
 refine z6 Tryz.func65 rfl rfl rfl ?_
 refine rn ?_;refine z8 rfl (w8 rfl rfl rfl fun b1=> ?_)
 refine rn ?_;refine qv rfl rfl (y2 rfl rfl (u3 (ybq h la) (Sbs.refl _))) ?_
 refine rn ?_;refine z7 rfl (fun hc10=> ?_) (fun hc10=> ?_)
 ·refine rn ?_;refine rq 1 ?_
  exact ⟨rfl,congrArg bv (by rw [ymf (by simpa using hc10)])⟩
 ·have hs:zae h=true:=by simpa using hc10
  have la3:=zo7 hs
  refine rn ?_;refine qv rfl rfl (y2 rfl rfl (u3 (ybp h la3) (Sbs.refl _))) ?_
  refine rn ?_;refine zcj (4) (fun k:Nat=>∀j,j < k→okS h j=true) (fun k=> [(13,iv k)]) [(1,_),(12,_)] (fun j hj=>by omega) ?_
  intro k lk zk
  refine rn ?_;refine z7 rfl (fun hc14=> ?_) (fun hc14=> ?_)
  ·have hk:k < 4:=by simp at hc14;omega
   have r0:=yt0 h hk
   have r1:=ynj h hk
   have bl:=zym la3 k
   refine rn ?_;refine z7 rfl (fun hc35=> ?_) (fun hc35=> ?_)
   ·refine rn ?_;refine rq 1 ?_
    exact ⟨rfl,congrArg bv (by rw [ybn hk];rw [okS,beq_eq_false_iff_ne.2 (by simp at hc35;omega),Bool.false_and])⟩
   ·have hlen:(zcl h k).length=(nmK h k).length:=by simp at hc35;omega
    refine rn ?_;refine zcj ((zcl h k).length) (fun i:Nat=>zfl 0 (zcl h k)=zfl i ((zcl h k).drop i)) (fun i=> [(38,iv i)]) [(1,_),(12,_),(13,_),(36,_),(37,_)] rfl ?_
    intro i li zi
    refine rn ?_;refine z7 rfl (fun hc39=> ?_) (fun hc39=> ?_)
    ·have hi:=zay hc39
     have ri:=zag (f:=zai) hi
     refine rn ?_;refine z7 rfl (fun hc45=> ?_) (fun hc45=> ?_)
     ·refine rn ?_;refine rq 1 ?_
      exact ⟨rfl,congrArg bv (by rw [ybn hk];rw [okS,ypi hi zi (by simp at hc45;omega),Bool.and_false])⟩
     ·refine rn ?_;exact ⟨hi,yao hi zi (by simp at hc45;omega),eA⟩
    ·have qi:=zaz hc39 li
     refine rn ?_;exact ⟨hk,fun j hj=>(Nat.lt_or_ge j k).elim (zk j) (fun q=>by
      obtain rfl:j=k:=by omega
      rw [okS,hlen,ypj qi zi];simp),eA⟩
  ·have qk:k=4:=by simp at hc14;omega
   subst qk
   refine rn ?_;refine rq 1 ?_
   exact ⟨rfl,congrArg bv (by rw [yme hs zk])⟩
theorem zsg (h:Hist) (la:Lim 4611686018427387904 h):y7 Tryz.prog 65 [.agg (y9 h)] [] (fun r h'=>h'= []∧r=bv (zfs h)):=
 (ygu h la).mono fun _ _ q=>⟨q.1,by rw [q.2,ybo]⟩
attribute [local irreducible] zeb jch zfn
theorem zpj {l:List Ev} {t x:Int} {j:Nat} (h:j < l.length) (hw:zam t x l[j]=true):zc8 l t x (j+1)=some (l[j].v,j):=by
 rw [zc8,List.getElem?_eq_getElem h];simp only [hw,if_true]
theorem zg1 {l:List Ev} {t x:Int} {j:Nat} (h:j < l.length) (hw:zam t x l[j]=false):zc8 l t x (j+1)=zc8 l t x j:=by
 rw [zc8,List.getElem?_eq_getElem h];simp [hw]
theorem ygp {l:List Ev} {j:Nat} (h:j < l.length):(l.map evR)[(((j+1:Nat):Int) - 1).toNat]? =some (evR l[j]):=by
 rw [show (((j+1:Nat):Int) - 1).toNat=j by omega,List.getElem?_map,List.getElem?_eq_getElem h];rfl
theorem ykl (a b:Int):(decide (a ≥ 0) && decide (a < b))=decide (0≤a∧a < b):=by
 rw [Bool.eq_iff_iff];simp only [Bool.and_eq_true,decide_eq_true_eq,ge_iff_le]
theorem ygl {l:List Ev} {a:Nat} {t x:Int} (ha:a < l.length):zc8 l t x a=zi0 (l.take a) t x:=by
 rw [zi0,zpm (by rw [List.length_take];omega),List.length_take,Nat.min_eq_left (by omega)]
theorem zmz {α:Type} {l:List α} {q:α→Bool} {k:Nat} (hk:k < l.length):(l.take (k+1)).all q=((l.take k).all q && q l[k]):=by
 rw [List.take_succ_eq_append_getElem hk,List.all_append,List.all_cons,List.all_nil,Bool.and_true]
theorem ygs (h:Hist) (la:Lim 4611686018427387904 h):y7 Tryz.prog 66 [.agg (y9 h)] [] (fun r h'=>h'= []∧r=bv (zar h)):=by
 refine z6 Tryz.func66 rfl rfl rfl ?_
 refine rn ?_;refine z8 rfl (w8 rfl rfl rfl fun b1=> ?_)
 refine rn ?_;refine qv rfl rfl (y2 rfl rfl (u3 (zsg h la) (Sbs.refl _))) ?_
 refine rn ?_;refine z7 rfl (fun hc7=> ?_) (fun hc7=> ?_)
 ·have hm:zfs h=false:=by simpa using hc7
  refine rn ?_;refine rq 1 ?_
  exact ⟨rfl,congrArg bv (by rw [zar,hm];rfl)⟩
 ·have hm:zfs h=true:=by simpa using hc7
  refine rn ?_;refine qv rfl rfl (y2 rfl rfl (u3 (zyw h ((zq4 hm).mono (by decide))) (Sbs.refl _))) ?_
  obtain ⟨bi,bj,be⟩:=yet (zba (ze2 h) rules10)
  rw [be]
  refine rn ?_;refine z8 rfl (y5 rfl fun b3=> ?_)
  refine rn ?_;refine rq 2 ?_
  exact ⟨rfl,congrArg bv (by rw [zar,hm,show zkf h=zba (ze2 h) rules10 from zxo hm];cases zba (ze2 h) rules10 <;> rfl)⟩
theorem zyy (h:Hist) (la:Lim 4611686018427387904 h):y7 Tryz.prog 16 [.agg (y9 h)] [] (fun r h'=>h'= []∧r=iv (v6 h)):=by
 refine z6 Tryz.func16 rfl rfl rfl ?_
 refine rn ?_;refine z8 rfl (w8 rfl rfl rfl fun b1=> ?_)
 refine rn ?_;refine qv rfl rfl (y2 rfl rfl (u3 (zsg h la) (Sbs.refl _))) ?_
 refine rn ?_;refine z7 rfl (fun hc5=> ?_) (fun hc5=> ?_)
 ·have hm:zfs h=false:=by simpa using hc5
  refine rn ?_;refine rq 1 ?_
  exact ⟨rfl,by rw [v6,hm];rfl⟩
 ·have hm:zfs h=true:=by simpa using hc5
  refine rn ?_;refine qv rfl rfl (y2 rfl rfl (u3 (ygs h la) (Sbs.refl _))) ?_
  refine rn ?_;refine z7 rfl (fun hc8=> ?_) (fun hc8=> ?_)
  ·refine rn ?_;refine rq 1 ?_
   exact ⟨rfl,by rw [v6,hm,if_pos rfl,if_neg (by simpa using hc8)];rfl⟩
  ·refine rn ?_;refine rq 1 ?_
   exact ⟨rfl,by rw [v6,hm,if_pos rfl,if_pos (by simpa using hc8)];rfl⟩
theorem zkz (h:Hist) (la:h.evs.length≤1000000) (t x:Int):y7 Tryz.prog 75 [.agg (y9 h),iv t,iv x] [] (fun r h'=>h'= []∧r= .tup [.agg (zyk (zqk (zi0 h.evs t x))),iv (atO (zi0 h.evs t x)),bv (zi0 h.evs t x).isSome]):=by
 refine z6 Tryz.func75 rfl rfl rfl ?_
 refine rn ?_;refine z8 rfl (w8 rfl rfl rfl fun b3=> ?_)
 refine z8 rfl (y5 rfl fun b6=> ?_)
 refine q1 ?_;refine q1 ?_;refine u4 (zac ?_)
 refine w9 ?_;refine w9 (y6 ?_)
 refine q1 ?_;refine q1 ?_;refine q1 ?_;refine qq rfl rfl (zci rfl rfl rfl (by rw [oM];omega)) ?_
 refine rn ?_;refine zmy (fun k:Nat=>k≤h.evs.length∧zc8 h.evs t x h.evs.length=zc8 h.evs t x k) (fun k=>⟨[(9,iv ((k:Int) - 1)),(1,iv t),(2,iv x),(3,pZ b3),(6,pZ b6),(7,iv 0),(8,bv false)],.box b6 57 [iv 0,iv 0]:: .box b3 28 (y9 h):: [],[]⟩) (fun k=>k) h.evs.length ⟨Nat.le_refl _,rfl⟩ (by rw [oM];exact es) ?_
 rintro k ⟨lk,zk⟩
 refine rn ?_;refine z7 rfl (fun hc16=> ?_) (fun hc16=> ?_)
 ·obtain ⟨j,rfl⟩:∃j,k=j+1:=⟨k - 1,by have:=oT hc16;omega⟩
  have hj:j < h.evs.length:=by omega
  refine za7 ?_;refine zac ?_;refine w9 ?_;refine zb9 ?_;refine w9 (y6 ?_)
  refine q1 ?_;refine q1 ?_;refine q1 ?_;refine qq rfl rfl (zau rfl rfl (by omega) (ygp hj)) ?_
  refine rn ?_;refine z8 rfl (y5 rfl fun b10=> ?_)
  refine rn ?_;refine w7 (fun hg5_3=> ?_) (fun hg5_3=> ?_)
  ·refine rn ?_;refine w7 (fun hg5_9=> ?_) (fun hg5_9=> ?_)
   ·refine rn ?_;refine z7 rfl (fun hc38=> ?_) (fun hc38=> ?_)
    ·have hw:zam t x h.evs[j]=true:=by rw [zam];first|(rw [hg5_3,hg5_9,hc38];rfl)|(rw [hg5_3,hg5_9];rfl)|(rw [hg5_3];rfl)
     refine rn ?_;exact zef (.cons _ _ _ _ (.agg _ _ _ _ _ _ _ rfl inferInstance inferInstance inferInstance rfl) (.cons _ _ _ _ (.tmp _ _ rfl) (.cons _ _ _ _ (.tmp _ _ rfl) .nil))) (.drop [_,_,_] _ _) ⟨rfl,by rw [zi0,zk,zpj hj hw];simp only [zqk,atO];rw [show (((j+1:Nat):Int) - 1)=(j:Int) by omega];rfl⟩
    ·have hw:zam t x h.evs[j]=false:=by rw [zam];first|(rw [hg5_3,hg5_9,hc38];rfl)|(rw [hg5_3,hg5_9];rfl)|(rw [hg5_3];rfl)
     refine za7 ?_;refine zh2 ?_;refine zac ?_;refine y6 ?_;refine q1 ?_;refine qq rfl rfl (zci rfl rfl rfl (by omega)) ?_
     refine rn ?_;exact ⟨j,⟨by omega,by rw [zk,zg1 hj hw]⟩,by rw [show (((j+1:Nat):Int) - 1 - 1)=(j:Int) - 1 by omega];exact eA,by omega⟩
   ·refine rn ?_;refine zd9 rfl ?_;have hw:zam t x h.evs[j]=false:=by rw [zam];first|(rw [hg5_3,hg5_9,hc38];rfl)|(rw [hg5_3,hg5_9];rfl)|(rw [hg5_3];rfl)
    refine za7 ?_;refine zh2 ?_;refine zac ?_;refine y6 ?_;refine q1 ?_;refine qq rfl rfl (zci rfl rfl rfl (by omega)) ?_
    refine rn ?_;exact ⟨j,⟨by omega,by rw [zk,zg1 hj hw]⟩,by rw [show (((j+1:Nat):Int) - 1 - 1)=(j:Int) - 1 by omega];exact eA,by omega⟩
  ·refine rn ?_;refine zd9 rfl ?_;have hw:zam t x h.evs[j]=false:=by rw [zam];first|(rw [hg5_3,hg5_9,hc38];rfl)|(rw [hg5_3,hg5_9];rfl)|(rw [hg5_3];rfl)
   refine za7 ?_;refine zh2 ?_;refine zac ?_;refine y6 ?_;refine q1 ?_;refine qq rfl rfl (zci rfl rfl rfl (by omega)) ?_
   refine rn ?_;exact ⟨j,⟨by omega,by rw [zk,zg1 hj hw]⟩,by rw [show (((j+1:Nat):Int) - 1 - 1)=(j:Int) - 1 by omega];exact eA,by omega⟩
 ·have qk:k=0:=by have:=oF hc16;omega
  subst qk
  refine zjl ?_;refine zi8 ?_;refine zi8 ?_;refine zex ?_;refine zac ?_;refine w9 (y6 ?_)
  refine qq rfl rfl (j6 (out:= [iv 0,iv 0]) rfl (by rfl)) ?_
  refine rn ?_;exact zef (.cons _ _ _ _ (.agg _ _ _ _ _ _ _ rfl inferInstance inferInstance inferInstance rfl) (.cons _ _ _ _ (.tmp _ _ rfl) (.cons _ _ _ _ (.tmp _ _ rfl) .nil))) (.drop [_,_] _ _) ⟨rfl,by rw [zi0,zk];rfl⟩
theorem yv0 {p:Int→Bool} {k:Nat} (h:p k=true):(upR (k+1)).filter p=(upR k).filter p++ [(k:Int)]:=by rw [zoj,List.filter_append,List.filter_cons_of_pos h];rfl
theorem yv1 {p:Int→Bool} {k:Nat} (h:p k=false):(upR (k+1)).filter p=(upR k).filter p:=by rw [zoj,List.filter_append,List.filter_cons_of_neg (by rw [h];decide)];simp
theorem ytw (p:Int→Bool) (k:Nat):((upR k).filter p).length≤k:=Nat.le_trans (List.length_filter_le _ _) (by rw [upR,oM,List.length_range];exact Nat.le_refl _)
theorem yia {h:Hist} {x:Int} {k:Nat} (hk:k < h.ords.length) (hx:(h.ords[k].o==x)=true) (hz:((h.ords.take k).all fun o:Ord=> !(o.o==x))=true):zby h x=h.ords[k].ts:=by
 have:h.ords.find? (fun o=>o.o==x)=some h.ords[k]:=by
  rw [List.find?_eq_some_iff_getElem]
  exact ⟨hx,k,hk,rfl,fun j hj=>by have:=List.all_eq_true.1 hz h.ords[j] (zgy (by omega) hj);exact this⟩
 rw [zby,this]
theorem ynx {h:Hist} {x:Int} (hz:(h.ords.all fun o:Ord=> !(o.o==x))=true):zby h x=zbl h x:=by
 have:h.ords.find? (fun o=>o.o==x)=none:=by
  rw [List.find?_eq_none];intro s hs q
  have:=List.all_eq_true.1 hz s hs
  rw [q] at this;cases this
 rw [zby,this]
theorem znu {h:Hist} {N:Nat} (la:Lim N h) (x:Int):(zby h x).length≤N:=by
 unfold zby
 split
 ·rename_i o ho;exact la.ordts o (List.mem_of_find?_eq_some ho)
 ·exact Nat.le_trans (zgl _ _) la.ts
def rkQ (h:Hist) (x:Int) (v:Ver) (t:Int):Bool:=zqk (zi0 h.evs t x)==v
def zhg (h:Hist) (x:Int) (v:Ver):Int×Bool:=if v=⟨0,0⟩ then (0,true) else if zbq (rkQ h x v) 0 (zby h x) ≥ 0 then (zbq (rkQ h x v) 0 (zby h x)+1,true) else (0,false)
theorem ypz {h:Hist} {x:Int} {v:Ver} {k:Nat} (hv:v≠⟨0,0⟩) (hk:k < (zby h x).length) (hq:rkQ h x v (zby h x)[k]=true) (hz:(((zby h x).take k).all fun t=> !rkQ h x v t)=true):zhg h x v=((k:Int)+1,true):=by
 have:zbq (rkQ h x v) 0 (zby h x)=(k:Int):=by
  have:=zvm (p:=rkQ h x v) (l:=zby h x) (i:=0) hk hq (fun j hj=>by
   have:=List.all_eq_true.1 hz (zby h x)[j] (zgy (by omega) hj)
   simpa using this)
  rw [this];congr 1;omega
 rw [zhg,if_neg hv,this,if_pos (by omega)]
theorem yt7 {h:Hist} {x:Int} {v:Ver} (hv:v≠⟨0,0⟩) (hz:((zby h x).all fun t=> !rkQ h x v t)=true):zhg h x v=(0,false):=by
 have:decide (zbq (rkQ h x v) 0 (zby h x) ≥ 0)=false:=by
  rw [zen,List.any_eq_false];intro t ht
  have:=List.all_eq_true.1 hz t ht
  simpa using this
 rw [zhg,if_neg hv,if_neg (oF this)]
theorem zsh (h:Hist) (la:Lim 1000000 h):y7 Tryz.prog 117 [.agg (y9 h)] [] (fun r h'=>h'= []∧r=zaq (zgi h)):=by
 refine z6 Tryz.func117 rfl rfl rfl ?_
 have bt:=la.ts
 refine rn ?_;refine z8 rfl (w8 rfl rfl rfl fun b1=> ?_)
 refine rn ?_;refine zda h.ts.length (fun k s=>⟨[(8,iv k),(3,.v s.v),(1,pZ b1),(7,iv (h.ts.map zeh).length)],.row s.v 1 3 (((upR k).filter (fun t:Int=>ze6 h.evs t 5)).map zai):: .box b1 28 (y9 h):: [],[]⟩) ⟨none,0,0⟩ (v8 (k9 1 3) es) ?_
 intro k s lk
 refine rn ?_;refine z7 rfl (fun hc9=> ?_) (fun hc9=> ?_)
 ·have hk:=zay hc9
  have rk:=zag (f:=zeh) hk
  refine rn ?_;refine qv rfl rfl (y2 rfl rfl (u3 (ybu h k (la.mono (by decide))) (Sbs.refl _))) ?_
  refine rn ?_;refine z7 rfl (fun hc13=> ?_) (fun hc13=> ?_)
  ·refine rn ?_;refine qv rfl rfl (q6 rfl rfl) ?_
   refine z8 rfl (u7 rfl rfl (by simp only [oM,List.length_cons,List.length_nil];have:=ytw (fun t:Int=>ze6 h.evs t 5) k;omega) rfl (fun s17=> ?_) (zgw [(k:Int)]))
   refine k7 s17 fun sv hsv=> ?_
   subst hsv
   refine rn ?_;first|exact ⟨hk,sv,by rw [yv0 (by exact hc13),List.map_append];exact eA⟩|exact ⟨hk,s,by rw [yv1 (by exact hc13)];exact eA⟩
  ·refine rn ?_;first|exact ⟨hk,sv,by rw [yv0 (by exact hc13),List.map_append];exact eA⟩|exact ⟨hk,s,by rw [yv1 (by exact hc13)];exact eA⟩
 ·have qk:=zaz hc9 lk
  refine rn ?_;exact j9 rfl (.trans zbr (.drop [_] _ _)) ⟨rfl,by rw [qk];rfl⟩
theorem zhv (h:Hist) (la:Lim 1000000 h) (x:Int):y7 Tryz.prog 74 [.agg (y9 h),iv x] [] (fun r h'=>h'= []∧r=zaq (zby h x)):=by
 refine z6 Tryz.func74 rfl rfl rfl ?_
 have bo:=la.ords
 refine rn ?_;refine z8 rfl (w8 rfl rfl rfl fun b2=> ?_)
 refine rn ?_;refine zcj (h.ords.length) (fun k:Nat=>((h.ords.take k).all fun o:Ord=> !(o.o==x))=true) (fun k=> [(10,iv k)]) [(1,_),(2,_),(8,_),(9,_)] rfl ?_
 intro k lk zk
 refine rn ?_;refine z7 rfl (fun hc11=> ?_) (fun hc11=> ?_)
 ·have hk:=zay hc11
  have rk:=zag (f:=zez) hk
  refine rn ?_;refine z8 rfl (y5 rfl fun b6=> ?_)
  refine rn ?_;refine z7 rfl (fun hc17=> ?_) (fun hc17=> ?_)
  ·refine rn ?_;refine rq 2 ?_
   exact ⟨rfl,by rw [yia hk hc17 zk];rfl⟩
  ·refine rn ?_;exact ⟨hk,by rw [zmz hk,zk,hc17];rfl,eA⟩
 ·have qk:=zaz hc11 lk
  rw [qk,List.take_length] at zk
  refine rn ?_;refine qv rfl rfl (y2 rfl rfl (u3 (zii h x la) (Sbs.refl _))) ?_
  refine rn ?_;refine rq 1 ?_
  exact ⟨rfl,by rw [ynx zk];rfl⟩
theorem ybs (h:Hist) (la:Lim 1000000 h) (x:Int) (v:Ver):y7 Tryz.prog 119 [.agg (y9 h),iv x,.agg (zyk v)] [] (fun r h'=>h'= []∧r= .tup [iv (zhg h x v).1,bv (zhg h x v).2]):=by
 refine z6 Tryz.func119 rfl rfl rfl ?_
 have be:=la.evs
 have bi:=znu la x
 refine rn ?_;refine z8 rfl (w8 rfl rfl rfl fun b3=> ?_)
 refine z8 rfl (w8 rfl rfl rfl fun b5=> ?_)
 refine q1 ?_;refine q1 ?_;refine u4 (zac ?_)
 refine w9 ?_;refine w9 (y6 ?_)
 refine q1 ?_;refine qq rfl rfl (j6 (out:= [iv 0,iv 0]) rfl (by rfl)) ?_
 refine rn ?_;refine z7 rfl (fun hc15=> ?_) (fun hc15=> ?_)
 ·have hv:v=⟨0,0⟩:=eq_of_beq (by rw [←zck];exact hc15)
  refine rn ?_;refine rq 2 ?_
  exact ⟨rfl,by rw [zhg,if_pos hv];rfl⟩
 ·have hv:v≠⟨0,0⟩:=beq_eq_false_iff_ne.1 (by rw [←zck];exact hc15)
  refine rn ?_;refine qv rfl rfl (y2 rfl rfl (u3 (zhv h la x) (Sbs.refl _))) ?_
  refine rn ?_;refine zcj ((zby h x).length) (fun k:Nat=>(((zby h x).take k).all fun t=> !rkQ h x v t)=true) (fun k=> [(20,iv k)]) [(1,_),(3,_),(5,_),(18,_),(19,_)] rfl ?_
  intro k lk zk
  refine rn ?_;refine z7 rfl (fun hc21=> ?_) (fun hc21=> ?_)
  ·have hk:=zay hc21
   have rk:=zag (f:=zai) hk
   refine rn ?_;refine qv rfl rfl (y2 rfl rfl (u3 (zkz h la.evs (zby h x)[k] x) (Sbs.refl _))) ?_
   refine rn ?_;refine z8 rfl (y5 rfl fun b10=> ?_)
   refine rn ?_;refine z7 rfl (fun hc35=> ?_) (fun hc35=> ?_)
   ·have hq:(zqk (zi0 h.evs (zby h x)[k] x)==v)=true:=by rw [←zck];exact hc35
    refine w9 (y6 ?_)
    refine q1 ?_;refine qq rfl rfl (zci rfl rfl rfl (by omega)) ?_
    refine rn ?_;refine rq 3 ?_
    exact ⟨rfl,by rw [ypz hv hk hq zk];rfl⟩
   ·have hq:(zqk (zi0 h.evs (zby h x)[k] x)==v)=false:=by rw [←zck];exact hc35
    refine rn ?_;exact ⟨hk,by rw [zmz hk,zk,rkQ,hq];rfl,eA⟩
  ·have qk:=zaz hc21 lk
   rw [qk,List.take_length] at zk
   refine rn ?_;refine rq 2 ?_
   exact ⟨rfl,by rw [yt7 hv zk];rfl⟩
def wlM (l:List Ev):Nat→List ((Int×Int)×Int)
 |0=> []
 |k+1=>match l[k]? with
  |some e=>if (e.kind==2)=true then zdw (e.t,e.o) (k:Int) (wlM l k) else wlM l k
  |none=>wlM l k
theorem ylh {l:List Ev} {k:Nat} (hk:k < l.length) (hw:(l[k].kind==2)=true):wlM l (k+1)=zdw (l[k].t,l[k].o) (k:Int) (wlM l k):=by
 rw [wlM,List.getElem?_eq_getElem hk];simp only [hw,if_true]
theorem yli {l:List Ev} {k:Nat} (hk:k < l.length) (hw:(l[k].kind==2)=false):wlM l (k+1)=wlM l k:=by
 rw [wlM,List.getElem?_eq_getElem hk];simp only [hw];rfl
theorem yai (l:List Ev) (t x:Int):∀k,k≤l.length→(za9 (t,x) (wlM l k)).getD 0=atO (zc8 l t x k)
 |0,_=>rfl
 |k+1,hk=>by
  have ih:=yai l t x k (by omega)
  have hk':k < l.length:=hk
  cases hw:l[k].kind==2 with
  |false=>
   have:zam t x l[k]=false:=by rw [zam,hw];rfl
   rw [yli hk' hw,zg1 hk' this,ih]
  |true=>
   rw [ylh hk' hw,zce]
   cases hq:zam t x l[k] with
   |true=>
    rw [zpj hk' hq,if_pos]
    ·rfl
    ·simp only [zam,Bool.and_eq_true,beq_iff_eq] at hq
     rw [hq.1.2,hq.2]
   |false=>
    rw [zg1 hk' hq,if_neg,ih]
    intro e
    rw [Prod.mk.injEq] at e
    simp [zam,hw,e.1,e.2] at hq
theorem zwe (h:Hist) (t x:Int):(za9 (t,x) (wlM h.evs h.evs.length)).getD 0=zc9 h t x:=yai _ _ _ _ (Nat.le_refl _)
abbrev ykm (h:Hist):AV:= .list false 1 (((upR h.os.length).map (za0 h)).map ygq)
abbrev zch (h:Hist) (rm:Nat):Res:= .map rm (zal za2 (zbe iv (wlM h.evs h.evs.length)))
theorem zkd (h:Hist) {x:Int} (h0:0≤x) (h1:x < h.os.length):(((upR h.os.length).map (za0 h)).map ygq)[x.toNat]? =some (ygq (za0 h x)):=by
 have hx:(upR h.os.length)[x.toNat]? =some x:=by
  rw [upR,List.getElem?_map,List.getElem?_range (by omega)];simp [Int.toNat_of_nonneg h0]
 rw [List.getElem?_map,List.getElem?_map,hx];rfl
theorem yki (h:Hist) (la:Lim 4611686018427387904 h) (hc:v6 h=0) (x:Int) (h0:0≤x) (h1:x < h.os.length):y7 Tryz.prog 101 [.agg (y9 h),iv x] (.glob 2 156 y3:: .glob 4 305 y4:: .glob 5 308 y1:: .glob 3 246 q7:: []) (fun r h'=>h'= .glob 2 156 y3:: .glob 4 305 y4:: .glob 5 308 y1:: .glob 3 246 q7:: []∧r= .tup [zaq (za0 h x),iv 0]):=(ykh h la x).mono fun _ _ q=>⟨q.1,by rw [q.2,zv6 hc ⟨h0,h1⟩];rfl⟩
theorem zlt {h:Hist} (hc:v6 h=0) {x:Int} (h0:0≤x) (h1:x < h.os.length):(za0 h x).length≤3000:=by
 rw [(zjg (za6.1 hc) h0 h1).2.1]
 exact Nat.le_trans (zkq h.evs x) (zb8 hc).evs
end Go.Proofs
namespace Go.H
open Go Go.Ab
def yda (k:Int):Int:=if k=3 then 3 else if k=4 then 4 else 0
def KO (o:Obj):Prop:=∃(ents:Array MapEntry) (clock:Nat) (m:List (Int×Int)),o= .map ents clock∧ents.toList.map (·.key)=(m.map (·.1)).map intK∧(∀i (h1:i < m.length) (h2:i < ents.size),ents[i].val= .int .i64 m[i].2)∧m.length=ents.size∧∀k,(za9 k m).getD 0=yda k
section
variable {P:Program} {dst:Option Tmp} {ty:TypeId} {pos:String} {after:Array Edge} {guard:Option (Nat×Bool)} {x y:Operand} {h:List Res} {f:Operand→Option AV} {kt et T:TypeId} {r i:Nat} {k:Int}
theorem yg9 {kv:AV} {o:Obj} {z:Value} (ho:KO o) (hx:f x=some (.v (.map (some r)))) (hy:f y=some kv) [hkv:KeyV kv (intK k)] [hm:HasObj h r i o] [hu:Und P T (.map kt et)] [hkt:KeyT P kt intK] [hz:ZerV P et z] [hd:ZV z (iv 0)]:
 QR P h f ⟨dst,.lookup T x y false,ty,pos,after,guard⟩ (iv (yda k)):=by
 obtain ⟨ents,clock,m,rfl,hks,hv,hl,hk⟩:=ho
 rw [←hk]
 refine zhx (b:=iv ((za9 k m).getD 0)) (a:=(zdx k (zbe iv m)).getD (.v z)) (fun w O v hr=>zml hr) fun X ρ w hev=> ?_
 have hob:=(hev.heap.holds _ (List.mem_of_getElem? hm.h)).1
 have hl':(zbe iv m).length=ents.toList.length:=by simpa [zbe] using hl
 have hks':ents.toList.map (·.key)=((zbe iv m).map (·.1)).map intK:=by rw [hks];simp [zbe]
 have hfind:=hkt.find w k ents.toList ((zbe iv m).map (·.1)) hks'
 have hkey:=hkv.h w _ _ (hev.rel y _ hy)
 rcases zld k (zbe iv m) ents.toList 0 hl' with ⟨a,b,c⟩|⟨j,g1,g2,a,b,c,d⟩
 ·refine ⟨z,run_v _ ?_,by rw [b];exact .v _⟩
  rw [(hev.rel x _ hx).v_eq,hkey]
  simp only [Instr.lookup,Sem.run_bind,Go.Ab.run_underlying (h:=hu),Result.andThen_ok,MapKept.run_getObj_map hob,Sem.run_pure,hkt.chk,hfind]
  rw [a]
  simp [run_zeroValue hz.h]
 ·have g3:j < m.length:=by simpa [zbe] using g1
  refine ⟨(ents[j]'(by simpa using g2)).val,run_v _ ?_,?_⟩
  ·rw [(hev.rel x _ hx).v_eq,hkey]
   simp only [Instr.lookup,Sem.run_bind,Go.Ab.run_underlying (h:=hu),Result.andThen_ok,MapKept.run_getObj_map hob,Sem.run_pure,hkt.chk,hfind]
   rw [a]
   simp
  ·rw [b,hv j g3 (by omega)]
   simp only [zbe,List.getElem_map,Option.getD_some]
   exact .v _
end
end Go.H
set_option maxRecDepth 10000
namespace Go.Proofs
open Go Go.Ab
attribute [local irreducible] QR QV OE zcr aw zdc zdn zbj zcg thn zff zeb jch zfn
open Go.H
abbrev rcR (h:Hist) (rc:Nat):Res:= .map rc (zal intK (zbe bv (dnM (zdd h.evs))))
abbrev rkS (h:Hist) (rk:Nat):Res:= .map rk (zal zds (zbe iv (rkM h h.os.length)))
abbrev rgR (rg:Nat) (M:List ((Int×Int)×List Int)):Res:= .map rg (zal za2 (zbe zaq M))
abbrev rwP (h:Hist) (rc rl rk rg:Nat):List AV:=y9 h++ [mpv rc,ykm h,mpv rl,mpv rk,mpv rg]
instance:ZV (.slice none 0 0) (zaq []):=⟨fun w O u h=>by rw [h.v_eq];exact .lnil _ _ _ _ (fun q=>by cases q)⟩
theorem yp3 (h:Hist) (n:Nat):rkM h (n+1)=zht h n 0 (za0 h n) (zdw (zry n ⟨0,0⟩) 0 (rkM h n)):=rfl
def zfy (h:Hist) (M:List ((Int×Int)×List Int)):Prop:=∀p l,za9 p M=some l→l=chL h p.1 p.2
theorem zmv (h:Hist):zfy h []:=fun p l e=>by cases e
theorem zmu {h:Hist} {M:List ((Int×Int)×List Int)} (hM:zfy h M) (p x:Int):zfy h (zdw (p,x) (chL h p x) M):=fun q l e=>by
 rw [zce] at e
 split at e
 ·rename_i z;injection e with e;rw [←e,←z]
 ·exact hM q l e
theorem zmw {h:Hist} {M:List ((Int×Int)×List Int)} (hM:zfy h M) {p x:Int} (hs:(!(za9 (p,x) M).isSome)=false):(za9 (p,x) M).getD []=chL h p x:=by
 cases hq:za9 (p,x) M with
 |none=>rw [hq] at hs;simp at hs
 |some v=>exact hM (p,x) v hq
theorem zx0 {h:Hist} {M:List ((Int×Int)×List Int)} (p x:Int):(za9 (p,x) (zdw (p,x) (chL h p x) M)).getD []=chL h p x:=by rw [zce,if_pos rfl];rfl
instance:Chk3 Tryz.prog 170:=⟨fun e w a b c=>by kernel_rfl⟩
theorem ywj (h:Hist) (la:Lim 4611686018427387904 h):y7 Tryz.prog 87 [.agg (y9 h)] (.glob 2 156 y3:: .glob 4 305 y4:: .glob 5 308 y1:: .glob 3 246 q7:: []) (fun r h'=>(v6 h=0∧∃rc rl rk rg,h'=rgR rg []::rkS h rk::zch h rl::rcR h rc:: .glob 2 156 y3:: .glob 4 305 y4:: .glob 5 308 y1:: .glob 3 246 q7:: []∧r= .tup [.agg (rwP h rc rl rk rg),iv 0])∨(v6 h≠0∧h'= .glob 2 156 y3:: .glob 4 305 y4:: .glob 5 308 y1:: .glob 3 246 q7:: []∧r= .tup [.agg (zox++ [nmp,.v (.slice none 0 0),nmp,nmp,nmp]),iv (v6 h)])):=by
 refine z6 Tryz.func87 rfl rfl rfl ?_
 refine rn ?_;refine z8 rfl (w8 rfl rfl rfl fun b1=> ?_)
 refine z8 rfl (y5 rfl fun b2=> ?_)
 refine rn ?_;refine qv rfl rfl (y2 rfl rfl (y0.qt (y0.of_fun (ydc h la)) ((pt2 _ _ _ _).trans (.cons _ ((pt2 _ _ _ _).trans (.cons _ ((pt2 _ _ _ _).trans (.cons _ (pt2 _ _ _ _))))))))) ?_
 refine rn ?_;refine z7 rfl (fun hc22=> ?_) (fun hc22=> ?_)
 ·have hc:=nzT hc22
  refine rn ?_;exact zef (.cons _ _ _ _ (.agg _ _ _ _ _ _ _ rfl inferInstance inferInstance inferInstance rfl) (.cons _ _ _ _ (.tmp _ _ rfl) .nil)) (.drop [_,_] _ _) (.inr ⟨hc,rfl,rfl⟩)
 ·have hc:=nzF hc22
  have hts:onE (v6 h) (zdd h.evs)=(zdd h.evs):=by rw [hc,onE,if_pos rfl]
  rw [hts]
  have hs:=za6.1 hc
  have lA:=zb8 hc
  have lO:=lA.os
  have lE:=lA.evs
  have bC:=Nat.le_trans (zvy h.evs) lA.evs
  refine rn ?_;refine z8 rfl (zax (enc:=intK) rfl fun b26=> ?_)
  refine z8 rfl (zax (enc:=za2) rfl fun b27=> ?_)
  refine z8 rfl (zax (enc:=zds) rfl fun b28=> ?_)
  refine z8 rfl (zax (enc:=za2) rfl fun b29=> ?_)
  refine qq rfl rfl (j6 (out:=y9 h++ [mpv b26,.v (.slice none 0 0),mpv b27,mpv b28,mpv b29]) rfl (by rfl)) ?_
  refine z8 rfl (y5 rfl fun b6=> ?_)
  refine rn ?_;refine zb7 (zdd h.evs).length (fun _=>True) (fun k=>⟨[(33,iv k),(1,pZ b1),(2,pZ b2),(6,pZ b6),(31,zaq (zdd h.evs)),(32,iv ((zdd h.evs).map zai).length)],.box b6 119 (y9 h++ [mpv b26,.v (.slice none 0 0),mpv b27,mpv b28,mpv b29]):: .map b29 (zal za2 (zbe zaq [])):: .map b28 (zal zds (zbe iv [])):: .map b27 (zal za2 (zbe iv (wlM h.evs 0))):: .map b26 (zal intK (zbe bv (dnM ((zdd h.evs).take k)))):: .box b2 119 (zox++ [nmp,.v (.slice none 0 0),nmp,nmp,nmp]):: .box b1 28 (y9 h):: .glob 2 156 y3:: .glob 4 305 y4:: .glob 5 308 y1:: .glob 3 246 q7:: [],[]⟩) trivial es ?_
  intro k lk _
  refine rn ?_;refine z7 rfl (fun hc34=> ?_) (fun hc34=> ?_)
  ·have hk:=zay hc34
   have rk:=zag (f:=zai) hk
   refine rn ?_;refine z8 rfl (zan (g:=bv) (enc:=intK) (k:=(zdd h.evs)[k]) (v:=true) rfl rfl rfl ?_)
   refine rn ?_;exact ⟨hk,trivial,by rw [ysi hk];exact eA⟩
  ·have qk:=zaz hc34 lk
   rw [qk,List.take_length]
   refine rn ?_;refine zb7 h.evs.length (fun _=>True) (fun j=>⟨[(44,iv j),(1,pZ b1),(2,pZ b2),(6,pZ b6),(42,znz h.evs),(43,iv (h.evs.map evR).length)],.box b6 119 (y9 h++ [mpv b26,.v (.slice none 0 0),mpv b27,mpv b28,mpv b29]):: .map b29 (zal za2 (zbe zaq [])):: .map b28 (zal zds (zbe iv [])):: .map b27 (zal za2 (zbe iv (wlM h.evs j))):: .map b26 (zal intK (zbe bv (dnM (zdd h.evs)))):: .box b2 119 (zox++ [nmp,.v (.slice none 0 0),nmp,nmp,nmp]):: .box b1 28 (y9 h):: .glob 2 156 y3:: .glob 4 305 y4:: .glob 5 308 y1:: .glob 3 246 q7:: [],[]⟩) trivial es ?_
   intro j lj _
   refine rn ?_;refine z7 rfl (fun hc45=> ?_) (fun hc45=> ?_)
   ·have hj:=zay hc45
    have rj:=zag (f:=evR) hj
    refine rn ?_;refine z8 rfl (y5 rfl fun b10=> ?_)
    refine rn ?_;refine z7 rfl (fun hc51=> ?_) (fun hc51=> ?_)
    ·have hw:(h.evs[j].kind==2)=true:=by simpa using hc51
     refine y6 ?_;refine q1 ?_;refine q1 ?_;refine q1 ?_;refine q1 ?_;refine q1 ?_;refine q1 ?_;refine qq rfl rfl (zcm (out:= [iv h.evs[j].t,iv h.evs[j].o]) rfl (by rfl)) ?_
     refine rn ?_;refine z8 rfl (zan (g:=iv) (enc:=za2) (k:=(h.evs[j].t,h.evs[j].o)) (v:=(j:Int)) rfl rfl rfl ?_)
     refine rn ?_;first|exact ⟨hj,trivial,by rw [ylh hj hw];exact eA⟩|exact ⟨hj,trivial,by rw [yli hj hw];exact eA⟩
    ·have hw:(h.evs[j].kind==2)=false:=by simpa using hc51
     refine rn ?_;first|exact ⟨hj,trivial,by rw [ylh hj hw];exact eA⟩|exact ⟨hj,trivial,by rw [yli hj hw];exact eA⟩
   ·have qj:=zaz hc45 lj
    subst qj
    refine rn ?_;refine zda h.os.length (fun k s=>⟨[(64,iv k),(1,pZ b1),(2,pZ b2),(6,pZ b6),(63,iv (h.os.map zeh).length)],.row s.v 1 29 (((upR k).map (za0 h)).map ygq):: .box b6 119 (y9 h++ [mpv b26,.v s.v,mpv b27,mpv b28,mpv b29]):: .map b29 (zal za2 (zbe zaq [])):: .map b28 (zal zds (zbe iv (rkM h k))):: .map b27 (zal za2 (zbe iv (wlM h.evs h.evs.length))):: .map b26 (zal intK (zbe bv (dnM (zdd h.evs)))):: .box b2 119 (zox++ [nmp,.v (.slice none 0 0),nmp,nmp,nmp]):: .box b1 28 (y9 h):: .glob 2 156 y3:: .glob 4 305 y4:: .glob 5 308 y1:: .glob 3 246 q7:: [],[]⟩) ⟨none,0,0⟩ (v8 (k9 1 29) es) ?_
    intro k s lk
    refine rn ?_;refine z7 rfl (fun hc65=> ?_) (fun hc65=> ?_)
    ·have hk:k < h.os.length:=by have q:=oT hc65;rw [oM] at q;omega
     have k0:(0:Int)≤(k:Int):=by omega
     have k1:(k:Int) < h.os.length:=by omega
     have hb:=zlt hc k0 k1
     refine rn ?_;refine qv rfl rfl (y2 rfl rfl (y0.qt (y0.of_fun (yki h la hc k k0 k1)) ((pt8 _ _ _ _ _ _ _ _ _ _).trans (.cons _ ((pt8 _ _ _ _ _ _ _ _ _ _).trans (.cons _ ((pt8 _ _ _ _ _ _ _ _ _ _).trans (.cons _ (pt8 _ _ _ _ _ _ _ _ _ _))))))))) ?_
     refine rn ?_;refine qv rfl rfl (q6 rfl rfl) ?_
     refine z8 rfl (u7 rfl rfl (by simp only [oM,upR,List.length_range,List.length_cons,List.length_nil];omega) rfl (fun s77=> ?_) (fun r hr=>by rw [List.mem_singleton.1 hr];rfl))
     refine k7 s77 fun sv hsv=> ?_
     subst hsv
     refine q1 ?_;first|refine z8 rfl (j5 rfl rfl rfl ?_)|refine z8 rfl (zak rfl rfl rfl rfl (Nat.le_of_ble_eq_true rfl) ?_)
     refine u4 (zac ?_)
     refine w9 (y6 ?_)
     refine q1 ?_;refine q1 ?_;refine q1 ?_;refine qq rfl rfl (j6 (out:= [iv k,iv 0,iv 0]) rfl (by rfl)) ?_
     refine z8 rfl (zan (g:=iv) (enc:=zds) (k:=((k:Int),(0:Int),(0:Int))) (v:=(0:Int)) rfl rfl rfl ?_)
     refine rn ?_;refine zb7 (za0 h k).length (fun _=>True) (fun j=>⟨[(85,iv j),(1,pZ b1),(2,pZ b2),(6,pZ b6),(11,iv k),(63,iv (h.os.map zeh).length),(64,iv k),(83,zaq (za0 h k)),(84,iv ((za0 h k).map zai).length)],.row sv.v 1 29 (((upR k).map (za0 h)).map ygq++ [ygq (za0 h k)]):: .box b6 119 (y9 h++ [mpv b26,.v sv.v,mpv b27,mpv b28,mpv b29]):: .map b29 (zal za2 (zbe zaq [])):: .map b28 (zal zds (zbe iv (zht h k 0 ((za0 h k).take j) (zdw (zry k ⟨0,0⟩) 0 (rkM h k))))):: .map b27 (zal za2 (zbe iv (wlM h.evs h.evs.length))):: .map b26 (zal intK (zbe bv (dnM (zdd h.evs)))):: .box b2 119 (zox++ [nmp,.v (.slice none 0 0),nmp,nmp,nmp]):: .box b1 28 (y9 h):: .glob 2 156 y3:: .glob 4 305 y4:: .glob 5 308 y1:: .glob 3 246 q7:: [],[]⟩) trivial es ?_
     intro j lj _
     refine rn ?_;refine z7 rfl (fun hc86=> ?_) (fun hc86=> ?_)
     ·have hj:=zay hc86
      have rj:=zag (f:=zai) hj
      obtain ⟨i,hi,a1,a2, -⟩:=yh8 hs k0 k1 hj
      have ri:=zag (f:=evR) hi
      have hfv:zhi h k (za0 h k)[j]=h.evs[i].v:=by rw [zhi,a1];rfl
      refine rn ?_;refine j4 17 rfl ?_
      refine dq rfl rfl qrA ?_;refine dq rfl rfl qrA ?_;refine dq rfl rfl qrA ?_;refine dq rfl rfl qrA ?_;refine dq rfl rfl qrA ?_;refine dq rfl rfl qrA ?_;refine dq rfl rfl qrA ?_;refine dq rfl rfl qrA ?_;refine dq rfl rfl qrA ?_;refine dq rfl rfl (zcm (out:= [iv (za0 h k)[j],iv k]) rfl (by rfl)) ?_
      refine dq rfl rfl (zor (zbm (enc:=za2) (k:=((za0 h k)[j],(k:Int))) 0 rfl rfl) (show iv _=iv (i:Nat) from congrArg iv (by rw [zwe,a2]))) ?_
      refine dq rfl rfl (zb3 rfl rfl ri) ?_
      refine dq rfl rfl qrA ?_;refine dq rfl rfl qrA ?_;refine dq rfl rfl (j6 (out:= [iv k,iv h.evs[i].v.t,iv h.evs[i].v.k]) rfl (by rfl)) ?_
      refine dq rfl rfl qrA ?_;refine dq rfl rfl (zci rfl rfl rfl (by omega)) ?_
      refine rn ?_;refine z8 rfl (zan (g:=iv) (enc:=zds) (k:=((k:Int),h.evs[i].v.t,h.evs[i].v.k)) (v:=(j:Int)+1) rfl rfl rfl ?_)
      refine rn ?_;exact ⟨hj,trivial,by rw [ybl hj,hfv];exact eA⟩
     ·have qj:=zaz hc86 lj
      rw [qj,List.take_length]
      refine rn ?_;exact ⟨hk,sv,by rw [zoj,List.map_append,List.map_append,yp3];exact eA⟩
    ·have qk:k=h.os.length:=by have q:=oF hc65;rw [oM] at q;omega
     refine zjl ?_;refine zi8 ?_;refine zi8 ?_;refine zex ?_;refine zac ?_;refine w9 (y6 ?_)
     refine zfw (zi1 (y9 h++ [mpv b26]) [mpv b27,mpv b28,mpv b29]) ?_
     refine rn ?_;exact zef (.cons _ _ _ _ (.agg _ _ _ _ _ _ _ rfl inferInstance inferInstance inferInstance rfl) (.cons _ _ _ _ (.tmp _ _ rfl) .nil)) (.trans (.perm (.cons _ ((pt4 _ _ _ _ _ _).trans (.cons _ (pt4 _ _ _ _ _ _)))) _) (.drop [_,_,_] _ _)) (.inl ⟨hc,b26,b27,b28,b29,by rw [qk],by rw [qk];rfl⟩)
theorem yte {a:Int} (h:(a !=0)=true):a≠0:=by simpa using h
theorem yup {a:Int} (h:(a !=0)=false):a=0:=by simpa using h
theorem yvx {p:Prop} [Decidable p] (h:(!decide p)=true):¬p:=by simpa using h
theorem yvy {p:Prop} [Decidable p] (h:(!decide p)=false):p:=by simpa using h
theorem yrz {l:List Mat} {q:Mat→Bool} (hc:decide (zbq q 0 l < 0)=false):∃k,∃hk:k < l.length,zbq q 0 l=(k:Int)∧l.find? q=some l[k]:=by
 have:=zfg q l 0
 cases hf:l.find? q with
 |none=>rw [hf] at this;simp only at this;rw [this] at hc;exact absurd hc (by decide)
 |some o=>
  rw [hf] at this
  obtain ⟨k,hk,e,eo,_⟩:=this
  exact ⟨k,hk,by rw [e,Nat.zero_add],by rw [eo]⟩
theorem yu6 {l:List Mat} {q:Mat→Bool} (hc:decide (zbq q 0 l < 0)=true):l.find? q=none:=by
 have:=zfg q l 0
 cases hf:l.find? q with
 |none=>rfl
 |some o=>
  rw [hf] at this
  obtain ⟨k,hk,e,eo,_⟩:=this
  rw [e] at hc
  have:=oT hc
  omega
theorem yhu {h:Hist} {N:Nat} (la:Lim N h) (p x:Int):(yfo h p x).ts.length≤N:=by
 rw [yfo,ykc]
 cases hf:h.mats.find? (zq5 p x) with
 |none=>exact Nat.zero_le _
 |some m=>exact la.matts m (List.mem_of_find?_eq_some hf)
def ylw (h:Hist) (p o:Int):List Bool:=if zjx h p o=0 then zwn h p o else []
theorem yrd (a b:Int):y7 Tryz.prog 145 [iv a,iv b] [] (fun r h'=>h'= []∧r=bv (decide (0≤a∧a < b))):=by
 refine z6 Tryz.func145 rfl rfl rfl ?_
 refine rn ?_;refine w7 (fun hg1_2=> ?_) (fun hg1_2=> ?_)
 ·refine rn ?_;refine rq 0 ?_
  exact ⟨rfl,by rw [←ykl,hg1_2];rfl⟩
 ·refine rn ?_;refine rq 0 ?_
  exact ⟨rfl,by rw [←ykl,hg1_2];rfl⟩
theorem yut (m:Mat) (p x:Int) (b2 b3:Nat) (G:List Res):y7 Tryz.prog 147 [.agg (zeq m),pZ b2,pZ b3] (.box b2 3 [iv p]:: .box b3 3 [iv x]::G) (fun r h'=>h'=(.box b2 3 [iv p]:: .box b3 3 [iv x]::G)∧r=bv (zq5 p x m)):=by
 refine z6 Tryz.func147 rfl rfl rfl ?_
 refine rn ?_;refine z8 rfl (w8 rfl rfl rfl fun b3=> ?_)
 refine rn ?_;refine w7 (fun hg1_4=> ?_) (fun hg1_4=> ?_)
 ·refine rn ?_;refine rq 1 ?_
  exact ⟨rfl,congrArg bv (by unfold zq5;first|rfl|(simp_all;done))⟩
 ·refine rn ?_;refine rq 1 ?_
  exact ⟨rfl,congrArg bv (by unfold zq5;first|rfl|(simp_all;done))⟩
theorem ynh (l:List Mat) (fv:AV) (q:Mat→Bool) (G:List Res) (hp:∀a∈l,y0 Tryz.prog fv [.agg (zeq a)] G (fun r h'=>h'=G∧r=bv (q a))) (hl:l.length≤4611686018427387904):y7 Tryz.prog 146 [zze l,fv] G (fun r h'=>h'=G∧r= .tup [.agg (zeq ((l.find? q).getD yo3)),bv (l.find? q).isSome]):=by
 refine z6 Tryz.func146 rfl rfl rfl ?_
 refine rn ?_;refine z8 rfl (y5 rfl fun b4=> ?_)
 refine rn ?_;refine qv rfl rfl (y2 rfl rfl (y0.qt (h2:= [_]) (y0.of_fun (zlw l _ q G hp hl)) (zdl [_] _))) ?_
 refine rn ?_;refine z7 rfl (fun hc11=> ?_) (fun hc11=> ?_)
 ·have hn:=yu6 hc11
  refine w9 (y6 ?_)
  refine qq rfl rfl (zhx (fun w O v hr=>Sb.rel (Sb.aggs (bs:=zeq yo3) (by exact ⟨.refl _,.refl _,.refl _,.nil _ _,trivial⟩)) hr) (zjd rfl rfl)) ?_
  refine rn ?_;exact zef (.cons _ _ _ _ (.agg _ _ _ _ _ _ _ rfl inferInstance inferInstance inferInstance rfl) (.cons _ _ _ _ (.tmp _ _ rfl) .nil)) (.drop [_] _ _) ⟨rfl,by rw [hn];rfl⟩
 ·obtain ⟨k,hk,ek,hx⟩:=yrz hc11
  have rk:=zag (f:=zeq) hk
  rw [ek]
  refine rn ?_;exact zef (.cons _ _ _ _ (.agg _ _ _ _ _ _ _ rfl inferInstance inferInstance inferInstance rfl) (.cons _ _ _ _ (.tmp _ _ rfl) .nil)) (.drop [_] _ _) ⟨rfl,by rw [hx];rfl⟩
theorem ywc {h:Hist} {p x:Int} (he:yfq h x≠0):zjx h p x=yfq h x∧zjx h p x≠0:=by
 have:zjx h p x=yfq h x:=by rw [zjx,if_neg he]
 exact ⟨this,by rw [this];exact he⟩
theorem ywb {h:Hist} {p x:Int} (hi:yfq h x=0) (hp:¬(0≤p∧p < ((h.ps.map zeh).length:Int))):zjx h p x=2∧zjx h p x≠0:=by
 rw [oM] at hp
 have:zjx h p x=2:=by rw [zjx,if_pos hi,if_neg hp]
 exact ⟨this,by rw [this];decide⟩
theorem ywa {h:Hist} {p x:Int} (hi:yfq h x=0) (hp:0≤p∧p < ((h.ps.map zeh).length:Int)):zjx h p x=0:=by
 rw [oM] at hp
 rw [zjx,if_pos hi,if_pos hp]
theorem yf9 {b:Bool} {l:List Int} {q:Int→Bool} {k:Nat} (hk:k < l.length):(b::(l.take (k+1)).map q).map zoc=(b::(l.take k).map q).map zoc++ [[bv (q l[k])]]:=by
 rw [List.take_succ_eq_append_getElem hk,List.map_append,←List.cons_append,List.map_append];rfl
theorem ynf (h:Hist) (la:Lim 4611686018427387904 h) (p x:Int):y7 Tryz.prog 98 [.agg (y9 h),iv p,iv x] (.glob 2 156 y3:: .glob 4 305 y4:: .glob 5 308 y1:: .glob 3 246 q7:: []) (fun r h'=>∃s:SV,h'= .row s.v 1 4 ((ylw h p x).map zoc):: .glob 2 156 y3:: .glob 4 305 y4:: .glob 5 308 y1:: .glob 3 246 q7:: []∧r= .tup [.v s.v,iv (zjx h p x)]):=by
 refine z6 Tryz.func98 rfl rfl rfl ?_
 refine rn ?_;refine z8 rfl (w8 rfl rfl rfl fun b3=> ?_)
 refine z8 rfl (w8 rfl rfl rfl fun b4=> ?_)
 refine z8 rfl (w8 rfl rfl rfl fun b5=> ?_)
 refine rn ?_;refine qv rfl rfl (y2 rfl rfl (y0.qt (y0.of_fun (ykh h la x)) ((pt3 _ _ _ _ _).trans (.cons _ ((pt3 _ _ _ _ _).trans (.cons _ ((pt3 _ _ _ _ _).trans (.cons _ (pt3 _ _ _ _ _))))))))) ?_
 refine rn ?_;refine z7 rfl (fun hc21=> ?_) (fun hc21=> ?_)
 ·have he:=ywc (p:=p) (yte hc21)
  refine rn ?_;exact zbz rfl rfl (.trans (.drop [_,_,_] _ _) (zat 1 4 _)) ⟨⟨none,0,0⟩,by rw [ylw,if_neg (he.2)];rfl,by rw [he.1];rfl⟩
 ·have hi:yfq h x=0:=yup hc21
  refine rn ?_;refine qv rfl rfl (y2 rfl rfl (u3 (yrd p (h.ps.map zeh).length) (Sbs.refl _))) ?_
  refine rn ?_;refine z7 rfl (fun hc25=> ?_) (fun hc25=> ?_)
  ·have he:=ywb (p:=p) hi (yvx hc25)
   refine rn ?_;exact zbz rfl rfl (.trans (.drop [_,_,_] _ _) (zat 1 4 _)) ⟨⟨none,0,0⟩,by rw [ylw,if_neg (he.2)];rfl,by rw [he.1];rfl⟩
  ·have he:zjx h p x=0:=ywa hi (yvy hc25)
   have lA:=zb8 (yat.1 he).1
   have lM:=yhu la p x
   have lI:(za0 h x).length≤3000:=by rw [zue he];exact znu lA x
   refine rn ?_;refine qv rfl rfl (y2 rfl rfl (y0.of_fun (ynh h.mats _ (zq5 p x) _ (fun a _=>y0.qt (y0.of_acall (fs:= []) (cs:= [pZ b4,pZ b5]) (yut a p x b4 b5 (.box b3 28 (y9 h):: .glob 2 156 y3:: .glob 4 305 y4:: .glob 5 308 y1:: .glob 3 246 q7:: []))) (pt1 _ _ _)) la.mats))) ?_
   refine rn ?_;refine z8 rfl (y5 rfl fun b10=> ?_)
   refine rn ?_;refine z8 rfl (zje (rows:=(((yfo h p x).first::((za0 h x).take 0).map (fun t=>(yfo h p x).ts.contains t)).map zoc)) rfl rfl rfl fun s41=> ?_)
   refine k7 s41 fun sv0 hsv0=> ?_
   subst hsv0
   refine rn ?_;have hii:onE (zhe h x h.os.length) (za0 h x)=za0 h x:=by rw [show zhe h x h.os.length=0 from hi];rfl
   rw [hii]
   refine rn ?_;refine zda (za0 h x).length (fun k s=>⟨[(44,iv k),(12,.v s.v),(10,pZ b10),(42,zaq (za0 h x)),(43,iv ((za0 h x).map zai).length)],.row s.v 1 4 (((yfo h p x).first::((za0 h x).take k).map (fun t=>(yfo h p x).ts.contains t)).map zoc):: .box b10 109 (zeq (yfo h p x)):: .box b5 3 [iv x]:: .box b4 3 [iv p]:: .box b3 28 (y9 h):: .glob 2 156 y3:: .glob 4 305 y4:: .glob 5 308 y1:: .glob 3 246 q7:: [],[]⟩) sv0 es ?_
   intro k s lk
   refine rn ?_;refine z7 rfl (fun hc45=> ?_) (fun hc45=> ?_)
   ·have hk:=zay hc45
    have rk:=zag (f:=zai) hk
    refine rn ?_;refine qv rfl rfl (y2 rfl rfl (u3 (ztm (yfo h p x).ts (za0 h x)[k] lM) (Sbs.refl _))) ?_
    refine qv rfl rfl (q6 rfl rfl) ?_
    refine z8 rfl (u7 rfl rfl (by simp only [oM,List.length_cons,List.length_nil];have:=List.length_take_le k (za0 h x);omega) rfl (fun s54=> ?_) (yhl [(yfo h p x).ts.contains (za0 h x)[k]]))
    refine k7 s54 fun sv hsv=> ?_
    subst hsv
    refine rn ?_;exact ⟨hk,sv,by rw [yf9 hk];exact eA⟩
   ·have qk:=zaz hc45 lk
    refine rn ?_;exact zbz rfl rfl (.trans (.perm ((pt1 _ _ _).trans (.cons _ ((pt1 _ _ _).trans (.cons _ ((pt1 _ _ _).trans (.cons _ (pt1 _ _ _))))))) _) (.drop [_,_,_,_] _ _)) ⟨s,by rw [ylw,if_pos he,zwn,yjq,qk,List.take_length],by rw [he];rfl⟩
theorem yrc (h:Hist) (la:Lim 4611686018427387904 h) (p x:Int):y7 Tryz.prog 98 [.agg (y9 h),iv p,iv x] (.glob 2 156 y3:: .glob 4 305 y4:: .glob 5 308 y1:: .glob 3 246 q7:: []) (fun r h'=>h'= .glob 2 156 y3:: .glob 4 305 y4:: .glob 5 308 y1:: .glob 3 246 q7:: []∧r= .tup [zob (ylw h p x),iv (zjx h p x)]):=
 (ynf h la p x).ventR (by rintro _ _ ⟨s,rfl,rfl⟩;exact ⟨_,_,zbf [] [_],rfl,rfl⟩)
def zpq {α:Type} (d:Nat→Option α):Nat→List α
 |0=> []
 |k+1=>zpq d k++(d k).toList
theorem yrv {α:Type} {d:Nat→Option α} {k:Nat} (h:d k=none):zpq d (k+1)=zpq d k:=by rw [zpq,h];simp
theorem yru {α:Type} {d:Nat→Option α} {k:Nat} {a:α} (h:d k=some a):zpq d (k+1)=zpq d k++ [a]:=by rw [zpq,h];rfl
theorem zxj {α:Type} (d:Nat→Option α):∀n,(zpq d n).length≤n
 |0=>by simp [zpq]
 |n+1=>by
  have:=zxj d n
  rw [zpq,List.length_append]
  cases d n <;> simp <;> omega
def chD (l:List Bool) (k:Nat):Option Int:=if 0 < k∧l[k]? ≠l[k - 1]? then some (k:Int) else none
theorem yep (l:List Bool):∀n,zpq (chD l) n=zts l n
 |0=>rfl
 |n+1=>by
  rw [zpq,zts,yep l n,chD]
  split <;> rfl
theorem yoj {l:List Bool} {k:Nat} (h:decide ((k:Int) > 0)=false):chD l k=none:=by
 have:=oF h
 rw [chD,if_neg (by omega)]
theorem yvi {l:List Bool} {k:Nat} (h:decide ((k:Int) > 0)=true) (hk:k < l.length) (hb:(l[k] !=l[k - 1]'(by omega))=true):chD l k=some (k:Int):=by
 have:=oT h
 rw [chD,if_pos ⟨by omega,by rw [List.getElem?_eq_getElem hk,List.getElem?_eq_getElem (by omega)];intro e;injection e with e;rw [e] at hb;simp at hb⟩]
theorem yoi {l:List Bool} {k:Nat} (hk:k < l.length) (hb:(l[k] !=l[k - 1]'(by omega))=false):chD l k=none:=by
 rw [chD,if_neg (by rintro ⟨_,q⟩;apply q;rw [List.getElem?_eq_getElem hk,List.getElem?_eq_getElem (by omega)];congr 1;simpa using hb)]
theorem ykx {k:Nat} (h:decide ((k:Int) > 0)=true):((k:Int) - 1).toNat=k - 1∧0≤(k:Int) - 1:=by
 have:=oT h
 omega
theorem ymd {l:List Bool} {k:Nat} (h:decide ((k:Int) > 0)=true) (hk:k < l.length):(l.map zoc)[((k:Int) - 1).toNat]? =some (zoc (l[k - 1]'(by omega))):=by
 rw [(ykx h).1,List.getElem?_map,List.getElem?_eq_getElem (by omega)];rfl
theorem yq4 (l:List Bool) (hl:l.length≤1000000) (b1:Nat) (y:AV) (I:Nat→SV→List Res) (x0:SV) (hy:∀k x a,k < l.length→chD l k=some a→y0 Tryz.prog y [iv a] (.box b1 130 [zob l]::I k x) (fun r h'=>∃x',r=bv true∧h'= .box b1 130 [zob l]::I (k+1) x')) (hs:∀k x,k < l.length→chD l k=none→I (k+1) x=I k x):y7 Tryz.prog 149 [y,pZ b1] (.box b1 130 [zob l]::I 0 x0) (fun r h'=>∃x,h'=I l.length x):=by
 refine z6 Tryz.func149 rfl rfl rfl ?_
 refine rn ?_;refine zha l.length (fun _ _=>True) (fun k (x:SV)=>⟨[(6,iv k),(0,y),(1,pZ b1),(5,iv (l.map zoc).length)],.box b1 130 [zob l]::I k x,[]⟩) x0 trivial es ?_
 intro k x lk _
 refine rn ?_;refine z7 rfl (fun hc7=> ?_) (fun hc7=> ?_)
 ·have hk:=zay hc7
  have rk:=zag (f:=zoc) hk
  refine rn ?_;refine j4 17 rfl ?_
  refine rn ?_;refine zc0 (fun hg3_2=> ?_) (fun hg3_2=> ?_)
  ·refine dq rfl rfl qrA ?_;refine dq rfl rfl qrA ?_;refine dq rfl rfl qrA ?_;refine dq rfl rfl qrA ?_;refine dq rfl rfl qrA ?_;refine dq rfl rfl qrA ?_;refine dq rfl rfl (zci rfl rfl rfl (by omega)) ?_
   refine dq rfl rfl (zau rfl rfl (ykx hg3_2).2 (ymd hg3_2 hk)) ?_
   refine dq rfl rfl qrA ?_;refine dq rfl rfl (yj0 (c:=l[k] !=l[k - 1]'(by omega)) (zj4 rfl rfl) rfl) ?_
   refine rn ?_;refine zc0 (fun hg3_14=> ?_) (fun hg3_14=> ?_)
   ·refine rn ?_;refine z8 rfl (v2 rfl rfl (hy k x _ hk (yvi hg3_2 hk (by exact hg3_14))) rfl ?_)
    rintro _ _ ⟨x',rfl,rfl⟩
    refine rn ?_;refine z7 rfl (fun hc28=> ?_) (fun hc28=> ?_)
    ·refine rn ?_;exact absurd hc28 (by simp)
    ·refine rn ?_;first|exact ⟨hk,x',trivial,eA⟩|exact ⟨hk,x,trivial,by rw [hs k x hk (yoi hk (by exact hg3_14))];exact eA⟩|exact ⟨hk,x,trivial,by rw [hs k x hk (yoj hg3_2)];exact eA⟩
   ·refine rn ?_;refine zd9 rfl ?_;refine rn ?_;first|exact ⟨hk,x',trivial,eA⟩|exact ⟨hk,x,trivial,by rw [hs k x hk (yoi hk (by exact hg3_14))];exact eA⟩|exact ⟨hk,x,trivial,by rw [hs k x hk (yoj hg3_2)];exact eA⟩
  ·refine rn ?_;refine zd9 rfl ?_;refine rn ?_;first|exact ⟨hk,x',trivial,eA⟩|exact ⟨hk,x,trivial,by rw [hs k x hk (yoi hk (by exact hg3_14))];exact eA⟩|exact ⟨hk,x,trivial,by rw [hs k x hk (yoj hg3_2)];exact eA⟩
 ·have qk:=zaz hc7 lk
  subst qk
  refine rn ?_;exact zd2 .nil (.drop [_] _ _) ⟨x,rfl⟩
theorem yur (l:List Bool) (W:List Res):y7 Tryz.prog 100 [zob l] W (fun r h'=>∃b1,h'= .box b1 130 [zob l]::W∧r= .fn (.func 149) [] [pZ b1]):=by
 refine z6 Tryz.func100 rfl rfl rfl ?_
 refine rn ?_;refine z8 rfl (w8 rfl rfl rfl fun b1=> ?_)
 refine rn ?_;exact j9 rfl (.refl _ _) ⟨_,rfl,rfl⟩
theorem yos (f:FuncId) [Go.Ab.Enters Tryz.prog f] (cs:List AV) (w1:Res) (n:Nat) (hn:n≤1000000) (d:Nat→Option (Int)) (W:List Res) (hseq:∀(y:AV) (I:Nat→SV→List Res) (x0:SV),(∀k x a,k < n→d k=some a→y0 Tryz.prog y [iv a] (w1::I k x) (fun r h'=>∃x',r=bv true∧h'=w1::I (k+1) x'))→(∀k x,k < n→d k=none→I (k+1) x=I k x)→y7 Tryz.prog f (y::cs) (w1::I 0 x0) (fun _ h'=>∃x,h'=I n x)):y7 Tryz.prog 148 [.v (.slice none 0 0),.fn (.func f) [] cs] (w1::W) (fun r h'=>∃s:SV,h'= .row s.v 1 3 ((zpq d n).map zai)::W∧r= .v s.v):=by
 refine z6 Tryz.func148 rfl rfl rfl ?_
 refine rn ?_;refine z8 rfl (w8 rfl rfl rfl fun b2=> ?_)
 refine rn ?_;refine zfv (s':=⟨[(6,.fn (.func f) [] cs),(2,pZ b2)],w1:: .box b2 29 [.v (⟨none,0,0⟩:SV).v]:: .row (⟨none,0,0⟩:SV).v 1 3 ((zpq d 0).map zai)::W,[]⟩) (v8 (v8 (k9 1 3) (zbd ((pt2 _ _ _ _).trans (.cons _ (pt1 _ _ _))))) es) ?_
 refine zl9 (fun pend h''=>pend=none∧∃s:SV,h''= .box b2 29 [.v s.v]:: .row s.v 1 3 ((zpq d n).map zai)::W) rfl (fun fn l q lp hlp=> ?_) (fun q h'' hK=> ?_) (fun q h'' c hK=> ?_)
 ·suffices hy:∀k (s:SV) a,k < n→d k=some a→y0 Tryz.prog (yv l) [iv a] (w1::lp .ready none:: .defs q:: .box b2 29 [.v s.v]:: .row s.v 1 3 ((zpq d k).map zai)::W) (fun r h'=>∃s':SV,r=bv true∧h'=w1::lp .ready none:: .defs q:: .box b2 29 [.v s'.v]:: .row s'.v 1 3 ((zpq d (k+1)).map zai)::W) by
   refine y7.mono (y7.perm (pt2 _ _ _ _) (hseq (yv l) (fun k (s:SV)=>lp .ready none:: .defs q:: .box b2 29 [.v s.v]:: .row s.v 1 3 ((zpq d k).map zai)::W) ⟨none,0,0⟩ hy (fun k s hk hn=>by rw [yrv hn]))) ?_
   rintro _ _ ⟨s,rfl⟩
   exact ⟨none,.ready,_,.refl _,by simp,rfl,s,rfl⟩
  intro k s a hk hd
  refine y0.perm (pt1 _ _ _) (y0.ventE ?_)
  refine zdm hlp rfl rfl ?_
  refine rn ?_;refine ⟨[(5,iv a),(2,pZ b2)],w1:: .defs q:: .box b2 29 [.v s.v]:: .row s.v 1 3 ((zpq d k).map zai)::W,es,?_⟩
  refine rn ?_;refine qv rfl rfl (q6 rfl rfl) ?_
  refine z8 rfl (u7 rfl rfl (by simp only [oM,List.length_cons,List.length_nil];have:=zxj d k;omega) rfl (fun s11=> ?_) (zgw [a]))
  refine k7 s11 fun sv hsv=> ?_
  subst hsv
  refine rn ?_;exact zdg (.refl _) ⟨_,_,.perm (pt1 _ _ _) _,sv,rfl,by rw [yru hd,List.map_append];rfl⟩
 ·obtain ⟨_,s,rfl⟩:=hK
  refine rn ?_;exact zhu (.refl _) (.cons _ _ _ _ (.tmp _ _ rfl) .nil) (.drop1 _ _ _) ⟨s,rfl,rfl⟩
 ·obtain ⟨hc,_⟩:=hK
  exact absurd hc (by simp)
theorem yiz (f:FuncId) [Go.Ab.Enters Tryz.prog f] (cs:List AV) (w1:Res) (n:Nat) (hn:n≤1000000) (d:Nat→Option (Int)) (W:List Res) (hseq:∀(y:AV) (I:Nat→SV→List Res) (x0:SV),(∀k x a,k < n→d k=some a→y0 Tryz.prog y [iv a] (w1::I k x) (fun r h'=>∃x',r=bv true∧h'=w1::I (k+1) x'))→(∀k x,k < n→d k=none→I (k+1) x=I k x)→y7 Tryz.prog f (y::cs) (w1::I 0 x0) (fun _ h'=>∃x,h'=I n x)):y7 Tryz.prog 99 [.fn (.func f) [] cs] (w1::W) (fun r h'=>∃s:SV,h'= .row s.v 1 3 ((zpq d n).map zai)::W∧r= .v s.v):=by
 refine z6 Tryz.func99 rfl rfl rfl ?_
 refine rn ?_;refine z8 rfl (v2 rfl rfl (y0.of_fun (yos f cs w1 n hn d W hseq)) rfl ?_)
 rintro _ _ ⟨s,rfl,rfl⟩
 refine rn ?_;exact j9 rfl (.refl _ _) ⟨s,rfl,rfl⟩
theorem ylv {h:Hist} {N:Nat} (la:Lim N h) {p x:Int} (he:zjx h p x=0):(zwn h p x).length≤1000000:=by
 have lA:=zb8 (yat.1 he).1
 have:=znu lA x
 rw [zm8,zue he];omega
theorem yni (h:Hist) (la:Lim 4611686018427387904 h) (p x:Int):y7 Tryz.prog 42 [.agg (y9 h),iv p,iv x] (.glob 2 156 y3:: .glob 4 305 y4:: .glob 5 308 y1:: .glob 3 246 q7:: []) (fun r h'=>∃s:SV,h'= .row s.v 1 3 ((chL h p x).map zai):: .glob 2 156 y3:: .glob 4 305 y4:: .glob 5 308 y1:: .glob 3 246 q7:: []∧r= .tup [.v s.v,iv (zjx h p x)]):=by
 refine z6 Tryz.func42 rfl rfl rfl ?_
 refine rn ?_;refine z8 rfl (w8 rfl rfl rfl fun b3=> ?_)
 refine rn ?_;refine qv rfl rfl (y2 rfl rfl (y0.qt (y0.of_fun (yrc h la p x)) ((pt1 _ _ _).trans (.cons _ ((pt1 _ _ _).trans (.cons _ ((pt1 _ _ _).trans (.cons _ (pt1 _ _ _))))))))) ?_
 refine rn ?_;refine z7 rfl (fun hc18=> ?_) (fun hc18=> ?_)
 ·have he:=yww (h:=h) (p:=p) (x:=x) (r:=0) (yte hc18)
  refine rn ?_;exact zbz rfl rfl (.trans (.drop [_] _ _) (zat 1 3 _)) ⟨⟨none,0,0⟩,by rw [he.2.2];rfl,rfl⟩
 ·have he:zjx h p x=0:=yup hc18
  have hl:ylw h p x=zwn h p x:=by rw [ylw,if_pos he]
  have lt:=ylv la he
  rw [hl]
  refine rn ?_;refine z8 rfl (v2 rfl rfl (y0.of_fun (yur (zwn h p x) _)) rfl ?_)
  rintro _ _ ⟨b1,rfl,rfl⟩
  refine z8 rfl (v2 rfl rfl (y0.of_fun (yiz 149 [pZ b1] _ (zwn h p x).length lt (chD (zwn h p x)) _ (fun y I x0 hy hs=>yq4 (zwn h p x) lt b1 y I x0 hy hs))) rfl ?_)
  rintro _ _ ⟨s,rfl,rfl⟩
  refine rn ?_;exact zbz rfl rfl (.trans (.perm (pt1 _ _ _) _) (.drop [_] _ _)) ⟨s,by rw [chL,if_pos he,yo6,yep],by rw [he];rfl⟩
theorem ykd (h:Hist) (la:Lim 4611686018427387904 h) (p x:Int):y7 Tryz.prog 42 [.agg (y9 h),iv p,iv x] (.glob 2 156 y3:: .glob 4 305 y4:: .glob 5 308 y1:: .glob 3 246 q7:: []) (fun r h'=>h'= .glob 2 156 y3:: .glob 4 305 y4:: .glob 5 308 y1:: .glob 3 246 q7:: []∧r= .tup [zaq (chL h p x),iv (zjx h p x)]):=
 (yni h la p x).ventR (by rintro _ _ ⟨s,rfl,rfl⟩;exact ⟨_,_,zbf [] [_],rfl,rfl⟩)
def ev0:Ev:=⟨0,0,0,0,0,⟨0,0⟩,0,[]⟩
def evA (h:Hist) (n:Int):Ev:=if zhe h n h.evs.length=0 then evD h.evs n else ev0
def yju (h:Hist) (n:Int):List Seen:=if zed h n=0 then j8 h (evD h.evs n) n.toNat else []
theorem yty {p:Prop} (c d:Prop) [Decidable c] [Decidable d] (x:c→d→p) (y:c→¬d→p) (z:¬c→p):p:=if h:c then (if k:d then x h k else y h k) else z h
theorem zzq {h:Hist} {n:Int} (he:zhe h n h.evs.length=0):∃a:Nat,∃ha:a < h.evs.length,n=a∧evA h n=h.evs[a]∧v6 h=0:=by
 obtain ⟨hs,n0,n1⟩:=yor he
 obtain ⟨a,rfl⟩:=Int.eq_ofNat_of_zero_le n0
 exact ⟨a,by omega,rfl,by rw [evA,if_pos he,ztc (by omega)],za6.2 hs⟩
theorem ysd {h:Hist} {n:Int} (he:zhe h n h.evs.length≠0):evA h n=ev0:=by rw [evA,if_neg he]
theorem ys9 {h:Hist} {a:Nat} (ha:a < h.evs.length) (hc:v6 h=0) (h4:h.evs[a].kind=4):zed h a=0∧yju h a=j8 h h.evs[a] a:=by
 have:=(ywf hc ha h4).1
 exact ⟨this,by rw [yju,this,if_pos rfl,ztc ha,Int.toNat_natCast]⟩
theorem yo1 {h:Hist} {n:Int} (hc:v6 h=0) (hn:¬(0≤n∧n < h.evs.length∧(evD h.evs n).kind=4)):zed h n=2∧yju h n= []:=by
 have:=(ywg hc hn).1
 exact ⟨this,by rw [yju,this];rfl⟩
theorem ys8 {h:Hist} {n:Int} (he:zhe h n h.evs.length≠0):zed h n=zhe h n h.evs.length∧yju h n= []:=by
 by_cases hc:v6 h=0
 ·have hn:¬(0≤n∧n < (h.evs.length:Int)):=fun q=>he (zv6 hc q)
  obtain ⟨a,b⟩:=yo1 (h:=h) (n:=n) hc (fun q=>hn ⟨q.1,q.2.1⟩)
  exact ⟨by rw [a,zzw hc hn],b⟩
 ·have:=(ywh (n:=n) hc).1
  exact ⟨by rw [this,ask_c hc],by rw [yju,this,if_neg hc]⟩
theorem yti {h:Hist} {n:Int} (he:zhe h n h.evs.length=0):evA h n=evD h.evs n:=by rw [evA,if_pos he]
theorem yht (h:Hist) (la:Lim 4611686018427387904 h) (n:Int):y7 Tryz.prog 97 [.agg (y9 h),iv n] (.glob 2 156 y3:: .glob 4 305 y4:: .glob 5 308 y1:: .glob 3 246 q7:: []) (fun r h'=>h'= .glob 2 156 y3:: .glob 4 305 y4:: .glob 5 308 y1:: .glob 3 246 q7:: []∧r= .tup [.agg (evR (evA h n)),iv (zhe h n h.evs.length)]):=by
 refine z6 Tryz.func97 rfl rfl rfl ?_
 refine rn ?_;refine z8 rfl (w8 rfl rfl rfl fun b2=> ?_)
 refine z8 rfl (y5 rfl fun b4=> ?_)
 refine rn ?_;refine qv rfl rfl (y2 rfl rfl (y0.qt (y0.of_fun (ydc h la)) ((pt2 _ _ _ _).trans (.cons _ ((pt2 _ _ _ _).trans (.cons _ ((pt2 _ _ _ _).trans (.cons _ (pt2 _ _ _ _))))))))) ?_
 refine rn ?_;refine z7 rfl (fun hc14=> ?_) (fun hc14=> ?_)
 ·have he:zhe h n h.evs.length=v6 h:=ask_c (yte hc14)
  have hn:zhe h n h.evs.length≠0:=by rw [he];exact yte hc14
  refine w9 (y6 ?_)
  refine qq rfl rfl (zhx (fun w O v hr=>Sb.rel (Sb.aggs (bs:=evR ev0) (by exact ⟨.refl _,.refl _,.refl _,.refl _,.refl _,.refl _,.refl _,.refl _,.nil _ _,trivial⟩)) hr) (j6 (out:= [iv 0,iv 0,iv 0,iv 0,iv 0,iv 0,iv 0,iv 0,.v (.slice none 0 0)]) rfl (by rfl))) ?_
  refine rn ?_;exact zef (.cons _ _ _ _ (.agg _ _ _ _ _ _ _ rfl inferInstance inferInstance inferInstance rfl) (.cons _ _ _ _ (.tmp _ _ rfl) .nil)) (.drop [_,_] _ _) ⟨rfl,by rw [ysd hn,he];rfl⟩
 ·have hc:=yup hc14
  refine rn ?_;refine qv rfl rfl (y2 rfl rfl (u3 (yrd n (h.evs.map evR).length) (Sbs.refl _))) ?_
  refine rn ?_;refine z7 rfl (fun hc22=> ?_) (fun hc22=> ?_)
  ·have he:zhe h n h.evs.length=2:=zzw hc (by have q:=yvx hc22;rw [oM] at q;exact q)
   have hn:zhe h n h.evs.length≠0:=by rw [he];decide
   refine w9 (y6 ?_)
   refine qq rfl rfl (zhx (fun w O v hr=>Sb.rel (Sb.aggs (bs:=evR ev0) (by exact ⟨.refl _,.refl _,.refl _,.refl _,.refl _,.refl _,.refl _,.refl _,.nil _ _,trivial⟩)) hr) (j6 (out:= [iv 0,iv 0,iv 0,iv 0,iv 0,iv 0,iv 0,iv 0,.v (.slice none 0 0)]) rfl (by rfl))) ?_
   refine rn ?_;exact zef (.cons _ _ _ _ (.agg _ _ _ _ _ _ _ rfl inferInstance inferInstance inferInstance rfl) (.cons _ _ _ _ (.tmp _ _ rfl) .nil)) (.drop [_,_] _ _) ⟨rfl,by rw [ysd hn,he];rfl⟩
  ·have q:=yvy hc22
   rw [oM] at q
   have he:=zv6 hc q
   obtain ⟨a,ha,rfl,ea,_⟩:=zzq he
   have ra:=zag (f:=evR) ha
   refine za7 ?_;refine zac ?_;refine w9 (y6 ?_)
   refine q1 ?_;refine q1 ?_;refine q1 ?_;refine qq rfl rfl (zau rfl rfl q.1 ra) ?_
   refine rn ?_;exact zef (.cons _ _ _ _ (.agg _ _ _ _ _ _ _ rfl inferInstance inferInstance inferInstance rfl) (.cons _ _ _ _ (.tmp _ _ rfl) .nil)) (.drop [_,_] _ _) ⟨rfl,by rw [ea,he];rfl⟩
theorem yng (h:Hist) (la:Lim 4611686018427387904 h) (n:Int):y7 Tryz.prog 41 [.agg (y9 h),iv n] (.glob 2 156 y3:: .glob 4 305 y4:: .glob 5 308 y1:: .glob 3 246 q7:: []) (fun r h'=>∃s:SV,h'= .row s.v 3 70 ((yju h n).map zah):: .glob 2 156 y3:: .glob 4 305 y4:: .glob 5 308 y1:: .glob 3 246 q7:: []∧r= .tup [.v s.v,iv (zed h n)]):=by
 refine z6 Tryz.func41 rfl rfl rfl ?_
 refine rn ?_;refine z8 rfl (w8 rfl rfl rfl fun b2=> ?_)
 refine rn ?_;refine zkm ?_;refine rn ?_;refine qv rfl rfl (y2 rfl rfl (y0.qt (y0.of_fun (yht h la n)) ((pt1 _ _ _).trans (.cons _ ((pt1 _ _ _).trans (.cons _ ((pt1 _ _ _).trans (.cons _ (pt1 _ _ _))))))))) ?_
 refine rn ?_;refine z8 rfl (y5 rfl fun b6=> ?_)
 first|refine z8 rfl (j5 rfl rfl rfl ?_)|refine z8 rfl (zak rfl rfl rfl rfl (Nat.le_of_ble_eq_true rfl) ?_)
 refine q1 ?_;refine u4 (zac ?_)
 refine w9 ?_;refine w9 (y6 ?_)
 refine q1 ?_;refine yty (zhe h n h.evs.length=0) ((evA h n).kind=4) (fun hc h4=>qq rfl rfl (zeu (c:=true) rfl rfl (congrArg some (by rw [hc];rfl))) ?_) (fun hc h4=>qq rfl rfl (zeu (c:=true) rfl rfl (congrArg some (by rw [hc];rfl))) ?_) (fun hc=>qq rfl rfl (zeu (c:=false) rfl rfl (congrArg some (by simpa using hc))) ?_)
 ·refine q1 ?_;refine q1 ?_;refine q1 ?_;refine qq rfl rfl (by first|exact zeu (c:=false) rfl rfl (congrArg some (by rw [h4];rfl))|exact zeu (c:=true) rfl rfl (congrArg some (by simpa using h4))) ?_
  refine rn ?_;refine z7 rfl (fun hc29=> ?_) (fun hc29=> ?_)
  ·first|cases hc29|exact absurd hc29 (by decide)|(exfalso;simp_all;done)
  ·refine za7 ?_;refine zac ?_;refine w9 ?_;refine w9 (y6 ?_)
   refine q1 ?_;refine qq rfl rfl (by first|exact zeu (c:=false) rfl rfl (congrArg some (by rw [hc];rfl))|exact zeu (c:=true) rfl rfl rfl|exact zeu (c:=true) rfl rfl (congrArg some (by simpa using hc))) ?_
   refine rn ?_;refine z7 rfl (fun hc31=> ?_) (fun hc31=> ?_)
   ·first|cases hc31|exact absurd hc31 (by decide)|(exfalso;simp_all;done)
   ·refine za7 ?_;refine rn0 ?_;refine w9 ?_;obtain ⟨a,ha,rfl,ea,hk0⟩:=zzq hc
    rw [ea] at h4
    rw [ea]
    obtain ⟨hse,hsl⟩:=ys9 ha hk0 h4
    have lA:=zb8 hk0
    have be:=lA.evs
    have bs:=lA.scans h.evs[a] (List.getElem_mem ha)
    refine rn ?_;refine z8 rfl (zax (enc:=intK) rfl fun rm=> ?_)
    refine rn ?_;refine zb7 h.evs.length (fun k=>k≤a) (fun k=>⟨[(37,iv k),(1,iv (a:Int)),(2,pZ b2),(6,pZ b6),(8,mpv rm),(35,znz h.evs),(36,iv (h.evs.map evR).length)],.map rm (zal intK (zbe yan (zz2 (h.evs.take k) h.evs[a].t))):: .box b6 60 (evR h.evs[a]):: .box b2 28 (y9 h):: .glob 2 156 y3:: .glob 4 305 y4:: .glob 5 308 y1:: .glob 3 246 q7:: [],[]⟩) (Nat.zero_le _) es ?_
    intro k lk ka
    refine rn ?_;refine z7 rfl (fun hc38=> ?_) (fun hc38=> ?_)
    ·have hk:=zay hc38
     have rk:=zag (f:=evR) hk
     refine rn ?_;refine z8 rfl (y5 rfl fun b10=> ?_)
     refine rn ?_;refine z7 rfl (fun hc42=> ?_) (fun hc42=> ?_)
     ·obtain rfl:a=k:=by have:=eq_of_beq hc42;omega
      refine rn ?_;refine zb7 h.evs[a].scan.length (fun _=>True) (fun j=>⟨[(66,iv j),(2,pZ b2),(8,mpv rm),(64,zee h.evs[a].scan),(65,iv (h.evs[a].scan.map zah).length)],.map rm (zal intK (zbe yan (yl7 (zz2 (h.evs.take a) h.evs[a].t) (h.evs[a].scan.take j)))):: .box b6 60 (evR h.evs[a]):: .box b2 28 (y9 h):: .glob 2 156 y3:: .glob 4 305 y4:: .glob 5 308 y1:: .glob 3 246 q7:: [],[]⟩) trivial eA ?_
      intro j lj _
      refine rn ?_;refine z7 rfl (fun hc67=> ?_) (fun hc67=> ?_)
      ·have hj:=zay hc67
       have rj:=zag (f:=zah) hj
       refine rn ?_;refine z8 rfl (y5 rfl fun b12=> ?_)
       refine rn ?_;refine z8 rfl (zan (g:=yan) (enc:=intK) (k:=h.evs[a].scan[j].o) (v:=h.evs[a].scan[j].v) rfl rfl rfl ?_)
       refine rn ?_;exact ⟨hj,trivial,by rw [yps hj];exact eA⟩
      ·have qj:=zaz hc67 lj
       subst qj
       rw [List.take_length]
       refine rn ?_;refine zda h.os.length (fun k s=>⟨[(79,iv k),(13,.v s.v),(8,mpv rm),(78,iv (h.os.map zeh).length)],.row s.v 3 70 (((upR k).map fun x:Int=>(⟨x,yfk h.evs h.evs[a].t a h.evs[a].scan x⟩:Seen)).map zah):: .map rm (zal intK (zbe yan (yl7 (zz2 (h.evs.take a) h.evs[a].t) h.evs[a].scan))):: .box b6 60 (evR h.evs[a]):: .box b2 28 (y9 h):: .glob 2 156 y3:: .glob 4 305 y4:: .glob 5 308 y1:: .glob 3 246 q7:: [],[]⟩) ⟨none,0,0⟩ (v8 (k9 3 70) es) ?_
       intro k s lk
       refine rn ?_;refine z7 rfl (fun hc80=> ?_) (fun hc80=> ?_)
       ·have hk:k < h.os.length:=by have q:=oT hc80;rw [oM] at q;omega
        have bo:=lA.os
        have hv:=ym0 (l:=h.evs) (t:=h.evs[a].t) (x:=(k:Int)) h.evs[a].scan (Nat.le_of_lt ha)
        refine za7 ?_;refine zac ?_;refine w9 ?_;refine zb9 ?_;refine w9 (y6 ?_)
        refine q1 ?_;refine q1 ?_;refine u4 (zac ?_)
        refine w9 (y6 ?_)
        refine q1 ?_;refine qq rfl rfl (j6 (out:= [iv (k:Int),iv 0,iv 0]) rfl (by rfl)) ?_
        refine z8 rfl (y5 rfl fun b15=> ?_)
        first|refine z8 rfl (j5 rfl rfl rfl ?_)|refine z8 rfl (zak rfl rfl rfl rfl (Nat.le_of_ble_eq_true rfl) ?_)
        refine u4 (zac ?_)
        refine w9 ?_;refine w9 (y6 ?_)
        refine q1 ?_;refine q1 ?_;refine qq rfl rfl (zbm (g:=yan) (enc:=intK) (k:=(k:Int)) (⟨0,0⟩:Ver) rfl rfl) ?_
        rw [hv]
        generalize hV:yfk h.evs h.evs[a].t a h.evs[a].scan (k:Int)=V
        refine z8 rfl (y5 rfl fun b16=> ?_)
        first|refine z8 rfl (j5 rfl rfl rfl ?_)|refine z8 rfl (zak rfl rfl rfl rfl (Nat.le_of_ble_eq_true rfl) ?_)
        refine u4 (zac ?_)
        refine w9 (y6 ?_)
        refine q1 ?_;refine qq rfl rfl (j6 (out:= [iv 0,iv 0]) rfl (by rfl)) ?_
        refine rn ?_;refine z7 rfl (fun hc89=> ?_) (fun hc89=> ?_)
        ·refine rn ?_;refine qv rfl rfl (q6 rfl rfl) ?_
         refine z8 rfl (u7 rfl rfl (by simp only [oM,upR,List.length_range,List.length_cons,List.length_nil];omega) rfl (fun s95=> ?_) (by first|exact zj7 [(⟨(k:Int),V⟩:Seen)]|exact zj7 [(⟨(k:Int),⟨0,0⟩⟩:Seen)]))
         refine k7 s95 fun sv hsv=> ?_
         subst hsv
         refine rn ?_;exact ⟨hk,sv,by rw [zoj,List.map_append,List.map_append,List.map_singleton,List.map_singleton,hV];exact eA⟩
        ·have hv0:V=⟨0,0⟩:=eq_of_beq (by rw [←zck];simpa using hc89)
         subst hv0
         refine rn ?_;refine qv rfl rfl (q6 rfl rfl) ?_
         refine z8 rfl (u7 rfl rfl (by simp only [oM,upR,List.length_range,List.length_cons,List.length_nil];omega) rfl (fun s95=> ?_) (by first|exact zj7 [(⟨(k:Int),V⟩:Seen)]|exact zj7 [(⟨(k:Int),⟨0,0⟩⟩:Seen)]))
         refine k7 s95 fun sv hsv=> ?_
         subst hsv
         refine rn ?_;exact ⟨hk,sv,by rw [zoj,List.map_append,List.map_append,List.map_singleton,List.map_singleton,hV];exact eA⟩
       ·have qk:k=h.os.length:=by have q:=oF hc80;rw [oM] at q;omega
        subst qk
        refine rn ?_;refine ⟨fun l h=>(by cases h),?_⟩
        exact zbz rfl rfl (.trans (.perm ((pt1 _ _ _).trans (.cons _ ((pt1 _ _ _).trans (.cons _ (pt1 _ _ _))))) _) (.drop [_,_,_] _ _)) ⟨s,by rw [hsl];rfl,by rw [hse];rfl⟩
     ·have hka:k < a:=by have:=beq_eq_false_iff_ne.1 hc42;omega
      refine rn ?_;refine w7 (fun hg11_5=> ?_) (fun hg11_5=> ?_)
      ·refine rn ?_;refine z7 rfl (fun hc46=> ?_) (fun hc46=> ?_)
       ·have hw:(h.evs[k].t==h.evs[a].t && h.evs[k].kind==2)=true:=by first|(rw [hg11_5];exact hc46)|(rw [Bool.and_eq_true];exact ⟨hg11_5,hc46⟩)
        refine rn ?_;refine z8 rfl (zan (g:=yan) (enc:=intK) (k:=h.evs[k].o) (v:=h.evs[k].v) rfl rfl rfl ?_)
        refine rn ?_;first|exact ⟨hk,hka,by rw [ycd hk hw];exact eA⟩|exact ⟨hk,hka,by rw [yce hk hw];exact eA⟩
       ·have hw:(h.evs[k].t==h.evs[a].t && h.evs[k].kind==2)=false:=by first|(rw [hg11_5,hc46];rfl)|(rw [hg11_5];rfl)
        refine rn ?_;first|exact ⟨hk,hka,by rw [ycd hk hw];exact eA⟩|exact ⟨hk,hka,by rw [yce hk hw];exact eA⟩
      ·refine rn ?_;refine z7 rfl (fun hc46=> ?_) (fun hc46=> ?_)
       ·first|cases hc46|exact absurd hc46 (by decide)|(exfalso;simp_all;done)
       ·have hw:(h.evs[k].t==h.evs[a].t && h.evs[k].kind==2)=false:=by first|(rw [hg11_5,hc46];rfl)|(rw [hg11_5];rfl)
        refine rn ?_;first|exact ⟨hk,hka,by rw [ycd hk hw];exact eA⟩|exact ⟨hk,hka,by rw [yce hk hw];exact eA⟩
    ·exfalso;have qk:=zaz hc38 lk;omega
 ·refine q1 ?_;refine q1 ?_;refine q1 ?_;refine qq rfl rfl (by first|exact zeu (c:=false) rfl rfl (congrArg some (by rw [h4];rfl))|exact zeu (c:=true) rfl rfl (congrArg some (by simpa using h4))) ?_
  refine rn ?_;refine z7 rfl (fun hc29=> ?_) (fun hc29=> ?_)
  ·refine y6 ?_;refine q1 ?_;refine u4 (zac ?_)
   refine w9 ?_;refine w9 (y6 ?_)
   refine q1 ?_;refine qq rfl rfl (by first|exact zeu (c:=false) rfl rfl (congrArg some (by rw [hc];rfl))|exact zeu (c:=true) rfl rfl rfl|exact zeu (c:=true) rfl rfl (congrArg some (by simpa using hc))) ?_
   refine rn ?_;refine z7 rfl (fun hc31=> ?_) (fun hc31=> ?_)
   ·refine rn ?_;refine ⟨fun l h=>(by cases h),?_⟩
    exact zbz rfl rfl (.trans (.drop [_,_] _ _) (zat 3 70 _)) ⟨⟨none,0,0⟩,by first|(rw [(ys8 hc).2];rfl)|(obtain ⟨a,ha,rfl,ea,hk0⟩:=zzq hc;rw [(yo1 hk0 (by rw [←yti hc];exact fun q=>h4 q.2.2)).2];rfl),by first|(rw [(ys8 hc).1];rfl)|(obtain ⟨a,ha,rfl,ea,hk0⟩:=zzq hc;rw [(yo1 hk0 (by rw [←yti hc];exact fun q=>h4 q.2.2)).1];rfl)⟩
   ·first|cases hc31|exact absurd hc31 (by decide)|(exfalso;simp_all;done)
  ·first|cases hc29|exact absurd hc29 (by decide)|(exfalso;simp_all;done)
 ·refine rn ?_;refine z7 rfl (fun hc29=> ?_) (fun hc29=> ?_)
  ·first|cases hc29|exact absurd hc29 (by decide)|(exfalso;simp_all;done)
  ·refine za7 ?_;refine zac ?_;refine w9 ?_;refine w9 (y6 ?_)
   refine q1 ?_;refine qq rfl rfl (by first|exact zeu (c:=false) rfl rfl (congrArg some (by rw [hc];rfl))|exact zeu (c:=true) rfl rfl rfl|exact zeu (c:=true) rfl rfl (congrArg some (by simpa using hc))) ?_
   refine rn ?_;refine z7 rfl (fun hc31=> ?_) (fun hc31=> ?_)
   ·refine rn ?_;refine ⟨fun l h=>(by cases h),?_⟩
    exact zbz rfl rfl (.trans (.drop [_,_] _ _) (zat 3 70 _)) ⟨⟨none,0,0⟩,by first|(rw [(ys8 hc).2];rfl)|(obtain ⟨a,ha,rfl,ea,hk0⟩:=zzq hc;rw [(yo1 hk0 (by rw [←yti hc];exact fun q=>h4 q.2.2)).2];rfl),by first|(rw [(ys8 hc).1];rfl)|(obtain ⟨a,ha,rfl,ea,hk0⟩:=zzq hc;rw [(yo1 hk0 (by rw [←yti hc];exact fun q=>h4 q.2.2)).1];rfl)⟩
   ·first|cases hc31|exact absurd hc31 (by decide)|(exfalso;simp_all;done)
theorem ykb (h:Hist) (la:Lim 4611686018427387904 h) (n:Int):y7 Tryz.prog 41 [.agg (y9 h),iv n] (.glob 2 156 y3:: .glob 4 305 y4:: .glob 5 308 y1:: .glob 3 246 q7:: []) (fun r h'=>h'= .glob 2 156 y3:: .glob 4 305 y4:: .glob 5 308 y1:: .glob 3 246 q7:: []∧r= .tup [zee (yju h n),iv (zed h n)]):=
 (yng h la n).ventR (by rintro _ _ ⟨s,rfl,rfl⟩;exact ⟨_,_,zbf [] [_],rfl,rfl⟩)
def zqt (p:Int×List Int):List AV:= [iv p.1,zaq p.2]
abbrev zja (l:List (Int×List Int)):AV:= .list false 2 (l.map zqt)
theorem yqx (l:List (Int×List Int)):∀r∈l.map zqt,r.all AV.one=true:=by
 intro r hr;obtain ⟨a,_,rfl⟩:=List.mem_map.1 hr;rfl
theorem zx1 {h:Hist} (hc:v6 h=0) (p x:Int):(chL h p x).length≤4000:=by
 rw [chL];split
 ·rename_i he
  have h1:=(yat.1 he).2.1
  rw [yo6]
  refine Nat.le_trans (zxx _ _) ?_
  have:=zlt hc h1.1 h1.2
  rw [zm8];omega
 ·exact Nat.zero_le _
theorem zrf {α:Type} (p:α→Bool):∀(l:List α) (i:Nat), -1≤zbq p i l∧zbq p i l < (i+l.length:Nat)+1
 | [],i=>by simp only [zbq,List.length_nil];omega
 |a::r,i=>by
  have:=zrf p r (i+1)
  simp only [zbq,List.length_cons]
  split <;> omega
theorem yp1 {h:Hist} (hc:v6 h=0) {x:Int} (h0:0≤x) (h1:x < h.os.length) {v:Ver} {r:Int} (hr:zig h x v=some r):0≤r∧r≤4000:=by
 have hb:=zlt hc h0 h1
 rw [zig,zne (za6.1 hc) v h0 h1 _ (Nat.le_refl _) h1] at hr
 split at hr
 ·injection hr with hr;omega
 ·split at hr
  ·injection hr with hr
   have:zl4 h x v < ((0+(za0 h x).length:Nat):Int)+1:=by rw [zl4];exact (zrf _ _ _).2
   omega
  ·cases hr
theorem zy3 {h:Hist} {e:Ev} (hn:(!(zig h e.o e.v).isSome)=true):zgu h e= []:=by
 rw [zgu];cases hq:zig h e.o e.v with
 |none=>rfl
 |some r=>rw [hq] at hn;cases hn
theorem zy2 {h:Hist} {e:Ev} {r:Int} (hr:zig h e.o e.v=some r):zgu h e= [(e.o,[r+1])]:=by rw [zgu,hr]
theorem zxr {α:Type} (p:α→Bool):∀(l:List α) (i:Nat),zbq p i l= -1∨(i:Int)≤zbq p i l
 | [],i=>by simp [zbq]
 |a::r,i=>by
  have:=zxr p r (i+1)
  simp only [zbq]
  split
  ·right;omega
  ·omega
theorem yit {l:List Int} {q:Int→Bool} {i n:Nat} (h:zbq q i l=((i+n:Nat):Int)):l.dropWhile (fun k=> !q k)=l.drop n:=by
 induction l generalizing i n with
 |nil=>simp [zbq] at h;omega
 |cons a r ih=>
  rw [zbq] at h
  by_cases hq:q a=true
  ·rw [if_pos hq] at h
   have:n=0:=by omega
   subst this
   simp [hq]
  ·rw [if_neg hq] at h
   have hf:q a=false:=by simpa using hq
   obtain ⟨m,rfl⟩:∃m,n=m+1:=⟨n - 1,by
    have:=zxr q r (i+1);omega⟩
   rw [List.dropWhile_cons,hf]
   simp only [Bool.not_false,if_true,List.drop_succ_cons]
   exact ih (i:=i+1) (n:=m) (by rw [h];congr 1;omega)
theorem ywe {h:Hist} {e:Ev} {s:Seen} {r:Int} {n:Nat} (hr:zig h s.o s.v=some r) (hn:zbq (fun k=>decide (k > r)) 0 (chL h e.p s.o)=(n:Int)):zfd h e s=some (s.o,rwOver h e.p s.o r)∧rwOver h e.p s.o r=(chL h e.p s.o).drop n:=by
 have ha:(chL h e.p s.o).any (fun k=>decide (k > r))=true:=by rw [←zen _ _ 0,hn];exact decide_eq_true (by omega)
 exact ⟨by rw [zfd,hr];simp only;rw [if_pos ha],by rw [rwOver];exact yit (i:=0) (by rw [hn];congr 1;omega)⟩
theorem yvt {h:Hist} {e:Ev} {s:Seen} (hn:(zig h s.o s.v).isSome=false∨decide (zbq (fun k=>decide (k > (zig h s.o s.v).getD 0)) 0 (chL h e.p s.o) ≥ 0)=false):zfd h e s=none:=by
 rw [zfd]
 cases hr:zig h s.o s.v with
 |none=>rfl
 |some r=>
  rw [hr] at hn
  rcases hn with q|q
  ·cases q
  ·rw [Option.getD_some,zen] at q
   simp only
   rw [if_neg (by rw [q];decide)]
theorem yr1 {α β:Type} (f:α→Option β) (l:List α) (k:Nat):((l.take k).filterMap f).length≤k:=Nat.le_trans (List.length_filterMap_le _ _) (List.length_take_le _ _)
theorem yfr {α β:Type} {f:α→Option β} {l:List α} {k:Nat} {b:β} (hk:k < l.length) (h:f l[k]=some b):(l.take (k+1)).filterMap f=(l.take k).filterMap f++ [b]:=by
 rw [List.take_succ_eq_append_getElem hk,List.filterMap_append];simp [h]
theorem yfs {α β:Type} {f:α→Option β} {l:List α} {k:Nat} (hk:k < l.length) (h:f l[k]=none):(l.take (k+1)).filterMap f=(l.take k).filterMap f:=by
 rw [List.take_succ_eq_append_getElem hk,List.filterMap_append];simp [h]
theorem yt4 (h:Hist) (la:Lim 4611686018427387904 h) (hc:v6 h=0) (p x:Int) (rc rl rk rg:Nat) (M:List ((Int×Int)×List Int)) (hM:zfy h M) (W:List Res):y7 Tryz.prog 305 [.agg (rwP h rc rl rk rg),iv p,iv x] (rgR rg M::rkS h rk::zch h rl::rcR h rc:: .glob 2 156 y3:: .glob 4 305 y4:: .glob 5 308 y1:: .glob 3 246 q7::W) (fun r h'=>∃M',zfy h M'∧h'=rgR rg M'::rkS h rk::zch h rl::rcR h rc:: .glob 2 156 y3:: .glob 4 305 y4:: .glob 5 308 y1:: .glob 3 246 q7::W∧r=zaq (chL h p x)):=by
 refine z6 Tryz.func305 rfl rfl rfl ?_
 refine rn ?_;refine z8 rfl (w8 rfl rfl rfl fun b3=> ?_)
 refine q1 ?_;refine u4 (zac ?_)
 refine w9 (y6 ?_)
 refine q1 ?_;refine q1 ?_;refine qq rfl rfl (zcm (out:= [iv p,iv x]) rfl (by rfl)) ?_
 refine z8 rfl (y5 rfl fun b7=> ?_)
 first|refine z8 rfl (j5 rfl rfl rfl ?_)|refine z8 rfl (zak rfl rfl rfl rfl (Nat.le_of_ble_eq_true rfl) ?_)
 refine u4 (zac ?_)
 refine w9 ?_;refine w9 (y6 ?_)
 refine q1 ?_;refine q1 ?_;refine q1 ?_;refine qq rfl rfl (zfe (g:=zaq) (enc:=za2) (k:=(p,x)) ([]:List Int) rfl rfl rfl) ?_
 refine rn ?_;refine z7 rfl (fun hc21=> ?_) (fun hc21=> ?_)
 ·refine zio 12 [11] [] (fun he=>∃M,he= .box b7 45 [iv p,iv x]:: .box b3 119 (rwP h rc rl rk rg)::rgR rg M::rkS h rk::zch h rl::rcR h rc:: .glob 2 156 y3:: .glob 4 305 y4:: .glob 5 308 y1:: .glob 3 246 q7::W) rfl rfl ⟨_,rfl⟩ ?_
  refine jq rfl (fun he hC=>by obtain ⟨M,rfl⟩:=hC <;> exact qrA) ?_
  refine jq rfl (fun he hC=>by obtain ⟨M,rfl⟩:=hC <;> exact qrA) ?_
  refine jq rfl (fun he hC=>by obtain ⟨M,rfl⟩:=hC <;> exact qrA) ?_
  refine jq rfl (fun he hC=>by obtain ⟨M,rfl⟩:=hC <;> exact qrA) ?_
  refine jq rfl (fun he hC=>by obtain ⟨M,rfl⟩:=hC <;> exact qrA) ?_
  refine jq rfl (fun he hC=>by obtain ⟨M,rfl⟩:=hC <;> exact qrA) ?_
  refine jq rfl (fun he hC=>by obtain ⟨M,rfl⟩:=hC <;> exact qrA) ?_
  refine jv rfl (fun he hC=>by obtain ⟨M,rfl⟩:=hC <;> exact (by exact y2 rfl rfl (y0.qt (y0.of_fun (ykd h la p x)) ((pt6 _ _ _ _ _ _ _ _).trans (.cons _ ((pt6 _ _ _ _ _ _ _ _).trans (.cons _ ((pt6 _ _ _ _ _ _ _ _).trans (.cons _ (pt6 _ _ _ _ _ _ _ _)))))))))) ?_
  refine jq rfl (fun he hC=>by obtain ⟨M,rfl⟩:=hC <;> exact qrA) ?_
  refine jq rfl (fun he hC=>by obtain ⟨M,rfl⟩:=hC <;> exact qrA) ?_
  refine jq rfl (fun he hC=>by obtain ⟨M,rfl⟩:=hC <;> exact qrA) ?_
  refine je rfl ?_;refine ynn ?_;refine jce rfl fun u=> ?_
  refine zan (g:=zaq) (enc:=za2) (k:=(p,x)) (v:=chL h p x) rfl rfl rfl ⟨.any,_,rfl,⟨_,rfl⟩,?_⟩
  refine jcn ?_;refine ln ?_;refine u4 (zac ?_)
  refine w9 (y6 ?_)
  refine q1 ?_;refine q1 ?_;refine q1 ?_;refine qq rfl rfl (zbm (g:=zaq) (enc:=za2) (k:=(p,x)) ([]:List Int) rfl rfl) ?_
  refine rn ?_;first|exact j9 rfl (.drop [_,_] _ _) ⟨_,zmu hM p x,rfl,congrArg zaq (zx0 p x)⟩|exact j9 rfl (.drop [_,_] _ _) ⟨_,hM,rfl,congrArg zaq (zmw hM hc21)⟩
 ·refine za7 ?_;refine zac ?_;refine w9 (y6 ?_)
  refine q1 ?_;refine q1 ?_;refine q1 ?_;refine qq rfl rfl (zbm (g:=zaq) (enc:=za2) (k:=(p,x)) ([]:List Int) rfl rfl) ?_
  refine rn ?_;first|exact j9 rfl (.drop [_,_] _ _) ⟨_,zmu hM p x,rfl,congrArg zaq (zx0 p x)⟩|exact j9 rfl (.drop [_,_] _ _) ⟨_,hM,rfl,congrArg zaq (zmw hM hc21)⟩
theorem ybe (h:Hist) (rc rl rk rg:Nat) (n:Int) (W:List Res):y7 Tryz.prog 302 [.agg (rwP h rc rl rk rg),iv n] W (fun r h'=>h'=W∧r=zja []):=by
 refine z6 Tryz.func302 rfl rfl rfl ?_
 refine rn ?_;refine z8 rfl (w8 rfl rfl rfl fun b2=> ?_)
 refine rn ?_;exact j9 rfl (.trans (.drop [_] _ _) (.le (Sb.nil false 2).le)) ⟨rfl,rfl⟩
theorem ypw (h:Hist) (la:Lim 4611686018427387904 h) (hc:v6 h=0) (a:Nat) (ha:a < h.evs.length) (h3:h.evs[a].kind=3) (rc rl rk rg:Nat) (M:List ((Int×Int)×List Int)) (W:List Res):y7 Tryz.prog 303 [.agg (rwP h rc rl rk rg),iv (a:Int)] (rgR rg M::rkS h rk::zch h rl::rcR h rc:: .glob 2 156 y3:: .glob 4 305 y4:: .glob 5 308 y1:: .glob 3 246 q7::W) (fun r h'=>h'=rgR rg M::rkS h rk::zch h rl::rcR h rc:: .glob 2 156 y3:: .glob 4 305 y4:: .glob 5 308 y1:: .glob 3 246 q7::W∧r=zja (zgu h h.evs[a])):=by
 refine z6 Tryz.func303 rfl rfl rfl ?_
 have ra:=zag (f:=evR) ha
 refine rn ?_;refine z8 rfl (w8 rfl rfl rfl fun b2=> ?_)
 refine q1 ?_;refine u4 (zac ?_)
 refine w9 (y6 ?_)
 refine q1 ?_;refine q1 ?_;refine q1 ?_;refine q1 ?_;refine qq rfl rfl (zb3 rfl rfl ra) ?_
 refine rn ?_;refine z8 rfl (y5 rfl fun b5=> ?_)
 first|refine z8 rfl (j5 rfl rfl rfl ?_)|refine z8 rfl (zak rfl rfl rfl rfl (Nat.le_of_ble_eq_true rfl) ?_)
 refine u4 (zac ?_)
 refine w9 (y6 ?_)
 refine q1 ?_;refine q1 ?_;refine q1 ?_;refine q1 ?_;refine q1 ?_;refine q1 ?_;refine qq rfl rfl (j6 (out:= [iv h.evs[a].o,iv h.evs[a].v.t,iv h.evs[a].v.k]) rfl (by rfl)) ?_
 refine qq rfl rfl (zfe (g:=iv) (enc:=zds) (k:=(h.evs[a].o,h.evs[a].v.t,h.evs[a].v.k)) (0:Int) rfl rfl rfl) ?_
 refine rn ?_;refine z7 rfl (fun hc26=> ?_) (fun hc26=> ?_)
 ·have hn:(!(zig h h.evs[a].o h.evs[a].v).isSome)=true:=hc26
  refine rn ?_;exact j9 rfl (.trans (.drop [_,_] _ _) (.le (Sb.nil false 2).le)) ⟨rfl,by rw [zy3 hn];rfl⟩
 ·obtain ⟨r0,hr⟩:∃r,(za9 (h.evs[a].o,h.evs[a].v.t,h.evs[a].v.k) (rkM h h.os.length))=some r:=Option.isSome_iff_exists.1 (by simpa using hc26)
  have hr':zig h h.evs[a].o h.evs[a].v=some r0:=hr
  have hb:=yp1 hc (zpd (ze4 (za6.1 hc) _ (List.getElem_mem ha)) h3).1.1 (zpd (ze4 (za6.1 hc) _ (List.getElem_mem ha)) h3).1.2 hr'
  rw [hr,Option.getD_some]
  refine rn ?_;refine qv rfl rfl (q6 rfl rfl) ?_
  refine qq rfl rfl (j6 (out:= [iv h.evs[a].o,.list true 1 [[iv (r0+1)]]]) rfl (by rfl)) ?_
  refine qv rfl rfl (q6 rfl rfl) ?_
  refine rn ?_;exact j9 rfl (.trans (.drop [_,_] _ _) (.le (Sb.lists (rows:= [[iv h.evs[a].o,.list true 1 [[iv (r0+1)]]]]) (rows':= [[iv h.evs[a].o,.list false 1 [[iv (r0+1)]]]]) (by simp) ⟨⟨.refl _,.unfull,trivial⟩,trivial⟩).le)) ⟨rfl,by rw [zy2 hr'];rfl⟩
theorem yl9 (k r0:Int) (b:Nat) (W:List Res):y7 Tryz.prog 306 [iv k,pZ b] (.box b 3 [iv r0]::W) (fun r h'=>h'= .box b 3 [iv r0]::W∧r=bv (decide (k > r0))):=by
 refine z6 Tryz.func306 rfl rfl rfl ?_
 refine rn ?_;refine rq 0 ?_
 exact ⟨rfl,rfl⟩
theorem ypv (h:Hist) (la:Lim 4611686018427387904 h) (hc:v6 h=0) (a:Nat) (ha:a < h.evs.length) (h4:h.evs[a].kind=4) (rc rl rk rg:Nat) (M:List ((Int×Int)×List Int)) (hM:zfy h M) (W:List Res):y7 Tryz.prog 304 [.agg (rwP h rc rl rk rg),iv (a:Int)] (rgR rg M::rkS h rk::zch h rl::rcR h rc:: .glob 2 156 y3:: .glob 4 305 y4:: .glob 5 308 y1:: .glob 3 246 q7::W) (fun r h'=>∃M',zfy h M'∧h'=rgR rg M'::rkS h rk::zch h rl::rcR h rc:: .glob 2 156 y3:: .glob 4 305 y4:: .glob 5 308 y1:: .glob 3 246 q7::W∧r=zja (zqs h h.evs[a] a)):=by
 refine z6 Tryz.func304 rfl rfl rfl ?_
 have ra:=zag (f:=evR) ha
 have hse:=ys9 ha hc h4
 have lA:=zb8 hc
 have lO:=lA.os
 have lS:(j8 h h.evs[a] a).length=h.os.length:=zi9 h h.evs[a] a
 refine rn ?_;refine z8 rfl (w8 rfl rfl rfl fun b2=> ?_)
 refine rn ?_;refine qv rfl rfl (y2 rfl rfl (y0.qt (y0.of_fun (ykb h la (a:Int))) ((pt5 _ _ _ _ _ _ _).trans (.cons _ ((pt5 _ _ _ _ _ _ _).trans (.cons _ ((pt5 _ _ _ _ _ _ _).trans (.cons _ (pt5 _ _ _ _ _ _ _))))))))) ?_
 rw [hse.1,hse.2]
 refine rn ?_;refine zha (j8 h h.evs[a] a).length (fun j (z:SV×List ((Int×Int)×List Int))=>zfy h z.2) (fun j z=>⟨[(23,iv j),(5,.v z.1.v),(1,iv (a:Int)),(2,pZ b2),(21,zee (j8 h h.evs[a] a)),(22,iv ((j8 h h.evs[a] a).map zah).length)],.row z.1.v 2 177 ((((j8 h h.evs[a] a).take j).filterMap (zfd h h.evs[a])).map zqt):: .box b2 119 (rwP h rc rl rk rg)::rgR rg z.2::rkS h rk::zch h rl::rcR h rc:: .glob 2 156 y3:: .glob 4 305 y4:: .glob 5 308 y1:: .glob 3 246 q7::W,[]⟩) (⟨none,0,0⟩,M) hM (v8 (k9 2 177) es) ?_
 intro j z lj hz
 refine rn ?_;refine z7 rfl (fun hc24=> ?_) (fun hc24=> ?_)
 ·have hj:=zay hc24
  have rj:=zag (f:=zah) hj
  have bl:=yr1 (zfd h h.evs[a]) (j8 h h.evs[a] a) j
  have bc:=zx1 hc h.evs[a].p (j8 h h.evs[a] a)[j].o
  refine rn ?_;refine z8 rfl (y5 rfl fun b9=> ?_)
  first|refine z8 rfl (j5 rfl rfl rfl ?_)|refine z8 rfl (zak rfl rfl rfl rfl (Nat.le_of_ble_eq_true rfl) ?_)
  refine u4 (zac ?_)
  refine w9 (y6 ?_)
  refine q1 ?_;refine q1 ?_;refine q1 ?_;refine q1 ?_;refine q1 ?_;refine q1 ?_;refine qq rfl rfl (j6 (out:= [iv (j8 h h.evs[a] a)[j].o,iv (j8 h h.evs[a] a)[j].v.t,iv (j8 h h.evs[a] a)[j].v.k]) rfl (by rfl)) ?_
  refine qq rfl rfl (zfe (g:=iv) (enc:=zds) (k:=((j8 h h.evs[a] a)[j].o,(j8 h h.evs[a] a)[j].v.t,(j8 h h.evs[a] a)[j].v.k)) (0:Int) rfl rfl rfl) ?_
  refine rn ?_;refine z8 rfl (y5 rfl fun b10=> ?_)
  refine rn ?_;refine j4 10 rfl ?_
  refine dq rfl rfl qrA ?_;refine dq rfl rfl qrA ?_;refine dq rfl rfl qrA ?_;refine dq rfl rfl qrA ?_;refine dq rfl rfl qrA ?_;refine dq rfl rfl (zb3 rfl rfl ra) ?_
  refine rn ?_;refine z8 rfl (v2 rfl rfl (y0.fr4 (y0.of_fun (yt4 h la hc h.evs[a].p (j8 h h.evs[a] a)[j].o rc rl rk rg z.2 hz W))) rfl ?_)
  rintro _ _ ⟨_,rfl,M2,hM2,rfl,rfl⟩
  refine rn ?_;refine qv rfl rfl (y2 rfl rfl (y0.of_fun (zlx (chL h h.evs[a].p (j8 h h.evs[a] a)[j].o) _ (fun k=>decide (k > ((za9 ((j8 h h.evs[a] a)[j].o,(j8 h h.evs[a] a)[j].v.t,(j8 h h.evs[a] a)[j].v.k) (rkM h h.os.length)).getD 0))) (.box b10 3 [iv ((za9 ((j8 h h.evs[a] a)[j].o,(j8 h h.evs[a] a)[j].v.t,(j8 h h.evs[a] a)[j].v.k) (rkM h h.os.length)).getD 0)]:: .box b9 70 (zah (j8 h h.evs[a] a)[j]):: .row z.1.v 2 177 ((((j8 h h.evs[a] a).take j).filterMap (zfd h h.evs[a])).map zqt):: .box b2 119 (rwP h rc rl rk rg)::rgR rg M2::rkS h rk::zch h rl::rcR h rc:: .glob 2 156 y3:: .glob 4 305 y4:: .glob 5 308 y1:: .glob 3 246 q7::W) (fun k _=>y0.of_acall (fs:= []) (cs:= [pZ b10]) (yl9 k ((za9 ((j8 h h.evs[a] a)[j].o,(j8 h h.evs[a] a)[j].v.t,(j8 h h.evs[a] a)[j].v.k) (rkM h h.os.length)).getD 0) b10 _)) (by omega)))) ?_
  refine rn ?_;refine w7 (fun hg9_1=> ?_) (fun hg9_1=> ?_)
  ·refine rn ?_;refine z7 rfl (fun hc56=> ?_) (fun hc56=> ?_)
   ·have q9:decide ((zbq (fun k=>decide (k > ((za9 ((j8 h h.evs[a] a)[j].o,(j8 h h.evs[a] a)[j].v.t,(j8 h h.evs[a] a)[j].v.k) (rkM h h.os.length)).getD 0))) 0 (chL h h.evs[a].p (j8 h h.evs[a] a)[j].o)) ≥ 0)=true:=by first|exact hc56|(have q:=hc56;rw [hg9_1] at q;simpa using q)
    have q8:=oT q9
    obtain ⟨n,hn⟩:∃n:Nat,(zbq (fun k=>decide (k > ((za9 ((j8 h h.evs[a] a)[j].o,(j8 h h.evs[a] a)[j].v.t,(j8 h h.evs[a] a)[j].v.k) (rkM h h.os.length)).getD 0))) 0 (chL h h.evs[a].p (j8 h h.evs[a] a)[j].o))=n:=⟨(zbq (fun k=>decide (k > ((za9 ((j8 h h.evs[a] a)[j].o,(j8 h h.evs[a] a)[j].v.t,(j8 h h.evs[a] a)[j].v.k) (rkM h h.os.length)).getD 0))) 0 (chL h h.evs[a].p (j8 h h.evs[a] a)[j].o)).toNat,by omega⟩
    obtain ⟨r0,hr⟩:∃r,zig h (j8 h h.evs[a] a)[j].o (j8 h h.evs[a] a)[j].v=some r:=Option.isSome_iff_exists.1 hg9_1
    obtain ⟨hsr,hov⟩:=ywe (e:=h.evs[a]) (n:=n) hr (by rw [←hn];show _=zbq (fun k=>decide (k > (zig h (j8 h h.evs[a] a)[j].o (j8 h h.evs[a] a)[j].v).getD 0)) 0 _;rw [hr];rfl)
    rw [hn]
    have hnl:n≤(chL h h.evs[a].p (j8 h h.evs[a] a)[j].o).length:=by have:=(zrf (fun k=>decide (k > ((za9 ((j8 h h.evs[a] a)[j].o,(j8 h h.evs[a] a)[j].v.t,(j8 h h.evs[a] a)[j].v.k) (rkM h h.os.length)).getD 0))) (chL h h.evs[a].p (j8 h h.evs[a] a)[j].o) 0).2;omega
    refine j4 8 rfl ?_
    refine dq rfl rfl qrA ?_;refine dq rfl rfl qrA ?_;refine dq rfl rfl qrA ?_;refine dq rfl rfl qrA ?_;refine dq rfl rfl qrA ?_;refine dq rfl rfl (zor (zpe (l:=n) rfl rfl (by rw [oM];exact hnl)) (show AV.list false 1 _=zaq (rwOver h h.evs[a].p (j8 h h.evs[a] a)[j].o r0) by rw [←List.map_drop,←hov];rfl)) ?_
    refine dq rfl rfl (j6 (out:=zqt ((j8 h h.evs[a] a)[j].o,rwOver h h.evs[a].p (j8 h h.evs[a] a)[j].o r0)) rfl (by rfl)) ?_
    refine dv rfl rfl (q6 rfl rfl) ?_
    refine rn ?_;refine z8 rfl (u7 rfl rfl (by simp only [oM,List.length_cons,List.length_nil];omega) rfl (fun s65=> ?_) (yqx [((j8 h h.evs[a] a)[j].o,rwOver h h.evs[a].p (j8 h h.evs[a] a)[j].o r0)]))
    refine k7 s65 fun sv hsv=> ?_
    subst hsv
    refine rn ?_;first|exact ⟨hj,(sv,M2),hM2,by rw [yfr hj hsr,List.map_append];exact eA⟩|exact ⟨hj,(z.1,M2),hM2,by rw [yfs hj hsr];exact eA⟩
   ·have hsr:zfd h h.evs[a] (j8 h h.evs[a] a)[j]=none:=yvt (by first|exact .inr hc56|exact .inl hg9_1)
    refine rn ?_;first|exact ⟨hj,(sv,M2),hM2,by rw [yfr hj hsr,List.map_append];exact eA⟩|exact ⟨hj,(z.1,M2),hM2,by rw [yfs hj hsr];exact eA⟩
  ·refine rn ?_;refine zd9 rfl ?_;have hsr:zfd h h.evs[a] (j8 h h.evs[a] a)[j]=none:=yvt (by first|exact .inr hc56|exact .inl hg9_1)
   refine rn ?_;first|exact ⟨hj,(sv,M2),hM2,by rw [yfr hj hsr,List.map_append];exact eA⟩|exact ⟨hj,(z.1,M2),hM2,by rw [yfs hj hsr];exact eA⟩
 ·have qj:=zaz hc24 lj
  refine rn ?_;exact j9 rfl (.trans zbr (.drop [_] _ _)) ⟨_,hz,rfl,by rw [qj,List.take_length];rfl⟩
def zkh (h:Hist) (x:Int) (l:List Int) (m:List ((Int×Int)×Int)):List ((Int×Int)×Int):=l.foldl (fun m t=>zdw (t,x) (zc9 h t x) m) m
theorem yio {h:Hist} {x:Int} {l:List Int} {k:Nat} {m:List ((Int×Int)×Int)} (hk:k < l.length):zkh h x (l.take (k+1)) m=zdw (l[k],x) (zc9 h l[k] x) (zkh h x (l.take k) m):=by
 rw [zkh,List.take_succ_eq_append_getElem hk,List.foldl_append];rfl
def yft (h:Hist):Nat→List ((Int×Int)×Int)
 |0=> []
 |n+1=>zkh h n (za0 h n) (yft h n)
theorem yr4 (h:Hist) (n:Nat):yft h (n+1)=zkh h n ((za0 h n).take (za0 h n).length) (yft h n):=by rw [List.take_length];rfl
theorem zpv {h:Hist} {x:Int}:∀(l:List Int) (m:List ((Int×Int)×Int)),(∀p v,za9 p m=some v→v=zc9 h p.1 p.2)→∀p v,za9 p (zkh h x l m)=some v→v=zc9 h p.1 p.2
 | [],_,hm=>hm
 |t::l,m,hm=>zpv l (zdw (t,x) (zc9 h t x) m) fun p v e=>by
  rw [zce] at e
  split at e
  ·rename_i q;injection e with e;rw [←e,←q]
  ·exact hm p v e
theorem zxq (h:Hist):∀n p v,za9 p (yft h n)=some v→v=zc9 h p.1 p.2
 |0,p,v,e=>by cases e
 |n+1,p,v,e=>zpv _ _ (zxq h n) p v e
theorem zji {h:Hist} {x:Int} {p:Int×Int}:∀(l:List Int) (m:List ((Int×Int)×Int)),(za9 p m).isSome=true→(za9 p (zkh h x l m)).isSome=true
 | [],_,hm=>hm
 |t::l,m,hm=>zji l _ (by
  rw [zce]
  by_cases q:(t,x)=p
  ·rw [if_pos q];rfl
  ·rw [if_neg q];exact hm)
theorem zpw {h:Hist} {x t:Int}:∀(l:List Int) (m:List ((Int×Int)×Int)),t∈l→(za9 (t,x) (zkh h x l m)).isSome=true
 | [],_,hm=>by cases hm
 |a::l,m,hm=>by
  rcases List.mem_cons.1 hm with rfl|hm
  ·exact zji l _ (by rw [zce,if_pos rfl];rfl)
  ·exact zpw l _ hm
theorem zs8 {h:Hist} {x:Nat} {t:Int} (ht:t∈za0 h x):∀n,x < n→(za9 (t,(x:Int)) (yft h n)).isSome=true
 |n+1,hx=>by
  by_cases e:x=n
  ·subst e;exact zpw _ _ ht
  ·exact zji _ _ (zs8 ht n (by omega))
theorem yoa {h:Hist} {x t:Int} (h0:0≤x) (h1:x < h.os.length) (ht:t∈za0 h x):(za9 (t,x) (yft h h.os.length)).getD 0=zc9 h t x:=by
 obtain ⟨n,rfl⟩:∃n:Nat,x=(n:Int):=⟨x.toNat,by omega⟩
 have:=zs8 ht h.os.length (by omega)
 cases hq:za9 (t,(n:Int)) (yft h h.os.length) with
 |none=>rw [hq] at this;cases this
 |some v=>exact zxq h _ _ _ hq
abbrev zdy (h:Hist) (rf:Nat):Res:= .map rf (zal za2 (zbe iv (yft h h.os.length)))
abbrev wrP (h:Hist) (rd rf rk rg:Nat):List AV:=y9 h++ [mpv rd,ykm h,mpv rf,mpv rk,mpv rg]
instance:Chk3 Tryz.prog 70:=⟨fun e w a b c=>by kernel_rfl⟩
theorem yh7 (h:Hist) (la:Lim 4611686018427387904 h) (hc:v6 h=0) (t x:Int):y7 Tryz.prog 121 [.agg (y9 h),iv t,iv x] (.glob 2 156 y3:: .glob 4 305 y4:: .glob 5 308 y1:: .glob 3 246 q7:: []) (fun r h'=>h'= .glob 2 156 y3:: .glob 4 305 y4:: .glob 5 308 y1:: .glob 3 246 q7:: []∧r= .tup [.agg (zyk (zhi h x t)),iv (zc9 h t x),bv (zi0 h.evs t x).isSome]):=(yns h la t x).mono fun _ _ q=>⟨q.1,by rw [q.2,yo5,if_pos hc];rfl⟩
theorem ytn (h:Hist) (la:Lim 4611686018427387904 h):y7 Tryz.prog 111 [.agg (y9 h)] (.glob 2 156 y3:: .glob 4 305 y4:: .glob 5 308 y1:: .glob 3 246 q7:: []) (fun r h'=>(v6 h=0∧∃bl rd rf rk rg,h'= .box bl 202 (wrP h rd rf rk rg)::rgR rg []::rkS h rk::zdy h rf::rcR h rd:: .glob 2 156 y3:: .glob 4 305 y4:: .glob 5 308 y1:: .glob 3 246 q7:: []∧r= .tup [pZ bl,iv 0])∨(v6 h≠0∧h'= .glob 2 156 y3:: .glob 4 305 y4:: .glob 5 308 y1:: .glob 3 246 q7:: []∧r= .tup [.v (.pointer none),iv (v6 h)])):=by
 refine z6 Tryz.func111 rfl rfl rfl ?_
 refine rn ?_;refine z8 rfl (w8 rfl rfl rfl fun b1=> ?_)
 refine rn ?_;refine qv rfl rfl (y2 rfl rfl (y0.qt (y0.of_fun (ydc h la)) ((pt1 _ _ _).trans (.cons _ ((pt1 _ _ _).trans (.cons _ ((pt1 _ _ _).trans (.cons _ (pt1 _ _ _))))))))) ?_
 refine rn ?_;refine z7 rfl (fun hc23=> ?_) (fun hc23=> ?_)
 ·have hc:=nzT hc23
  refine rn ?_;exact zbz rfl rfl (.drop [_] _ _) (.inr ⟨hc,rfl,rfl⟩)
 ·have hc:=nzF hc23
  have hts:onE (v6 h) (zdd h.evs)=(zdd h.evs):=by rw [hc,onE,if_pos rfl]
  rw [hts]
  have hs:=za6.1 hc
  have lA:=zb8 hc
  have lO:=lA.os
  have lE:=lA.evs
  have bC:=Nat.le_trans (zvy h.evs) lA.evs
  refine rn ?_;refine z8 rfl (zax (enc:=intK) rfl fun b26=> ?_)
  refine z8 rfl (zax (enc:=za2) rfl fun b27=> ?_)
  refine z8 rfl (zax (enc:=zds) rfl fun b28=> ?_)
  refine z8 rfl (zax (enc:=za2) rfl fun b29=> ?_)
  refine qq rfl rfl (j6 (out:=y9 h++ [mpv b26,.v (.slice none 0 0),mpv b27,mpv b28,mpv b29]) rfl (by rfl)) ?_
  refine z8 rfl (w8 rfl rfl rfl fun b31=> ?_)
  refine rn ?_;refine zb7 (zdd h.evs).length (fun _=>True) (fun k=>⟨[(34,iv k),(1,pZ b1),(6,pZ b31),(32,zaq (zdd h.evs)),(33,iv ((zdd h.evs).map zai).length)],.box b31 202 (y9 h++ [mpv b26,.v (.slice none 0 0),mpv b27,mpv b28,mpv b29]):: .map b29 (zal za2 (zbe zaq [])):: .map b28 (zal zds (zbe iv [])):: .map b27 (zal za2 (zbe iv [])):: .map b26 (zal intK (zbe bv (dnM ((zdd h.evs).take k)))):: .box b1 28 (y9 h):: .glob 2 156 y3:: .glob 4 305 y4:: .glob 5 308 y1:: .glob 3 246 q7:: [],[]⟩) trivial es ?_
  intro k lk _
  refine rn ?_;refine z7 rfl (fun hc35=> ?_) (fun hc35=> ?_)
  ·have hk:=zay hc35
   have rk:=zag (f:=zai) hk
   refine rn ?_;refine z8 rfl (zan (g:=bv) (enc:=intK) (k:=(zdd h.evs)[k]) (v:=true) rfl rfl rfl ?_)
   refine rn ?_;exact ⟨hk,trivial,by rw [ysi hk];exact eA⟩
  ·have qk:=zaz hc35 lk
   rw [qk,List.take_length]
   refine rn ?_;refine zda h.os.length (fun k s=>⟨[(47,iv k),(1,pZ b1),(6,pZ b31),(46,iv (h.os.map zeh).length)],.row s.v 1 29 (((upR k).map (za0 h)).map ygq):: .box b31 202 (y9 h++ [mpv b26,.v s.v,mpv b27,mpv b28,mpv b29]):: .map b29 (zal za2 (zbe zaq [])):: .map b28 (zal zds (zbe iv (rkM h k))):: .map b27 (zal za2 (zbe iv (yft h k))):: .map b26 (zal intK (zbe bv (dnM (zdd h.evs)))):: .box b1 28 (y9 h):: .glob 2 156 y3:: .glob 4 305 y4:: .glob 5 308 y1:: .glob 3 246 q7:: [],[]⟩) ⟨none,0,0⟩ (v8 (k9 1 29) es) ?_
   intro k s lk
   refine rn ?_;refine z7 rfl (fun hc48=> ?_) (fun hc48=> ?_)
   ·have hk:k < h.os.length:=by have q:=oT hc48;rw [oM] at q;omega
    have k0:(0:Int)≤(k:Int):=by omega
    have k1:(k:Int) < h.os.length:=by omega
    have hb:=zlt hc k0 k1
    refine rn ?_;refine qv rfl rfl (y2 rfl rfl (y0.qt (y0.of_fun (yki h la hc k k0 k1)) ((pt7 _ _ _ _ _ _ _ _ _).trans (.cons _ ((pt7 _ _ _ _ _ _ _ _ _).trans (.cons _ ((pt7 _ _ _ _ _ _ _ _ _).trans (.cons _ (pt7 _ _ _ _ _ _ _ _ _))))))))) ?_
    refine rn ?_;refine qv rfl rfl (q6 rfl rfl) ?_
    refine z8 rfl (u7 rfl rfl (by simp only [oM,upR,List.length_range,List.length_cons,List.length_nil];omega) rfl (fun s63=> ?_) (fun r hr=>by rw [List.mem_singleton.1 hr];rfl))
    refine k7 s63 fun sv hsv=> ?_
    subst hsv
    refine q1 ?_;refine q1 ?_;first|refine z8 rfl (j5 rfl rfl rfl ?_)|refine z8 rfl (zak rfl rfl rfl rfl (Nat.le_of_ble_eq_true rfl) ?_)
    refine u4 (zac ?_)
    refine w9 (y6 ?_)
    refine q1 ?_;refine q1 ?_;refine q1 ?_;refine q1 ?_;refine q1 ?_;refine qq rfl rfl (j6 (out:= [iv k,iv 0,iv 0]) rfl (by rfl)) ?_
    refine z8 rfl (zan (g:=iv) (enc:=zds) (k:=((k:Int),(0:Int),(0:Int))) (v:=(0:Int)) rfl rfl rfl ?_)
    refine rn ?_;refine zb7 (za0 h k).length (fun _=>True) (fun j=>⟨[(74,iv j),(1,pZ b1),(6,pZ b31),(9,iv k),(46,iv (h.os.map zeh).length),(47,iv k),(72,zaq (za0 h k)),(73,iv ((za0 h k).map zai).length)],.row sv.v 1 29 (((upR k).map (za0 h)).map ygq++ [ygq (za0 h k)]):: .box b31 202 (y9 h++ [mpv b26,.v sv.v,mpv b27,mpv b28,mpv b29]):: .map b29 (zal za2 (zbe zaq [])):: .map b28 (zal zds (zbe iv (zht h k 0 ((za0 h k).take j) (zdw (zry k ⟨0,0⟩) 0 (rkM h k))))):: .map b27 (zal za2 (zbe iv (zkh h k ((za0 h k).take j) (yft h k)))):: .map b26 (zal intK (zbe bv (dnM (zdd h.evs)))):: .box b1 28 (y9 h):: .glob 2 156 y3:: .glob 4 305 y4:: .glob 5 308 y1:: .glob 3 246 q7:: [],[]⟩) trivial es ?_
    intro j lj _
    refine rn ?_;refine z7 rfl (fun hc75=> ?_) (fun hc75=> ?_)
    ·have hj:=zay hc75
     have rj:=zag (f:=zai) hj
     refine rn ?_;refine qv rfl rfl (y2 rfl rfl (y0.qt (y0.of_fun (yh7 h la hc (za0 h k)[j] k)) ((pt7 _ _ _ _ _ _ _ _ _).trans (.cons _ ((pt7 _ _ _ _ _ _ _ _ _).trans (.cons _ ((pt7 _ _ _ _ _ _ _ _ _).trans (.cons _ (pt7 _ _ _ _ _ _ _ _ _))))))))) ?_
     refine rn ?_;refine z8 rfl (y5 rfl fun b14=> ?_)
     first|refine z8 rfl (j5 rfl rfl rfl ?_)|refine z8 rfl (zak rfl rfl rfl rfl (Nat.le_of_ble_eq_true rfl) ?_)
     refine q1 ?_;refine q1 ?_;refine u4 (zac ?_)
     refine w9 (y6 ?_)
     refine q1 ?_;refine q1 ?_;refine q1 ?_;refine q1 ?_;refine q1 ?_;refine q1 ?_;refine qq rfl rfl (zcm (out:= [iv (za0 h k)[j],iv k]) rfl (by rfl)) ?_
     refine rn ?_;refine z8 rfl (zan (g:=iv) (enc:=za2) (k:=((za0 h k)[j],(k:Int))) (v:=zc9 h (za0 h k)[j] k) rfl rfl rfl ?_)
     refine rn ?_;refine j4 9 rfl ?_
     refine dq rfl rfl qrA ?_;refine dq rfl rfl qrA ?_;refine dq rfl rfl qrA ?_;refine dq rfl rfl qrA ?_;refine dq rfl rfl qrA ?_;refine dq rfl rfl qrA ?_;refine dq rfl rfl (j6 (out:= [iv k,iv (zhi h k (za0 h k)[j]).t,iv (zhi h k (za0 h k)[j]).k]) rfl (by rfl)) ?_
     refine dq rfl rfl qrA ?_;refine dq rfl rfl (zci rfl rfl rfl (by omega)) ?_
     refine rn ?_;refine z8 rfl (zan (g:=iv) (enc:=zds) (k:=((k:Int),(zhi h k (za0 h k)[j]).t,(zhi h k (za0 h k)[j]).k)) (v:=(j:Int)+1) rfl rfl rfl ?_)
     refine rn ?_;exact ⟨hj,trivial,by rw [ybl hj,yio hj];exact eA⟩
    ·have qj:=zaz hc75 lj
     refine rn ?_;exact ⟨hk,sv,by rw [zoj,List.map_append,List.map_append,yp3,yr4];rw [qj,List.take_length];exact eA⟩
   ·have qk:k=h.os.length:=by have q:=oF hc48;rw [oM] at q;omega
    refine zjl ?_;refine zi8 ?_;refine zi8 ?_;refine zex ?_;refine zac ?_;refine w9 (y6 ?_)
    refine zfw (zi1 (y9 h++ [mpv b26]) [mpv b27,mpv b28,mpv b29]) ?_
    refine rn ?_;exact zbz rfl rfl (.trans (.perm (pt5 _ _ _ _ _ _ _) _) (.drop [_] _ _)) (.inl ⟨hc,b31,b26,b27,b28,b29,by rw [qk];rfl,rfl⟩)
theorem ytq (h:Hist) (la:Lim 4611686018427387904 h) (hc:v6 h=0) (p x:Int) (bl rd rf rk rg:Nat) (M:List ((Int×Int)×List Int)) (hM:zfy h M) (W:List Res):y7 Tryz.prog 161 [pZ bl,iv p,iv x] (.box bl 202 (wrP h rd rf rk rg)::rgR rg M::rkS h rk::zdy h rf::rcR h rd:: .glob 2 156 y3:: .glob 4 305 y4:: .glob 5 308 y1:: .glob 3 246 q7::W) (fun r h'=>∃M',zfy h M'∧h'= .box bl 202 (wrP h rd rf rk rg)::rgR rg M'::rkS h rk::zdy h rf::rcR h rd:: .glob 2 156 y3:: .glob 4 305 y4:: .glob 5 308 y1:: .glob 3 246 q7::W∧r=zaq (chL h p x)):=by
 refine z6 Tryz.func161 rfl rfl rfl ?_
 refine w9 (y6 ?_)
 refine q1 ?_;refine u4 (zac ?_)
 refine w9 (y6 ?_)
 refine q1 ?_;refine q1 ?_;refine qq rfl rfl (zcm (out:= [iv p,iv x]) rfl (by rfl)) ?_
 refine z8 rfl (y5 rfl fun b7=> ?_)
 refine rn ?_;refine j4 10 rfl ?_
 refine dq rfl rfl qrA ?_;refine dq rfl rfl qrA ?_;refine dq rfl rfl qrA ?_;refine dq rfl rfl qrA ?_;refine dq rfl rfl qrA ?_;refine dq rfl rfl (zfe (g:=zaq) (enc:=za2) (k:=(p,x)) ([]:List Int) rfl rfl rfl) ?_
 refine rn ?_;refine z7 rfl (fun hc23=> ?_) (fun hc23=> ?_)
 ·refine rn ?_;refine qv rfl rfl (y2 rfl rfl (y0.qt (y0.of_fun (ykd h la p x)) ((pt6 _ _ _ _ _ _ _ _).trans (.cons _ ((pt6 _ _ _ _ _ _ _ _).trans (.cons _ ((pt6 _ _ _ _ _ _ _ _).trans (.cons _ (pt6 _ _ _ _ _ _ _ _))))))))) ?_
  refine rn ?_;refine j4 6 rfl ?_
  refine rn ?_;refine z8 rfl (zan (g:=zaq) (enc:=za2) (k:=(p,x)) (v:=chL h p x) rfl rfl rfl ?_)
  refine rn ?_;first|exact j9 rfl (.drop [_] _ _) ⟨_,zmu hM p x,rfl,rfl⟩|exact j9 rfl (.drop [_] _ _) ⟨_,hM,rfl,congrArg zaq (zmw hM hc23)⟩
 ·refine rn ?_;first|exact j9 rfl (.drop [_] _ _) ⟨_,zmu hM p x,rfl,rfl⟩|exact j9 rfl (.drop [_] _ _) ⟨_,hM,rfl,congrArg zaq (zmw hM hc23)⟩
theorem yji (h:Hist) (f x:Int) (a:Nat) (ha:a < h.evs.length) (h0:0≤x) (h1:x < h.os.length) (hf:f∈za0 h x) (bl rd rf rk rg:Nat) (M:List ((Int×Int)×List Int)) (W:List Res):y7 Tryz.prog 159 [pZ bl,iv f,iv (a:Int),iv x] (.box bl 202 (wrP h rd rf rk rg)::rgR rg M::rkS h rk::zdy h rf::rcR h rd:: .glob 2 156 y3:: .glob 4 305 y4:: .glob 5 308 y1:: .glob 3 246 q7::W) (fun r h'=>h'= .box bl 202 (wrP h rd rf rk rg)::rgR rg M::rkS h rk::zdy h rf::rcR h rd:: .glob 2 156 y3:: .glob 4 305 y4:: .glob 5 308 y1:: .glob 3 246 q7::W∧r= .agg (zaf ⟨f,h.evs[a].t,0,zc9 h f x,a,x,0⟩)):=by
 refine z6 Tryz.func159 rfl rfl rfl ?_
 have ra:=zag (f:=evR) ha
 refine rn ?_;refine z8 rfl (y5 rfl fun b8=> ?_)
 refine rn ?_;refine j4 20 rfl ?_
 refine dq rfl rfl qrA ?_;refine dq rfl rfl qrA ?_;refine dq rfl rfl qrA ?_;refine dq rfl rfl qrA ?_;refine dq rfl rfl qrA ?_;refine dq rfl rfl qrA ?_;refine dq rfl rfl qrA ?_;refine dq rfl rfl qrA ?_;refine dq rfl rfl qrA ?_;refine dq rfl rfl qrA ?_;refine dq rfl rfl qrA ?_;refine dq rfl rfl qrA ?_;refine dq rfl rfl qrA ?_;refine dq rfl rfl qrA ?_;refine dq rfl rfl qrA ?_;refine dq rfl rfl qrA ?_;refine dq rfl rfl (zcm (out:= [iv f,iv x]) rfl (by rfl)) ?_
 refine dq rfl rfl (zor (zbm (enc:=za2) (k:=(f,x)) 0 rfl rfl) (show iv _=iv (zc9 h f x) from congrArg iv (yoa h0 h1 hf))) ?_
 refine rn2 ?_;refine qq rfl rfl (j6 (out:=zaf ⟨f,h.evs[a].t,0,zc9 h f x,a,x,0⟩) rfl (by rfl)) ?_
 refine rn ?_;exact zef (.cons _ _ _ _ (.agg _ _ _ _ _ _ _ rfl inferInstance inferInstance inferInstance rfl) .nil) (.drop [_] _ _) ⟨rfl,rfl⟩
theorem yf1 (a bl:Nat) (W:List Res):y7 Tryz.prog 114 [pZ bl,iv (a:Int)] W (fun r h'=>∃ba bp,h'= .box ba 3 [iv (a:Int)]:: .box bp 147 [pZ bl]::W∧r= .fn (.func 158) [] [pZ bp,pZ ba]):=by
 refine z6 Tryz.func114 rfl rfl rfl ?_
 refine rn ?_;refine z8 rfl (w8 rfl rfl rfl fun b2=> ?_)
 refine z8 rfl (w8 rfl rfl rfl fun b3=> ?_)
 refine rn ?_;exact j9 rfl (.refl _ _) ⟨_,_,rfl,rfl⟩
theorem yf0 (a bl:Nat) (W:List Res):y7 Tryz.prog 115 [pZ bl,iv (a:Int)] W (fun r h'=>∃ba bp,h'= .box ba 3 [iv (a:Int)]:: .box bp 147 [pZ bl]::W∧r= .fn (.func 160) [] [pZ bp,pZ ba]):=by
 refine z6 Tryz.func115 rfl rfl rfl ?_
 refine rn ?_;refine z8 rfl (w8 rfl rfl rfl fun b2=> ?_)
 refine z8 rfl (w8 rfl rfl rfl fun b3=> ?_)
 refine rn ?_;exact j9 rfl (.refl _ _) ⟨_,_,rfl,rfl⟩
end Go.Proofs
