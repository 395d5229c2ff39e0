/- The walk of the reference's test of an event. Conditions: none. -/
import Derived.Test.YtfmcbdjnmlcacaaGreatDoorROvI
set_option maxHeartbeats 4000000
set_option linter.unusedSectionVars false
set_option linter.unusedSimpArgs false
set_option linter.unusedVariables false
set_option maxRecDepth 10000
namespace Go.Proofs
open Go Go.Ab
attribute [local irreducible] QR QV OE zcp aw zdd zcj zbo za7 thn zft
open Go.H
theorem bvz0_1930 {a b:Bool} (h:a=b:=by first|(simp only [zkm,zv6, *,Bool.true_and,Bool.false_and,Bool.and_false,Bool.and_true,Bool.true_or,Bool.or_false,Bool.false_or,Bool.or_true,if_true,if_false,Bool.false_eq_true,Bool.not_true,Bool.not_false];done)|(simp_all [zkm,zv6];done)|(simp_all [zkm,zv6] <;> omega)):bv a=bv b:=congrArg bv h
theorem zyy (h:Hist) (e:Ev) (hl:e.scan.length≤4611686018427387904):y8 Tryz.prog 164 [.agg (w7 h),.agg (evR e)] [] (fun r h'=>h'= []∧r=bv (zkm h e)):=by
 refine z6 Tryz.func164 rfl rfl rfl ?_
 refine rn ?_;refine z8 rfl (w9 rfl rfl rfl fun b2=> ?_)
 refine z8 rfl (w9 rfl rfl rfl fun b3=> ?_)
 refine rn ?_;refine qv rfl rfl (y1 rfl rfl (u5 (zij _ _) (Sbs.refl _))) ?_
 refine rn ?_;refine z7 rfl (fun hc16=> ?_) (fun hc16=> ?_)
 ·refine rn ?_;exact j9 rfl (.drop [_,_] _ _) ⟨rfl,bvz0_1930⟩
 ·refine rn ?_;refine z8 rfl (y3 rfl fun b6=> ?_)
  refine rn ?_;refine z7 rfl (fun hc24=> ?_) (fun hc24=> ?_)
  ·refine rn ?_;refine zef 6 [(b6,60,_)] rfl (List.perm_append_comm (l₁:= [_])) ?_
   refine rn ?_;refine dw 0 rfl rfl rfl rfl rfl (Nat.le_of_ble_eq_true rfl) ?_
   refine rn2 ?_;show zcp _ _ _ _ _ _ ⟨_,.box b6 60 [iv e.kind,iv e.t,iv e.s,iv 0,iv 0,iv 0,iv 0,iv 0,.v (.slice none 0 0)]:: .box b3 60 (evR e):: .box b2 28 (w7 h):: [],_⟩
   refine rn0 ?_;refine w8 ?_;show aw _ _ _ _ _ ⟨_,.box b6 60 [iv e.kind,iv e.t,iv e.s,iv e.l,iv 0,iv 0,iv 0,iv 0,.v (.slice none 0 0)]:: .box b3 60 (evR e):: .box b2 28 (w7 h):: [],_⟩
   refine rn ?_;refine qv rfl rfl (y1 rfl rfl (u5 (zfy ⟨e.kind,e.t,e.s,e.l,0,⟨0,0⟩,0,[]⟩ e (by simp [hl]) hl) (by exact ⟨(by exact Sb.aggs (by exact ⟨.refl _,.refl _,.refl _,.refl _,.refl _,.refl _,.refl _,.refl _,.nil _ _,trivial⟩)),.refl _,trivial⟩))) ?_
   refine rn ?_;refine w6 (fun hg8_3=> ?_) (fun hg8_3=> ?_)
   ·refine rn ?_;refine qv rfl rfl (y1 rfl rfl (u5 (zij _ _) (Sbs.refl _))) ?_
    refine rn ?_;refine w6 (fun hg8_11=> ?_) (fun hg8_11=> ?_)
    ·refine rn ?_;refine qv rfl rfl (y1 rfl rfl (u5 (ywd _) (Sbs.refl _))) ?_
     refine rn ?_;exact j9 rfl (.drop [_,_,_] _ _) ⟨rfl,bvz0_1930⟩
    ·refine rn ?_;exact j9 rfl (.drop [_,_,_] _ _) ⟨rfl,bvz0_1930⟩
   ·refine rn ?_;exact j9 rfl (.drop [_,_,_] _ _) ⟨rfl,bvz0_1930⟩
  ·refine rn ?_;refine z7 rfl (fun hc48=> ?_) (fun hc48=> ?_)
   ·refine rn ?_;refine z7 rfl (fun hc48=> ?_) (fun hc48=> ?_)
    ·refine rn ?_;refine zef 6 [(b6,60,_)] rfl (List.perm_append_comm (l₁:= [_])) ?_
     refine rn ?_;refine dw 0 rfl rfl rfl rfl rfl (Nat.le_of_ble_eq_true rfl) ?_
     refine rn2 ?_;show zcp _ _ _ _ _ _ ⟨_,.box b6 60 [iv e.kind,iv e.t,iv 0,iv 0,iv e.o,iv 0,iv 0,iv 0,.v (.slice none 0 0)]:: .box b3 60 (evR e):: .box b2 28 (w7 h):: [],_⟩
     refine rn0 ?_;refine w8 ?_;refine w8 ?_;show aw _ _ _ _ _ ⟨_,.box b6 60 [iv e.kind,iv e.t,iv 0,iv 0,iv e.o,iv e.v.t,iv e.v.k,iv 0,.v (.slice none 0 0)]:: .box b3 60 (evR e):: .box b2 28 (w7 h):: [],_⟩
     refine rn ?_;refine w6 (fun hg12_3=> ?_) (fun hg12_3=> ?_)
     ·refine rn ?_;refine w6 (fun hg12_8=> ?_) (fun hg12_8=> ?_)
      ·refine rn ?_;refine zc0 rfl ?_;refine rn ?_;exact j9 rfl (.drop [_,_,_] _ _) ⟨rfl,bvz0_1930⟩
      ·refine rn ?_;refine z7 rfl (fun hc73=> ?_) (fun hc73=> ?_)
       ·refine rn ?_;exact j9 rfl (.drop [_,_,_] _ _) ⟨rfl,bvz0_1930⟩
       ·refine rn ?_;refine qv rfl rfl (y1 rfl rfl (u5 (zfy ⟨e.kind,e.t,0,0,e.o,e.v,0,[]⟩ e (by simp [hl]) hl) (by exact ⟨(by exact Sb.aggs (by exact ⟨.refl _,.refl _,.refl _,.refl _,.refl _,.refl _,.refl _,.refl _,.nil _ _,trivial⟩)),.refl _,trivial⟩))) ?_
        refine rn ?_;refine w6 (fun hg14_3=> ?_) (fun hg14_3=> ?_)
        ·refine rn ?_;refine qv rfl rfl (y1 rfl rfl (u5 (zij _ _) (Sbs.refl _))) ?_
         refine rn ?_;refine w6 (fun hg14_11=> ?_) (fun hg14_11=> ?_)
         ·refine rn ?_;refine qv rfl rfl (y1 rfl rfl (u5 (zgb e.v _) (Sbs.refl _))) ?_
          refine rn ?_;exact j9 rfl (.drop [_,_,_] _ _) ⟨rfl,bvz0_1930⟩
         ·refine rn ?_;exact j9 rfl (.drop [_,_,_] _ _) ⟨rfl,bvz0_1930⟩
        ·refine rn ?_;exact j9 rfl (.drop [_,_,_] _ _) ⟨rfl,bvz0_1930⟩
     ·refine rn ?_;refine zfu rfl ?_;refine rn ?_;refine qv rfl rfl (y1 rfl rfl (u5 (zfy ⟨e.kind,e.t,0,0,e.o,e.v,0,[]⟩ e (by simp [hl]) hl) (by exact ⟨(by exact Sb.aggs (by exact ⟨.refl _,.refl _,.refl _,.refl _,.refl _,.refl _,.refl _,.refl _,.nil _ _,trivial⟩)),.refl _,trivial⟩))) ?_
      refine rn ?_;refine w6 (fun hg14_3=> ?_) (fun hg14_3=> ?_)
      ·refine rn ?_;refine qv rfl rfl (y1 rfl rfl (u5 (zij _ _) (Sbs.refl _))) ?_
       refine rn ?_;refine w6 (fun hg14_11=> ?_) (fun hg14_11=> ?_)
       ·refine rn ?_;refine qv rfl rfl (y1 rfl rfl (u5 (zgb e.v _) (Sbs.refl _))) ?_
        refine rn ?_;exact j9 rfl (.drop [_,_,_] _ _) ⟨rfl,bvz0_1930⟩
       ·refine rn ?_;exact j9 rfl (.drop [_,_,_] _ _) ⟨rfl,bvz0_1930⟩
      ·refine rn ?_;exact j9 rfl (.drop [_,_,_] _ _) ⟨rfl,bvz0_1930⟩
    ·first|cases hc48|exact absurd hc48 (by decide)|(exfalso;simp_all;done)
   ·refine rn ?_;refine z7 rfl (fun hc48=> ?_) (fun hc48=> ?_)
    ·refine rn ?_;refine zef 6 [(b6,60,_)] rfl (List.perm_append_comm (l₁:= [_])) ?_
     refine rn ?_;refine dw 0 rfl rfl rfl rfl rfl (Nat.le_of_ble_eq_true rfl) ?_
     refine rn2 ?_;show zcp _ _ _ _ _ _ ⟨_,.box b6 60 [iv e.kind,iv e.t,iv 0,iv 0,iv e.o,iv 0,iv 0,iv 0,.v (.slice none 0 0)]:: .box b3 60 (evR e):: .box b2 28 (w7 h):: [],_⟩
     refine rn0 ?_;refine w8 ?_;refine w8 ?_;show aw _ _ _ _ _ ⟨_,.box b6 60 [iv e.kind,iv e.t,iv 0,iv 0,iv e.o,iv e.v.t,iv e.v.k,iv 0,.v (.slice none 0 0)]:: .box b3 60 (evR e):: .box b2 28 (w7 h):: [],_⟩
     refine rn ?_;refine w6 (fun hg12_3=> ?_) (fun hg12_3=> ?_)
     ·refine rn ?_;refine w6 (fun hg12_8=> ?_) (fun hg12_8=> ?_)
      ·refine rn ?_;refine zc0 rfl ?_;refine rn ?_;exact j9 rfl (.drop [_,_,_] _ _) ⟨rfl,bvz0_1930⟩
      ·refine rn ?_;refine z7 rfl (fun hc73=> ?_) (fun hc73=> ?_)
       ·refine rn ?_;exact j9 rfl (.drop [_,_,_] _ _) ⟨rfl,bvz0_1930⟩
       ·refine rn ?_;refine qv rfl rfl (y1 rfl rfl (u5 (zfy ⟨e.kind,e.t,0,0,e.o,e.v,0,[]⟩ e (by simp [hl]) hl) (by exact ⟨(by exact Sb.aggs (by exact ⟨.refl _,.refl _,.refl _,.refl _,.refl _,.refl _,.refl _,.refl _,.nil _ _,trivial⟩)),.refl _,trivial⟩))) ?_
        refine rn ?_;refine w6 (fun hg14_3=> ?_) (fun hg14_3=> ?_)
        ·refine rn ?_;refine qv rfl rfl (y1 rfl rfl (u5 (zij _ _) (Sbs.refl _))) ?_
         refine rn ?_;refine w6 (fun hg14_11=> ?_) (fun hg14_11=> ?_)
         ·refine rn ?_;refine qv rfl rfl (y1 rfl rfl (u5 (zgb e.v _) (Sbs.refl _))) ?_
          refine rn ?_;exact j9 rfl (.drop [_,_,_] _ _) ⟨rfl,bvz0_1930⟩
         ·refine rn ?_;exact j9 rfl (.drop [_,_,_] _ _) ⟨rfl,bvz0_1930⟩
        ·refine rn ?_;exact j9 rfl (.drop [_,_,_] _ _) ⟨rfl,bvz0_1930⟩
     ·refine rn ?_;refine zfu rfl ?_;refine rn ?_;refine qv rfl rfl (y1 rfl rfl (u5 (zfy ⟨e.kind,e.t,0,0,e.o,e.v,0,[]⟩ e (by simp [hl]) hl) (by exact ⟨(by exact Sb.aggs (by exact ⟨.refl _,.refl _,.refl _,.refl _,.refl _,.refl _,.refl _,.refl _,.nil _ _,trivial⟩)),.refl _,trivial⟩))) ?_
      refine rn ?_;refine w6 (fun hg14_3=> ?_) (fun hg14_3=> ?_)
      ·refine rn ?_;refine qv rfl rfl (y1 rfl rfl (u5 (zij _ _) (Sbs.refl _))) ?_
       refine rn ?_;refine w6 (fun hg14_11=> ?_) (fun hg14_11=> ?_)
       ·refine rn ?_;refine qv rfl rfl (y1 rfl rfl (u5 (zgb e.v _) (Sbs.refl _))) ?_
        refine rn ?_;exact j9 rfl (.drop [_,_,_] _ _) ⟨rfl,bvz0_1930⟩
       ·refine rn ?_;exact j9 rfl (.drop [_,_,_] _ _) ⟨rfl,bvz0_1930⟩
      ·refine rn ?_;exact j9 rfl (.drop [_,_,_] _ _) ⟨rfl,bvz0_1930⟩
    ·refine rn ?_;refine z7 rfl (fun hc91=> ?_) (fun hc91=> ?_)
     ·refine rn ?_;refine zef 6 [(b6,60,_)] rfl (List.perm_append_comm (l₁:= [_])) ?_
      refine rn ?_;refine dw 0 rfl rfl rfl rfl rfl (Nat.le_of_ble_eq_true rfl) ?_
      refine rn2 ?_;show zcp _ _ _ _ _ _ ⟨_,.box b6 60 [iv e.kind,iv e.t,iv 0,iv 0,iv 0,iv 0,iv 0,iv e.p,.v (.slice none 0 0)]:: .box b3 60 (evR e):: .box b2 28 (w7 h):: [],_⟩
      refine rn0 ?_;refine w8 ?_;refine w8 ?_;show aw _ _ _ _ _ ⟨_,.box b6 60 [iv e.kind,iv e.t,iv 0,iv 0,iv 0,iv 0,iv 0,iv e.p,zfg e.scan]:: .box b3 60 (evR e):: .box b2 28 (w7 h):: [],_⟩
      refine rn ?_;refine zaa (fun k:Nat=>k≤e.scan.length∧e.scan.all (zb1 h)=(e.scan.drop k).all (zb1 h)) (fun k=>⟨[(102,iv k),(101,iv (e.scan.map zam).length),(100,zfg e.scan),(2,pZ b2),(3,pZ b3),(6,pZ b6),(5,iv (h.ts.map zfe).length)],[.box b6 60 (evR ⟨e.kind,e.t,0,0,0,⟨0,0⟩,e.p,e.scan⟩),.box b3 60 (evR e),.box b2 28 (w7 h)],[]⟩) (fun k=>e.scan.length - k) 0 ⟨Nat.zero_le _,by simp⟩
       (v6 (.cons _ _ _ rfl (.cons _ _ _ rfl (.cons _ _ _ rfl (.cons _ _ _ rfl (.cons _ _ _ rfl (.cons _ _ _ rfl (.cons _ _ _ rfl (.nil))))))))) ?_
      rintro k ⟨hk,hz⟩
      refine rn ?_;refine z7 rfl (fun hc103=> ?_) (fun hc103=> ?_)
      ·have hk2:k < e.scan.length:=by simpa using hc103
       obtain ⟨s,hs⟩:∃s,s=e.scan[k]:=⟨_,rfl⟩
       have hrow:(e.scan.map zam)[k]? =some (zam s):=by rw [hs];simp [hk2]
       have hd:=List.drop_eq_getElem_cons hk2
       rw [←hs] at hd
       refine rn ?_;refine z8 rfl (y3 rfl fun b8=> ?_)
       refine rn ?_;refine qv rfl rfl (y1 rfl rfl (u5 (zij _ _) (Sbs.refl _))) ?_
       refine rn ?_;refine w6 (fun hg20_7=> ?_) (fun hg20_7=> ?_)
       ·refine rn ?_;refine zc0 rfl ?_;have hx:zb1 h s=false:=by clear hz hd hrow hs hc103 hk2 hk;simp_all [zb1]
        have hall:e.scan.all (zb1 h)=false:=by rw [hz,hd,List.all_cons,hx,Bool.false_and]
        clear hz hd hx hrow
        refine rn ?_;exact j9 rfl (.drop [_,_,_,_] _ _) ⟨rfl,bvz0_1930⟩
       ·refine rn ?_;refine qv rfl rfl (y1 rfl rfl (u5 (zgb s.v _) (Sbs.refl _))) ?_
        refine rn ?_;refine z7 rfl (fun hc119=> ?_) (fun hc119=> ?_)
        ·have hx:zb1 h s=false:=by clear hz hd hrow hs hc103 hk2 hk;simp_all [zb1]
         have hall:e.scan.all (zb1 h)=false:=by rw [hz,hd,List.all_cons,hx,Bool.false_and]
         clear hz hd hx hrow
         refine rn ?_;exact j9 rfl (.drop [_,_,_,_] _ _) ⟨rfl,bvz0_1930⟩
        ·have hx:zb1 h s=true:=by clear hz hd hrow hs hc103 hk2 hk;simp_all [zb1]
         refine rn ?_;exact ⟨k+1,⟨by omega,by rw [hz,hd,List.all_cons,hx,Bool.true_and]⟩,(v8 (zdr (h1:= [_])) (v6 (.cons _ _ _ rfl (.cons _ _ _ rfl (.cons _ _ _ rfl (.cons _ _ _ rfl (.cons _ _ _ rfl (.cons _ _ _ rfl (.cons _ _ _ rfl (.nil)))))))))),by omega⟩
      ·have hk3:k=e.scan.length:=by
        have:e.scan.length≤k:=by simpa using hc103
        omega
       rw [hk3,List.drop_length,List.all_nil] at hz
       refine rn ?_;refine qv rfl rfl (y1 rfl rfl (u5 (zfy ⟨e.kind,e.t,0,0,0,⟨0,0⟩,e.p,e.scan⟩ e (by simp [hl]) hl) (by exact ⟨(by exact Sb.aggs (by exact ⟨.refl _,.refl _,.refl _,.refl _,.refl _,.refl _,.refl _,.refl _,.refl _,trivial⟩)),.refl _,trivial⟩))) ?_
       refine rn ?_;refine w6 (fun hg23_3=> ?_) (fun hg23_3=> ?_)
       ·refine rn ?_;refine qv rfl rfl (y1 rfl rfl (u5 (zij _ _) (Sbs.refl _))) ?_
        refine rn ?_;refine w6 (fun hg23_11=> ?_) (fun hg23_11=> ?_)
        ·refine rn ?_;exact j9 rfl (.drop [_,_,_] _ _) ⟨rfl,bvz0_1930⟩
        ·refine rn ?_;exact j9 rfl (.drop [_,_,_] _ _) ⟨rfl,bvz0_1930⟩
       ·refine rn ?_;exact j9 rfl (.drop [_,_,_] _ _) ⟨rfl,bvz0_1930⟩
     ·refine rn ?_;refine qv rfl rfl (y1 rfl rfl (u5 (zfy ⟨e.kind,e.t,0,0,0,⟨0,0⟩,0,[]⟩ e (by simp [hl]) hl) (by exact ⟨(by exact Sb.aggs (by exact ⟨.refl _,.refl _,.refl _,.refl _,.refl _,.refl _,.refl _,.refl _,.nil _ _,trivial⟩)),.refl _,trivial⟩))) ?_
      refine rn ?_;refine w6 (fun hg24_3=> ?_) (fun hg24_3=> ?_)
      ·refine rn ?_;refine w6 (fun hg24_7=> ?_) (fun hg24_7=> ?_)
       ·refine rn ?_;exact j9 rfl (.drop [_,_,_] _ _) ⟨rfl,bvz0_1930⟩
       ·refine rn ?_;exact j9 rfl (.drop [_,_,_] _ _) ⟨rfl,bvz0_1930⟩
      ·refine rn ?_;exact j9 rfl (.drop [_,_,_] _ _) ⟨rfl,bvz0_1930⟩
end Go.Proofs
namespace Go.Ab
open Go
section
variable {P:Program} {dst:Option Tmp} {ty:TypeId} {pos:String} {after:Array Edge} {guard:Option (Nat×Bool)} {x:Operand} {h:List Res} {f:Operand→Option AV}
theorem zoo {S T:TypeId} {k:IntKind} {n:Int} (hx:f x=some (.v (.int k n))) [hs:Und P S (.int k)] [ht:Und P T .string]:
 QR P h f ⟨dst,.convert S T x,ty,pos,after,guard⟩ (.v (.string (Utf8.encode n))):=fun X ρ w he=>by
 refine ⟨_,run_v _ ?_,.v _⟩
 rw [(he.rel x _ hx).v_eq]
 simp only [convert,Sem.run_bind,Go.Ab.run_underlying (d:=TypeDesc.int k),Go.Ab.run_underlying (d:=TypeDesc.string),Result.andThen_ok]
 rfl
end
end Go.Ab
set_option maxRecDepth 10000
namespace Go.Proofs
open Go Go.Ab
attribute [local irreducible] QR QV OE zcp aw zdd zcj zbo za7 thn zft
open Go.H
theorem ybv (s:ByteArray):y8 Tryz.prog 256 [sv s] [] (fun r h'=>h'= []∧r= .tup [.v (.int .i32 (zcf s).1),iv (zcf s).2]):=by
 refine z6 Tryz.func256 rfl rfl rfl ?_
 refine rn ?_;refine z8 rfl (zlf rfl rfl fun b8=> ?_)
 refine rn ?_;refine zaa (fun x:Unit=>True) (fun x=>⟨[(8,pZ b8),(0,sv s),(2,.v (.int .i32 0)),(3,iv 0)],[.obj b8 (.stringIter s 0)],[]⟩) (fun x=>0) () trivial
  (v6 (.cons _ _ _ rfl (.cons _ _ _ rfl (.cons _ _ _ rfl (.cons _ _ _ rfl (.nil)))))) ?_
 rintro _ _
 refine w8 (y4 ?_)
 refine z8 rfl (znh rfl rfl (fun hp=> ?_) (fun hp=> ?_))
 ·refine rn ?_;refine z7 rfl (fun hc10=> ?_) (fun hc10=> ?_)
  ·first|cases hc10|exact absurd hc10 (by decide)|(exfalso;simp_all;done)
  ·refine rn ?_;exact zb2 rfl rfl (.drop1 _ _ _) ⟨rfl,by first|(rw [zcf,if_pos hp];rfl)|(rw [zcf,if_neg (by omega)];split <;> first|rfl|(exfalso;simp_all;done)|(exfalso;simp_all;omega))⟩
 ·refine rn ?_;refine z7 rfl (fun hc10=> ?_) (fun hc10=> ?_)
  ·refine rn ?_;refine z7 rfl (fun hc14=> ?_) (fun hc14=> ?_)
   ·exact absurd hc14 (by decide)
   ·refine za2 ?_;refine zai ?_;refine w8 (y4 ?_)
    refine q1 ?_;refine qq rfl rfl (zoo rfl) ?_
    refine rn ?_;refine w6 (fun hg6_2=> ?_) (fun hg6_2=> ?_)
    ·refine rn ?_;refine w6 (fun hg6_6=> ?_) (fun hg6_6=> ?_)
     ·refine rn ?_;refine z7 rfl (fun hc29=> ?_) (fun hc29=> ?_)
      ·refine rn ?_;exact zb2 rfl rfl (.drop1 _ _ _) ⟨rfl,by first|(rw [zcf,if_pos hp];rfl)|(rw [zcf,if_neg (by omega)];split <;> first|rfl|(exfalso;simp_all;done)|(exfalso;simp_all;omega))⟩
      ·first|cases hc29|exact absurd hc29 (by decide)|(exfalso;simp_all;done)
     ·refine q1 ?_;refine qq rfl rfl (zgc (k:=3) rfl rfl (by have:=hg6_6;simp at this;omega)) ?_
      refine rn ?_;refine z7 rfl (fun hc29=> ?_) (fun hc29=> ?_)
      ·refine rn ?_;exact zb2 rfl rfl (.drop1 _ _ _) ⟨rfl,by first|(rw [zcf,if_pos hp];rfl)|(rw [zcf,if_neg (by omega)];split <;> first|rfl|(exfalso;simp_all;done)|(exfalso;simp_all;omega))⟩
      ·refine rn ?_;exact zb2 rfl rfl (.drop1 _ _ _) ⟨rfl,by first|(rw [zcf,if_pos hp];rfl)|(rw [zcf,if_neg (by omega)];split <;> first|rfl|(exfalso;simp_all;done)|(exfalso;simp_all;omega))⟩
    ·refine rn ?_;refine z7 rfl (fun hc29=> ?_) (fun hc29=> ?_)
     ·first|cases hc29|exact absurd hc29 (by decide)|(exfalso;simp_all;done)
     ·refine rn ?_;exact zb2 rfl rfl (.drop1 _ _ _) ⟨rfl,by first|(rw [zcf,if_pos hp];rfl)|(rw [zcf,if_neg (by omega)];split <;> first|rfl|(exfalso;simp_all;done)|(exfalso;simp_all;omega))⟩
  ·first|cases hc10|exact absurd hc10 (by decide)|(exfalso;simp_all;done)
theorem zy6 (s:ByteArray) (c n:Int) (h:zcf s=(c,n)):y8 Tryz.prog 256 [sv s] [] (fun r h'=>h'= []∧r= .tup [.v (.int .i32 c),iv n]):=
 (ybv s).mono fun _ _ q=>⟨q.1,by rw [q.2,h]⟩
theorem ygr (s:ByteArray):y8 Tryz.prog 214 [sv s] [] (fun r h'=>h'= []∧r=bv (zg9 s)):=by
 refine z6 Tryz.func214 rfl rfl rfl ?_
 refine rn ?_;refine w6 (fun hg1_2=> ?_) (fun hg1_2=> ?_)
 ·refine rn ?_;refine zc0 rfl ?_;refine rn ?_;refine rq 0 ?_
  exact ⟨rfl,congrArg bv (by first|(rw [zgm,←ydx,hg1_2];rfl)|(rw [zgm,decide_eq_false (show ¬(s.size:Int)≤24 by simp at hc12;omega),Bool.and_false];rfl))⟩
 ·refine rn ?_;refine z7 rfl (fun hc12=> ?_) (fun hc12=> ?_)
  ·refine rn ?_;refine rq 0 ?_
   exact ⟨rfl,congrArg bv (by first|(rw [zgm,←ydx,hg1_2];rfl)|(rw [zgm,decide_eq_false (show ¬(s.size:Int)≤24 by simp at hc12;omega),Bool.and_false];rfl))⟩
  ·have hlen:s.size≤24:=by simp at hc12;omega
   refine rn ?_;refine zif (fun i:Nat=>zih s 0=zih s i∧i≤48) (fun i=>⟨[(3,iv i),(0,sv s)],[],[]⟩) (fun i=>s.size - i) 0 ⟨rfl,by omega⟩ es ?_
   rintro i ⟨hz,hi⟩
   refine rn ?_;refine z7 rfl (fun hc16=> ?_) (fun hc16=> ?_)
   ·have h1:i < s.size:=by simpa using hc16
    refine za2 ?_;refine zai ?_;refine zcz ?_;refine w8 (y4 ?_)
    refine q1 ?_;refine q1 ?_;refine qq rfl rfl (zen (k:=i) rfl rfl (by omega)) ?_
    obtain ⟨c,n,hw,hn1,hn4⟩:=yio h1
    refine qv rfl rfl (y1 rfl rfl (u5 (zy6 _ c n hw) (Sbs.refl _))) ?_
    refine rn ?_;refine qv rfl rfl (y1 rfl rfl (u5 (zy5 _) (Sbs.refl _))) ?_
    refine rn ?_;refine w6 (fun hg6_3=> ?_) (fun hg6_3=> ?_)
    ·refine rn ?_;refine w6 (fun hg6_6=> ?_) (fun hg6_6=> ?_)
     ·refine rn ?_;refine zc0 rfl ?_;refine rn ?_;refine rq 0 ?_
      exact ⟨rfl,congrArg bv (by rw [zgm,hz,zou h1 hw (by simpa using hg6_3) (by first|exact .inl (by simpa using hg6_6)|exact .inr (by simpa using hc35)),Bool.and_false])⟩
     ·refine rn ?_;refine qv rfl rfl (y1 rfl rfl (u5 (zsh _) (Sbs.refl _))) ?_
      refine rn ?_;refine z7 rfl (fun hc35=> ?_) (fun hc35=> ?_)
      ·refine rn ?_;refine rq 0 ?_
       exact ⟨rfl,congrArg bv (by rw [zgm,hz,zou h1 hw (by simpa using hg6_3) (by first|exact .inl (by simpa using hg6_6)|exact .inr (by simpa using hc35)),Bool.and_false])⟩
      ·refine rn ?_;exact ⟨i+n,⟨hz.trans (zwd h1 hw hn1 (.inr ⟨by simpa using hg6_6,by simpa using hc35⟩)),by omega⟩,eA,by omega⟩
    ·refine rn ?_;first|(refine qv rfl rfl (y1 rfl rfl (u5 (zsh _) (Sbs.refl _))) ?_)|refine qs rfl rfl ?_|skip
     refine rn ?_;refine zfu rfl ?_;refine rn ?_;exact ⟨i+n,⟨hz.trans (zwd h1 hw hn1 (.inl (by simpa using hg6_3))),by omega⟩,eA,by omega⟩
   ·have h1:¬i < s.size:=by simpa using hc16
    refine rn ?_;refine rq 0 ?_
    exact ⟨rfl,congrArg bv (by rw [zgm,←ydx,hg1_2,hz,yah h1,decide_eq_true (show (s.size:Int)≤24 by omega)];rfl)⟩
theorem ze8 (l:List ByteArray) (most:Nat) (hl:l.length≤4611686018427387904):y8 Tryz.prog 163 [zdg l,iv most] [] (fun r h'=>h'= []∧r=bv (zcx most l)):=by
 refine z6 Tryz.func163 rfl rfl rfl ?_
 refine rn ?_;refine zcy (l.length) (fun k:Nat=>zbn [] l=zbn (l.take k) (l.drop k)) (fun k=> [(11,iv k)]) [(0,_),(1,_),(9,_),(10,_)] rfl ?_
 intro k lk zk
 refine rn ?_;refine z7 rfl (fun hc12=> ?_) (fun hc12=> ?_)
 ·have hk:=za3 hc12
  have rk:=zal (f:=zfe) hk
  refine rn ?_;refine qv rfl rfl (y1 rfl rfl (u5 (ygr _) (Sbs.refl _))) ?_
  refine rn ?_;refine z7 rfl (fun hc18=> ?_) (fun hc18=> ?_)
  ·refine rn ?_;refine rq 0 ?_
   exact ⟨rfl,congrArg bv (by rw [zcx,yoi hk zk (by simpa using hc18),Bool.and_false])⟩
  ·refine za2 ?_;refine zai ?_;refine w8 (y4 ?_)
   refine q1 ?_;refine q1 ?_;refine qq rfl rfl (zcd (k:=k) rfl rfl (by simp;omega)) ?_
   rw [←List.map_take]
   refine rn ?_;refine zcy ((l.take k).length) (fun j:Nat=>(l.take k).all (fun t=> !(l[k].toList==t.toList))=((l.take k).drop j).all (fun t=> !(l[k].toList==t.toList))) (fun j=> [(23,iv j)]) [(0,_),(1,_),(6,_),(9,_),(10,_),(11,_),(21,_),(22,_)] rfl ?_
   intro j lj zj
   refine rn ?_;refine z7 rfl (fun hc24=> ?_) (fun hc24=> ?_)
   ·have hj:=za3 hc24
    have rj:=zal (f:=zfe) hj
    have bj:(l.take k).length≤4611686018427387904:=by simp;omega
    refine rn ?_;refine z7 rfl (fun hc29=> ?_) (fun hc29=> ?_)
    ·refine rn ?_;refine rq 0 ?_
     exact ⟨rfl,congrArg bv (by rw [zcx,yoj hk zk (zt8 hj (by simpa using hc29)),Bool.and_false])⟩
    ·refine rn ?_;exact ⟨hj,zwa hj zj (by simpa using hc29),eA⟩
   ·have qj:=za4 hc24 lj
    have aj:=yad qj zj
    refine rn ?_;exact ⟨hk,zzv hk zk (by simpa using hc18) aj,eA⟩
 ·have qk:=za4 hc12 lk
  refine rn ?_;refine rq 0 ?_
  exact ⟨rfl,congrArg bv (by rw [zcx,yok qk zk];simp)⟩
theorem zuu (h:Hist) (e:Ev) (hl:e.scan.length≤4611686018427387904):y8 Tryz.prog 164 [.agg (w7 h),.agg (evR e)] [] (fun r h'=>h'= []∧r=bv (zb3 h e)):=
 (zyy h e hl).mono fun _ _ q=>⟨q.1,by rw [q.2,zyv]⟩
theorem bvz1_5440 {a b:Bool} (h:a=b:=by rw [yax (by simp_all) (by simp_all) (by simp_all) (by simp_all) ai aj ak am];first|(simp_all;done)|(simp_all;intros;omega)):bv a=bv b:=congrArg bv h
theorem ybn (h:Hist) (la:Lim 4611686018427387904 h):y8 Tryz.prog 122 [.agg (w7 h)] [] (fun r h'=>h'= []∧r=bv (zad h)):=by
 refine z6 Tryz.func122 rfl rfl rfl ?_
 refine rn ?_;refine z8 rfl (w9 rfl rfl rfl fun b1=> ?_)
 refine rn ?_;refine qv rfl rfl (y1 rfl rfl (u5 (ze8 h.ts 300 la.ts) (Sbs.refl _))) ?_
 refine rn ?_;refine w6 (fun hg1_4=> ?_) (fun hg1_4=> ?_)
 ·refine rn ?_;refine zc0 rfl ?_;refine rn ?_;refine rq 1 ?_
  exact ⟨rfl,congrArg bv (by rw [zjj (by simp_all)])⟩
 ·refine rn ?_;refine qv rfl rfl (y1 rfl rfl (u5 (ze8 h.ss 60 la.ss) (Sbs.refl _))) ?_
  refine rn ?_;refine w6 (fun hg1_10=> ?_) (fun hg1_10=> ?_)
  ·refine rn ?_;refine zc0 rfl ?_;refine rn ?_;refine rq 1 ?_
   exact ⟨rfl,congrArg bv (by rw [zjj (by simp_all)])⟩
  ·refine rn ?_;refine qv rfl rfl (y1 rfl rfl (u5 (ze8 h.os 300 la.os) (Sbs.refl _))) ?_
   refine rn ?_;refine w6 (fun hg1_16=> ?_) (fun hg1_16=> ?_)
   ·refine rn ?_;refine zc0 rfl ?_;refine rn ?_;refine rq 1 ?_
    exact ⟨rfl,congrArg bv (by rw [zjj (by simp_all)])⟩
   ·refine rn ?_;refine qv rfl rfl (y1 rfl rfl (u5 (ze8 h.ps 60 la.ps) (Sbs.refl _))) ?_
    refine rn ?_;refine z7 rfl (fun hc32=> ?_) (fun hc32=> ?_)
    ·refine rn ?_;refine rq 1 ?_
     exact ⟨rfl,congrArg bv (by rw [zjj (by simp_all)])⟩
    ·refine rn ?_;refine zcy (h.evs.length) (fun i:Nat=>h.evs.all (zb3 h)=(h.evs.drop i).all (zb3 h)) (fun i=> [(36,iv i)]) [(1,_),(34,_),(35,_)] rfl ?_
     intro i li zi
     refine rn ?_;refine z7 rfl (fun hc37=> ?_) (fun hc37=> ?_)
     ·have hi:=za3 hc37
      have ri:=zal (f:=evR) hi
      have bi:=la.evs
      have si:=la.scans h.evs[i] (List.getElem_mem hi)
      refine rn ?_;refine z8 rfl (y3 rfl fun b4=> ?_)
      refine rn ?_;refine qv rfl rfl (y1 rfl rfl (u5 (zuu h h.evs[i] si) (Sbs.refl _))) ?_
      refine rn ?_;refine z7 rfl (fun hc43=> ?_) (fun hc43=> ?_)
      ·refine rn ?_;refine rq 2 ?_
       exact ⟨rfl,congrArg bv (by rw [yay (zt8 hi (by simpa using hc43))])⟩
      ·refine rn ?_;exact ⟨hi,zwa hi zi (by simpa using hc43),eA⟩
     ·have qi:=za4 hc37 li
      have ai:=yad qi zi
      refine rn ?_;refine zcy (h.ords.length) (fun j:Nat=>h.ords.all (zrk h)=(h.ords.drop j).all (zrk h)) (fun j=> [(48,iv j)]) [(1,_),(46,_),(47,_)] rfl ?_
      intro j lj zj
      refine rn ?_;refine z7 rfl (fun hc49=> ?_) (fun hc49=> ?_)
      ·have hj:=za3 hc49
       have rj:=zal (f:=zeg) hj
       have bj:=la.ords
       have sj:=la.ordts h.ords[j] (List.getElem_mem hj)
       refine rn ?_;refine z8 rfl (y3 rfl fun b6=> ?_)
       refine rn ?_;refine qv rfl rfl (y1 rfl rfl (u5 (zij _ _) (Sbs.refl _))) ?_
       refine rn ?_;refine w6 (fun hg12_7=> ?_) (fun hg12_7=> ?_)
       ·refine rn ?_;refine zc0 rfl ?_;refine rn ?_;refine rq 2 ?_
        exact ⟨rfl,congrArg bv (by rw [zr2 (zt8 hj (by rw [zu5];simp_all))])⟩
       ·refine rn ?_;refine qv rfl rfl (y1 rfl rfl (u5 (yql h h.ords[j].ts sj) (Sbs.refl _))) ?_
        refine rn ?_;refine z7 rfl (fun hc65=> ?_) (fun hc65=> ?_)
        ·refine rn ?_;refine rq 2 ?_
         exact ⟨rfl,congrArg bv (by rw [zr2 (zt8 hj (by rw [zu5];simp_all))])⟩
        ·refine rn ?_;exact ⟨hj,zwa hj zj (by rw [zu5];simp_all),eA⟩
      ·have qj:=za4 hc49 lj
       have aj:=yad qj zj
       refine rn ?_;refine zcy (h.mats.length) (fun k:Nat=>h.mats.all (zvf h)=(h.mats.drop k).all (zvf h)) (fun k=> [(70,iv k)]) [(1,_),(68,_),(69,_)] rfl ?_
       intro k lk zk
       refine rn ?_;refine z7 rfl (fun hc71=> ?_) (fun hc71=> ?_)
       ·have hk:=za3 hc71
        have rk:=zal (f:=zd3) hk
        have bk:=la.mats
        have sk:=la.matts h.mats[k] (List.getElem_mem hk)
        refine rn ?_;refine z8 rfl (y3 rfl fun b8=> ?_)
        refine rn ?_;refine qv rfl rfl (y1 rfl rfl (u5 (zij _ _) (Sbs.refl _))) ?_
        refine rn ?_;refine w6 (fun hg18_7=> ?_) (fun hg18_7=> ?_)
        ·refine rn ?_;refine zc0 rfl ?_;refine rn ?_;refine rq 2 ?_
         exact ⟨rfl,congrArg bv (by rw [zmu (zt8 hk (by rw [zqq];simp_all))])⟩
        ·refine rn ?_;refine qv rfl rfl (y1 rfl rfl (u5 (zij _ _) (Sbs.refl _))) ?_
         refine rn ?_;refine w6 (fun hg18_16=> ?_) (fun hg18_16=> ?_)
         ·refine rn ?_;refine zc0 rfl ?_;refine rn ?_;refine rq 2 ?_
          exact ⟨rfl,congrArg bv (by rw [zmu (zt8 hk (by rw [zqq];simp_all))])⟩
         ·refine rn ?_;refine qv rfl rfl (y1 rfl rfl (u5 (yql h h.mats[k].ts sk) (Sbs.refl _))) ?_
          refine rn ?_;refine z7 rfl (fun hc96=> ?_) (fun hc96=> ?_)
          ·refine rn ?_;refine rq 2 ?_
           exact ⟨rfl,congrArg bv (by rw [zmu (zt8 hk (by rw [zqq];simp_all))])⟩
          ·refine rn ?_;exact ⟨hk,zwa hk zk (by rw [zqq];simp_all),eA⟩
       ·have qk:=za4 hc71 lk
        have ak:=yad qk zk
        refine rn ?_;refine zcy (h.wants.length) (fun m:Nat=>h.wants.all (zwg h)=(h.wants.drop m).all (zwg h)) (fun m=> [(101,iv m)]) [(1,_),(99,_),(100,_)] rfl ?_
        intro m lm zm
        refine rn ?_;refine z7 rfl (fun hc102=> ?_) (fun hc102=> ?_)
        ·have hm:=za3 hc102
         have rm:=zal (f:=zfq) hm
         have bm:=la.wants
         refine rn ?_;refine z8 rfl (y3 rfl fun b10=> ?_)
         refine rn ?_;refine qv rfl rfl (y1 rfl rfl (u5 (zij _ _) (Sbs.refl _))) ?_
         refine rn ?_;refine w6 (fun hg24_7=> ?_) (fun hg24_7=> ?_)
         ·refine rn ?_;refine zc0 rfl ?_;refine rn ?_;refine rq 2 ?_
          exact ⟨rfl,congrArg bv (by rw [zr1 (zt8 hm (by rw [zud];simp_all))])⟩
         ·refine rn ?_;refine qv rfl rfl (y1 rfl rfl (u5 (zij _ _) (Sbs.refl _))) ?_
          refine rn ?_;refine z7 rfl (fun hc117=> ?_) (fun hc117=> ?_)
          ·refine rn ?_;refine rq 2 ?_
           exact ⟨rfl,congrArg bv (by rw [zr1 (zt8 hm (by rw [zud];simp_all))])⟩
          ·refine rn ?_;exact ⟨hm,zwa hm zm (by rw [zud];simp_all),eA⟩
        ·have qm:=za4 hc102 lm
         have am:=yad qm zm
         refine rn ?_;refine w6 (fun hg27_4=> ?_) (fun hg27_4=> ?_)
         ·refine rn ?_;refine w6 (fun hg27_10=> ?_) (fun hg27_10=> ?_)
          ·refine rn ?_;refine w6 (fun hg27_16=> ?_) (fun hg27_16=> ?_)
           ·refine rn ?_;refine rq 1 ?_
            exact ⟨rfl,bvz1_5440⟩
           ·refine rn ?_;refine rq 1 ?_
            exact ⟨rfl,bvz1_5440⟩
          ·refine rn ?_;refine rq 1 ?_
           exact ⟨rfl,bvz1_5440⟩
         ·refine rn ?_;refine rq 1 ?_
          exact ⟨rfl,bvz1_5440⟩
theorem zbp (s:SV) (l:List Int) (n:Int) (hl:l.length≤1000000000):y8 Tryz.prog 166 [.v s.v,iv n] [.row s.v 1 3 (l.map zac)] (fun r h'=>∃s':SV,h'= [.row s'.v 1 3 ((yff l n).map zac)]∧r= .v s'.v):=by
 refine z6 Tryz.func166 rfl rfl rfl ?_
 refine rn ?_;refine qv rfl rfl (y1 rfl rfl (y0.lend (R:=fun x=>x=iv (atI n 0 l)) (y0.of_fun (ygq (f:=false) l n (by omega))) (fun r hr=>by rw [hr];rfl) (.refl _ _) ⟨zk8,.refl _ _,trivial⟩)) ?_
 refine rn ?_;refine z7 rfl (fun hc8=> ?_) (fun hc8=> ?_)
 ·refine rn ?_;refine rq 0 ?_
  exact ⟨s,by rw [yff,if_pos (by simpa using hc8)];rfl,rfl⟩
 ·refine rn ?_;refine qv rfl rfl (q6 rfl rfl) ?_
  refine z8 rfl (u4 rfl rfl (by simp;omega) rfl (fun s13=> ?_) (fun r hr=>by simp at hr;subst hr;rfl))
  refine j8 s13 fun sv hsv=> ?_
  subst hsv
  refine rn ?_;refine rq 0 ?_
  exact ⟨sv,by rw [yff,if_neg (by simpa using hc8),List.map_append];rfl,rfl⟩
theorem zm5 (s:SV) (l:List Int) (v:Ver) (hl:l.length≤1000000000):y8 Tryz.prog 167 [.v s.v,.agg (yfm v)] [.row s.v 1 3 (l.map zac)] (fun r h'=>∃s':SV,h'= [.row s'.v 1 3 ((yo5 l v).map zac)]∧r= .v s'.v):=by
 refine z6 Tryz.func167 rfl rfl rfl ?_
 refine rn ?_;refine z8 rfl (w9 rfl rfl rfl fun b3=> ?_)
 refine rn ?_;refine z7 rfl (fun hc7=> ?_) (fun hc7=> ?_)
 ·refine rn ?_;refine rq 1 ?_
  exact ⟨s,by rw [yo5,if_pos (by simpa using hc7)];rfl,rfl⟩
 ·refine rn ?_;refine z8 rfl (v7 rfl rfl (zax (y0.of_fun (zbp s l v.t hl))) rfl ?_)
  rintro _ _ ⟨s',rfl,rfl⟩
  refine rn ?_;refine rq 1 ?_
  exact ⟨s',by rw [yo5,if_neg (by simpa using hc7)];rfl,rfl⟩
theorem ybm (h:Hist) (la:Lim 3000 h):y8 Tryz.prog 123 [.agg (w7 h)] [] (fun r h'=>h'= []∧r= .agg [za1 (zcm h 0),za1 (zcm h 1),za1 (zcm h 2),za1 (zcm h 3)]):=by
 refine z6 Tryz.func123 rfl rfl rfl ?_
 refine rn ?_;refine z8 rfl (w9 rfl rfl rfl fun b1=> ?_)
 refine z8 rfl (y3 rfl fun b2=> ?_)
 refine rn ?_;refine z8 rfl (y3 rfl fun b3=> ?_)
 refine rn ?_;refine zjb h.evs.length (fun k s0 s1 s2 s3=>⟨[(21,iv k),(1,pZ b1),(2,pZ b2),(3,pZ b3),(19,zq5 h.evs),(20,iv (h.evs.map evR).length)],[.row s0.v 1 3 (((spE h k) 0).map zac),.row s1.v 1 3 (((spE h k) 1).map zac),.row s2.v 1 3 (((spE h k) 2).map zac),.row s3.v 1 3 (((spE h k) 3).map zac),.box b3 154 [.v s0.v,.v s1.v,.v s2.v,.v s3.v],.box b2 154 [.v (.slice none 0 0),.v (.slice none 0 0),.v (.slice none 0 0),.v (.slice none 0 0)],.box b1 28 (w7 h)],[]⟩) (⟨none,0,0⟩) (⟨none,0,0⟩) (⟨none,0,0⟩) (⟨none,0,0⟩) (v8 (zao 1 3) (v8 (zao 1 3) (v8 (zao 1 3) (v8 (zao 1 3) es)))) ?_
 intro k s0 s1 s2 s3 lk
 refine rn ?_;refine z7 rfl (fun hc22=> ?_) (fun hc22=> ?_)
 ·have hk:=za3 hc22
  have rk:=zal (f:=evR) hk
  have bd:=bdE la k lk
  have ls:=la.scans h.evs[k] (List.getElem_mem hk)
  have le:=la.evs
  refine rn ?_;refine z8 rfl (y3 rfl fun b5=> ?_)
  refine rn ?_;refine qq rfl rfl (y6 rfl rfl (by decide) (by decide)) ?_
  refine rn ?_;refine z8 rfl (v7 rfl rfl (zax (y0.of_fun (zbp _ _ _ (by have:=bd 0;omega)))) rfl ?_)
  rintro _ _ ⟨s',rfl,rfl⟩
  refine qq rfl rfl (y6 rfl rfl (by decide) (by decide)) ?_
  refine rn0 ?_;refine yoy (fun s0 s1 s2 s3=>⟨[(5,pZ b5),(21,iv k),(20,iv (h.evs.map evR).length),(19,zq5 h.evs),(1,pZ b1),(2,pZ b2),(3,pZ b3)],[.box b5 60 (evR h.evs[k]),.row s0.v 1 3 (((zf3 (zaw (spE h k) (0,h.evs[k].t)) h.evs[k]) 0).map zac),.row s1.v 1 3 (((zf3 (zaw (spE h k) (0,h.evs[k].t)) h.evs[k]) 1).map zac),.row s2.v 1 3 (((zf3 (zaw (spE h k) (0,h.evs[k].t)) h.evs[k]) 2).map zac),.row s3.v 1 3 (((zf3 (zaw (spE h k) (0,h.evs[k].t)) h.evs[k]) 3).map zac),.box b3 154 [.v s0.v,.v s1.v,.v s2.v,.v s3.v],.box b2 154 [.v (.slice none 0 0),.v (.slice none 0 0),.v (.slice none 0 0),.v (.slice none 0 0)],.box b1 28 (w7 h)],[]⟩) ?_ ?_
  ·refine rn ?_;refine z7 rfl (fun hc33=> ?_) (fun hc33=> ?_)
   ·refine rn ?_;refine qq rfl rfl (y6 rfl rfl (by decide) (by decide)) ?_
    refine rn ?_;refine z8 rfl (v7 rfl rfl (zax (y0.of_fun (zbp _ _ _ (by have:=bd 1;omega)))) rfl ?_)
    rintro _ _ ⟨s',rfl,rfl⟩
    refine qq rfl rfl (y6 rfl rfl (by decide) (by decide)) ?_
    refine rn ?_;exact ⟨_,_,_,_,by unfold zf3;first|(rw [if_pos (by simpa using hc33)];exact eA)|(rw [if_neg (by simpa using hc33),if_pos (by simp at hc33;simp_all)];exact eA)|(rw [if_neg (by simpa using hc33),if_neg (by simp at hc33;simp_all),if_pos (by simpa using hc56)];exact eA)|(rw [if_neg (by simpa using hc33),if_neg (by simp at hc33;simp_all),if_neg (by simpa using hc56)];exact eA)⟩
   ·refine rn ?_;refine z7 rfl (fun hc41=> ?_) (fun hc41=> ?_)
    ·refine rn ?_;refine z7 rfl (fun hc41=> ?_) (fun hc41=> ?_)
     ·refine rn ?_;refine qq rfl rfl (y6 rfl rfl (by decide) (by decide)) ?_
      refine rn ?_;refine z8 rfl (v7 rfl rfl (zax (y0.of_fun (zbp _ _ _ (by have:=bd 2;omega)))) rfl ?_)
      rintro _ _ ⟨s',rfl,rfl⟩
      refine qq rfl rfl (y6 rfl rfl (by decide) (by decide)) ?_
      refine rn ?_;refine qq rfl rfl (y6 rfl rfl (by decide) (by decide)) ?_
      refine rn ?_;refine z8 rfl (v7 rfl rfl (zax (y0.of_fun (zm5 _ _ _ (by have:=(bd.f (0,h.evs[k].t)) 0;exact Nat.le_trans this (by omega))))) rfl ?_)
      rintro _ _ ⟨s',rfl,rfl⟩
      refine qq rfl rfl (y6 rfl rfl (by decide) (by decide)) ?_
      refine rn ?_;exact ⟨_,_,_,_,by unfold zf3;first|(rw [if_pos (by simpa using hc33)];exact eA)|(rw [if_neg (by simpa using hc33),if_pos (by simp at hc33;simp_all)];exact eA)|(rw [if_neg (by simpa using hc33),if_neg (by simp at hc33;simp_all),if_pos (by simpa using hc56)];exact eA)|(rw [if_neg (by simpa using hc33),if_neg (by simp at hc33;simp_all),if_neg (by simpa using hc56)];exact eA)⟩
     ·first|cases hc41|exact absurd hc41 (by decide)|(exfalso;simp_all;done)
    ·refine rn ?_;refine z7 rfl (fun hc41=> ?_) (fun hc41=> ?_)
     ·refine rn ?_;refine qq rfl rfl (y6 rfl rfl (by decide) (by decide)) ?_
      refine rn ?_;refine z8 rfl (v7 rfl rfl (zax (y0.of_fun (zbp _ _ _ (by have:=bd 2;omega)))) rfl ?_)
      rintro _ _ ⟨s',rfl,rfl⟩
      refine qq rfl rfl (y6 rfl rfl (by decide) (by decide)) ?_
      refine rn ?_;refine qq rfl rfl (y6 rfl rfl (by decide) (by decide)) ?_
      refine rn ?_;refine z8 rfl (v7 rfl rfl (zax (y0.of_fun (zm5 _ _ _ (by have:=(bd.f (0,h.evs[k].t)) 0;exact Nat.le_trans this (by omega))))) rfl ?_)
      rintro _ _ ⟨s',rfl,rfl⟩
      refine qq rfl rfl (y6 rfl rfl (by decide) (by decide)) ?_
      refine rn ?_;exact ⟨_,_,_,_,by unfold zf3;first|(rw [if_pos (by simpa using hc33)];exact eA)|(rw [if_neg (by simpa using hc33),if_pos (by simp at hc33;simp_all)];exact eA)|(rw [if_neg (by simpa using hc33),if_neg (by simp at hc33;simp_all),if_pos (by simpa using hc56)];exact eA)|(rw [if_neg (by simpa using hc33),if_neg (by simp at hc33;simp_all),if_neg (by simpa using hc56)];exact eA)⟩
     ·refine rn ?_;refine z7 rfl (fun hc56=> ?_) (fun hc56=> ?_)
      ·refine rn ?_;refine qq rfl rfl (y6 rfl rfl (by decide) (by decide)) ?_
       refine rn ?_;refine z8 rfl (v7 rfl rfl (zax (y0.of_fun (zbp _ _ _ (by have:=bd 3;omega)))) rfl ?_)
       rintro _ _ ⟨s',rfl,rfl⟩
       refine qq rfl rfl (y6 rfl rfl (by decide) (by decide)) ?_
       refine rn ?_;exact ⟨_,_,_,_,by unfold zf3;first|(rw [if_pos (by simpa using hc33)];exact eA)|(rw [if_neg (by simpa using hc33),if_pos (by simp at hc33;simp_all)];exact eA)|(rw [if_neg (by simpa using hc33),if_neg (by simp at hc33;simp_all),if_pos (by simpa using hc56)];exact eA)|(rw [if_neg (by simpa using hc33),if_neg (by simp at hc33;simp_all),if_neg (by simpa using hc56)];exact eA)⟩
      ·refine rn ?_;exact ⟨_,_,_,_,by unfold zf3;first|(rw [if_pos (by simpa using hc33)];exact eA)|(rw [if_neg (by simpa using hc33),if_pos (by simp at hc33;simp_all)];exact eA)|(rw [if_neg (by simpa using hc33),if_neg (by simp at hc33;simp_all),if_pos (by simpa using hc56)];exact eA)|(rw [if_neg (by simpa using hc33),if_neg (by simp at hc33;simp_all),if_neg (by simpa using hc56)];exact eA)⟩
  ·intro s0 s1 s2 s3
   refine rn ?_;refine zjb h.evs[k].scan.length (fun j s0 s1 s2 s3=>⟨[(67,iv j),(1,pZ b1),(2,pZ b2),(3,pZ b3),(19,zq5 h.evs),(20,iv (h.evs.map evR).length),(21,iv k),(65,zfg h.evs[k].scan),(66,iv (h.evs[k].scan.map zam).length)],[.box b5 60 (evR h.evs[k]),.row s0.v 1 3 ((((h.evs[k].scan.take j).foldl stepS (zf3 (zaw (spE h k) (0,h.evs[k].t)) h.evs[k])) 0).map zac),.row s1.v 1 3 ((((h.evs[k].scan.take j).foldl stepS (zf3 (zaw (spE h k) (0,h.evs[k].t)) h.evs[k])) 1).map zac),.row s2.v 1 3 ((((h.evs[k].scan.take j).foldl stepS (zf3 (zaw (spE h k) (0,h.evs[k].t)) h.evs[k])) 2).map zac),.row s3.v 1 3 ((((h.evs[k].scan.take j).foldl stepS (zf3 (zaw (spE h k) (0,h.evs[k].t)) h.evs[k])) 3).map zac),.box b3 154 [.v s0.v,.v s1.v,.v s2.v,.v s3.v],.box b2 154 [.v (.slice none 0 0),.v (.slice none 0 0),.v (.slice none 0 0),.v (.slice none 0 0)],.box b1 28 (w7 h)],[]⟩) _ _ _ _ (es) ?_
   intro j s0 s1 s2 s3 lj
   refine rn ?_;refine z7 rfl (fun hc68=> ?_) (fun hc68=> ?_)
   ·have hj:=za3 hc68
    have rj:=zal (f:=zam) hj
    have bj:=Bd.fold (c:=2) (l:=h.evs[k].scan.take j) (fun s _ L n h=>h.s s) ((bd.f (0,h.evs[k].t)).k h.evs[k])
    have bl:(h.evs[k].scan.take j).length≤3000:=by rw [List.length_take];omega
    refine rn ?_;refine z8 rfl (y3 rfl fun b7=> ?_)
    refine rn ?_;refine qq rfl rfl (y6 rfl rfl (by decide) (by decide)) ?_
    refine rn ?_;refine z8 rfl (v7 rfl rfl (zax (y0.of_fun (zbp _ _ _ (by have:=bj 2;omega)))) rfl ?_)
    rintro _ _ ⟨s',rfl,rfl⟩
    refine qq rfl rfl (y6 rfl rfl (by decide) (by decide)) ?_
    refine rn ?_;refine qq rfl rfl (y6 rfl rfl (by decide) (by decide)) ?_
    refine rn ?_;refine z8 rfl (v7 rfl rfl (zax (y0.of_fun (zm5 _ _ _ (by have:=bj 0;omega)))) rfl ?_)
    rintro _ _ ⟨s',rfl,rfl⟩
    refine qq rfl rfl (y6 rfl rfl (by decide) (by decide)) ?_
    refine rn ?_;have e:(h.evs[k].scan.take (j+1)).foldl stepS (zf3 (zaw (spE h k) (0,h.evs[k].t)) h.evs[k])=stepS ((h.evs[k].scan.take j).foldl stepS (zf3 (zaw (spE h k) (0,h.evs[k].t)) h.evs[k])) h.evs[k].scan[j]:=zg0 _ _ hj
    exact ⟨hj,_,_,_,_,by simp only [e];exact eA⟩
   ·have qj:=za4 hc68 lj
    refine rn ?_;have e:spE h (k+1)=(h.evs[k].scan.take j).foldl stepS (zf3 (zaw (spE h k) (0,h.evs[k].t)) h.evs[k]):=by rw [spE,zg0 _ _ hk,H.stepE,zi8 _ _ qj];rfl
    exact ⟨hk,_,_,_,_,by simp only [e];exact eA⟩
 ·have qk:=za4 hc22 lk
  refine rn ?_;refine zjb h.ords.length (fun k s0 s1 s2 s3=>⟨[(88,iv k),(1,pZ b1),(2,pZ b2),(3,pZ b3),(86,zzl h.ords),(87,iv (h.ords.map zeg).length)],[.row s0.v 1 3 (((spO h k) 0).map zac),.row s1.v 1 3 (((spO h k) 1).map zac),.row s2.v 1 3 (((spO h k) 2).map zac),.row s3.v 1 3 (((spO h k) 3).map zac),.box b3 154 [.v s0.v,.v s1.v,.v s2.v,.v s3.v],.box b2 154 [.v (.slice none 0 0),.v (.slice none 0 0),.v (.slice none 0 0),.v (.slice none 0 0)],.box b1 28 (w7 h)],[]⟩) _ _ _ _ (by rw [show spO h 0=spE h k from (zi8 stepE noR qk).symm];exact es) ?_
  intro k s0 s1 s2 s3 lk
  refine rn ?_;refine z7 rfl (fun hc89=> ?_) (fun hc89=> ?_)
  ·have hk:=za3 hc89
   have rk:=zal (f:=zeg) hk
   have bd:=bdO la k lk
   have ls:=la.ordts h.ords[k] (List.getElem_mem hk)
   have le:=la.ords
   refine rn ?_;refine z8 rfl (y3 rfl fun b9=> ?_)
   refine rn ?_;refine qq rfl rfl (y6 rfl rfl (by decide) (by decide)) ?_
   refine rn ?_;refine z8 rfl (v7 rfl rfl (zax (y0.of_fun (zbp _ _ _ (by have:=bd 2;omega)))) rfl ?_)
   rintro _ _ ⟨s',rfl,rfl⟩
   refine qq rfl rfl (y6 rfl rfl (by decide) (by decide)) ?_
   refine rn ?_;refine zjb h.ords[k].ts.length (fun j s0 s1 s2 s3=>⟨[(101,iv j),(1,pZ b1),(2,pZ b2),(3,pZ b3),(86,zzl h.ords),(87,iv (h.ords.map zeg).length),(88,iv k),(99,za1 h.ords[k].ts),(100,iv (h.ords[k].ts.map zac).length)],[.box b9 87 (zeg h.ords[k]),.row s0.v 1 3 ((((h.ords[k].ts.take j).foldl zpy (zaw (spO h k) (2,h.ords[k].o))) 0).map zac),.row s1.v 1 3 ((((h.ords[k].ts.take j).foldl zpy (zaw (spO h k) (2,h.ords[k].o))) 1).map zac),.row s2.v 1 3 ((((h.ords[k].ts.take j).foldl zpy (zaw (spO h k) (2,h.ords[k].o))) 2).map zac),.row s3.v 1 3 ((((h.ords[k].ts.take j).foldl zpy (zaw (spO h k) (2,h.ords[k].o))) 3).map zac),.box b3 154 [.v s0.v,.v s1.v,.v s2.v,.v s3.v],.box b2 154 [.v (.slice none 0 0),.v (.slice none 0 0),.v (.slice none 0 0),.v (.slice none 0 0)],.box b1 28 (w7 h)],[]⟩) _ _ _ _ (es) ?_
   intro j s0 s1 s2 s3 lj
   refine rn ?_;refine z7 rfl (fun hc102=> ?_) (fun hc102=> ?_)
   ·have hj:=za3 hc102
    have rj:=zal (f:=zac) hj
    have bj:=Bd.fold (c:=1) (l:=h.ords[k].ts.take j) (fun s _ L n h=>h.t s) (bd.f (2,h.ords[k].o))
    have bl:(h.ords[k].ts.take j).length≤3000:=by rw [List.length_take];omega
    refine rn ?_;refine qq rfl rfl (y6 rfl rfl (by decide) (by decide)) ?_
    refine rn ?_;refine z8 rfl (v7 rfl rfl (zax (y0.of_fun (zbp _ _ _ (by have:=bj 0;omega)))) rfl ?_)
    rintro _ _ ⟨s',rfl,rfl⟩
    refine qq rfl rfl (y6 rfl rfl (by decide) (by decide)) ?_
    refine rn ?_;have e:(h.ords[k].ts.take (j+1)).foldl zpy (zaw (spO h k) (2,h.ords[k].o))=zpy ((h.ords[k].ts.take j).foldl zpy (zaw (spO h k) (2,h.ords[k].o))) h.ords[k].ts[j]:=zg0 _ _ hj
    exact ⟨hj,_,_,_,_,by simp only [e];exact eA⟩
   ·have qj:=za4 hc102 lj
    refine rn ?_;have e:spO h (k+1)=(h.ords[k].ts.take j).foldl zpy (zaw (spO h k) (2,h.ords[k].o)):=by rw [spO,zg0 _ _ hk,zrs,zi8 _ _ qj];rfl
    exact ⟨hk,_,_,_,_,by simp only [e];exact eA⟩
  ·have qk:=za4 hc89 lk
   refine rn ?_;refine zjb h.mats.length (fun k s0 s1 s2 s3=>⟨[(115,iv k),(1,pZ b1),(2,pZ b2),(3,pZ b3),(113,zve h.mats),(114,iv (h.mats.map zd3).length)],[.row s0.v 1 3 (((spM h k) 0).map zac),.row s1.v 1 3 (((spM h k) 1).map zac),.row s2.v 1 3 (((spM h k) 2).map zac),.row s3.v 1 3 (((spM h k) 3).map zac),.box b3 154 [.v s0.v,.v s1.v,.v s2.v,.v s3.v],.box b2 154 [.v (.slice none 0 0),.v (.slice none 0 0),.v (.slice none 0 0),.v (.slice none 0 0)],.box b1 28 (w7 h)],[]⟩) _ _ _ _ (by rw [show spM h 0=spO h k from (zi8 zrs _ qk).symm];exact es) ?_
   intro k s0 s1 s2 s3 lk
   refine rn ?_;refine z7 rfl (fun hc116=> ?_) (fun hc116=> ?_)
   ·have hk:=za3 hc116
    have rk:=zal (f:=zd3) hk
    have bd:=bdM la k lk
    have ls:=la.matts h.mats[k] (List.getElem_mem hk)
    have le:=la.mats
    refine rn ?_;refine z8 rfl (y3 rfl fun b13=> ?_)
    refine rn ?_;refine qq rfl rfl (y6 rfl rfl (by decide) (by decide)) ?_
    refine rn ?_;refine z8 rfl (v7 rfl rfl (zax (y0.of_fun (zbp _ _ _ (by have:=bd 3;omega)))) rfl ?_)
    rintro _ _ ⟨s',rfl,rfl⟩
    refine qq rfl rfl (y6 rfl rfl (by decide) (by decide)) ?_
    refine rn ?_;refine qq rfl rfl (y6 rfl rfl (by decide) (by decide)) ?_
    refine rn ?_;refine z8 rfl (v7 rfl rfl (zax (y0.of_fun (zbp _ _ _ (by have:=bd 2;omega)))) rfl ?_)
    rintro _ _ ⟨s',rfl,rfl⟩
    refine qq rfl rfl (y6 rfl rfl (by decide) (by decide)) ?_
    refine rn ?_;refine zjb h.mats[k].ts.length (fun j s0 s1 s2 s3=>⟨[(134,iv j),(1,pZ b1),(2,pZ b2),(3,pZ b3),(113,zve h.mats),(114,iv (h.mats.map zd3).length),(115,iv k),(132,za1 h.mats[k].ts),(133,iv (h.mats[k].ts.map zac).length)],[.box b13 109 (zd3 h.mats[k]),.row s0.v 1 3 ((((h.mats[k].ts.take j).foldl zpy (zaw (zaw (spM h k) (3,h.mats[k].p)) (2,h.mats[k].o))) 0).map zac),.row s1.v 1 3 ((((h.mats[k].ts.take j).foldl zpy (zaw (zaw (spM h k) (3,h.mats[k].p)) (2,h.mats[k].o))) 1).map zac),.row s2.v 1 3 ((((h.mats[k].ts.take j).foldl zpy (zaw (zaw (spM h k) (3,h.mats[k].p)) (2,h.mats[k].o))) 2).map zac),.row s3.v 1 3 ((((h.mats[k].ts.take j).foldl zpy (zaw (zaw (spM h k) (3,h.mats[k].p)) (2,h.mats[k].o))) 3).map zac),.box b3 154 [.v s0.v,.v s1.v,.v s2.v,.v s3.v],.box b2 154 [.v (.slice none 0 0),.v (.slice none 0 0),.v (.slice none 0 0),.v (.slice none 0 0)],.box b1 28 (w7 h)],[]⟩) _ _ _ _ (es) ?_
    intro j s0 s1 s2 s3 lj
    refine rn ?_;refine z7 rfl (fun hc135=> ?_) (fun hc135=> ?_)
    ·have hj:=za3 hc135
     have rj:=zal (f:=zac) hj
     have bj:=Bd.fold (c:=1) (l:=h.mats[k].ts.take j) (fun s _ L n h=>h.t s) ((bd.f (3,h.mats[k].p)).f (2,h.mats[k].o))
     have bl:(h.mats[k].ts.take j).length≤3000:=by rw [List.length_take];omega
     refine rn ?_;refine qq rfl rfl (y6 rfl rfl (by decide) (by decide)) ?_
     refine rn ?_;refine z8 rfl (v7 rfl rfl (zax (y0.of_fun (zbp _ _ _ (by have:=bj 0;omega)))) rfl ?_)
     rintro _ _ ⟨s',rfl,rfl⟩
     refine qq rfl rfl (y6 rfl rfl (by decide) (by decide)) ?_
     refine rn ?_;have e:(h.mats[k].ts.take (j+1)).foldl zpy (zaw (zaw (spM h k) (3,h.mats[k].p)) (2,h.mats[k].o))=zpy ((h.mats[k].ts.take j).foldl zpy (zaw (zaw (spM h k) (3,h.mats[k].p)) (2,h.mats[k].o))) h.mats[k].ts[j]:=zg0 _ _ hj
     exact ⟨hj,_,_,_,_,by simp only [e];exact eA⟩
    ·have qj:=za4 hc135 lj
     refine rn ?_;have e:spM h (k+1)=(h.mats[k].ts.take j).foldl zpy (zaw (zaw (spM h k) (3,h.mats[k].p)) (2,h.mats[k].o)):=by rw [spM,zg0 _ _ hk,stepM,zi8 _ _ qj];rfl
     exact ⟨hk,_,_,_,_,by simp only [e];exact eA⟩
   ·have qk:=za4 hc116 lk
    refine rn ?_;refine zjb h.wants.length (fun k s0 s1 s2 s3=>⟨[(148,iv k),(2,pZ b2),(3,pZ b3),(146,zuc h.wants),(147,iv (h.wants.map zfq).length)],[.row s0.v 1 3 (((spW h k) 0).map zac),.row s1.v 1 3 (((spW h k) 1).map zac),.row s2.v 1 3 (((spW h k) 2).map zac),.row s3.v 1 3 (((spW h k) 3).map zac),.box b3 154 [.v s0.v,.v s1.v,.v s2.v,.v s3.v],.box b2 154 [.v (.slice none 0 0),.v (.slice none 0 0),.v (.slice none 0 0),.v (.slice none 0 0)],.box b1 28 (w7 h)],[]⟩) _ _ _ _ (by rw [show spW h 0=spM h k from (zi8 stepM _ qk).symm];exact es) ?_
    intro k s0 s1 s2 s3 lk
    refine rn ?_;refine z7 rfl (fun hc149=> ?_) (fun hc149=> ?_)
    ·have hk:=za3 hc149
     have rk:=zal (f:=zfq) hk
     have bd:=bdW la k lk
     have le:=la.wants
     refine rn ?_;refine z8 rfl (y3 rfl fun b17=> ?_)
     refine rn ?_;refine qq rfl rfl (y6 rfl rfl (by decide) (by decide)) ?_
     refine rn ?_;refine z8 rfl (v7 rfl rfl (zax (y0.of_fun (zbp _ _ _ (by have:=bd 1;omega)))) rfl ?_)
     rintro _ _ ⟨s',rfl,rfl⟩
     refine qq rfl rfl (y6 rfl rfl (by decide) (by decide)) ?_
     refine rn ?_;have e:spW h (k+1)=yfw (spW h k) h.wants[k]:=zg0 _ _ hk
     exact ⟨hk,_,_,_,_,by simp only [e];exact eA⟩
    ·have qk:=za4 hc149 lk
     refine rn ?_;exact ze0 (.cons _ _ _ _ (.agg _ _ _ _ _ _ _ rfl inferInstance inferInstance inferInstance rfl) .nil) (.trans (zcr [] _) (.trans (zcr [_] _) (.trans (zcr [_,_] _) (.trans (zcr [_,_,_] _) (.drop [_,_,_] _ _))))) ⟨rfl,by rw [←show spW h k=zcm h from zi8 _ _ qk];rfl⟩
theorem ygl (h:Hist) (la:Lim 4611686018427387904 h):y8 Tryz.prog 65 [.agg (w7 h)] [] (fun r h'=>h'= []∧r=bv (zjo h)):=by
 refine z6 Tryz.func65 rfl rfl rfl ?_
 refine rn ?_;refine z8 rfl (w9 rfl rfl rfl fun b1=> ?_)
 refine rn ?_;refine qv rfl rfl (y1 rfl rfl (u5 (ybn h la) (Sbs.refl _))) ?_
 refine rn ?_;refine z7 rfl (fun hc10=> ?_) (fun hc10=> ?_)
 ·refine rn ?_;refine rq 1 ?_
  exact ⟨rfl,congrArg bv (by rw [ymc (by simpa using hc10)])⟩
 ·have hs:zad h=true:=by simpa using hc10
  have la3:=zo1 hs
  refine rn ?_;refine qv rfl rfl (y1 rfl rfl (u5 (ybm h la3) (Sbs.refl _))) ?_
  refine rn ?_;refine zcy (4) (fun k:Nat=>∀j,j < k→okS h j=true) (fun k=> [(13,iv k)]) [(1,_),(12,_)] (fun j hj=>by omega) ?_
  intro k lk zk
  refine rn ?_;refine z7 rfl (fun hc14=> ?_) (fun hc14=> ?_)
  ·have hk:k < 4:=by simp at hc14;omega
   have r0:=ytx h hk
   have r1:=ynt h hk
   have bl:=zyn la3 k
   refine rn ?_;refine z7 rfl (fun hc35=> ?_) (fun hc35=> ?_)
   ·refine rn ?_;refine rq 1 ?_
    exact ⟨rfl,congrArg bv (by rw [ybk hk];rw [okS,beq_eq_false_iff_ne.2 (by simp at hc35;omega),Bool.false_and])⟩
   ·have hlen:(zcm h k).length=(nmK h k).length:=by simp at hc35;omega
    refine rn ?_;refine zcy ((zcm h k).length) (fun i:Nat=>zfr 0 (zcm h k)=zfr i ((zcm h k).drop i)) (fun i=> [(38,iv i)]) [(1,_),(12,_),(13,_),(36,_),(37,_)] rfl ?_
    intro i li zi
    refine rn ?_;refine z7 rfl (fun hc39=> ?_) (fun hc39=> ?_)
    ·have hi:=za3 hc39
     have ri:=zal (f:=zac) hi
     refine rn ?_;refine z7 rfl (fun hc45=> ?_) (fun hc45=> ?_)
     ·refine rn ?_;refine rq 1 ?_
      exact ⟨rfl,congrArg bv (by rw [ybk hk];rw [okS,ypr hi zi (by simp at hc45;omega),Bool.and_false])⟩
     ·refine rn ?_;exact ⟨hi,yao hi zi (by simp at hc45;omega),eA⟩
    ·have qi:=za4 hc39 li
     refine rn ?_;exact ⟨hk,fun j hj=>(Nat.lt_or_ge j k).elim (zk j) (fun q=>by
      obtain rfl:j=k:=by omega
      rw [okS,hlen,yps qi zi];simp),eA⟩
  ·have qk:k=4:=by simp at hc14;omega
   subst qk
   refine rn ?_;refine rq 1 ?_
   exact ⟨rfl,congrArg bv (by rw [ymb hs zk])⟩
theorem zsd (h:Hist) (la:Lim 4611686018427387904 h):y8 Tryz.prog 65 [.agg (w7 h)] [] (fun r h'=>h'= []∧r=bv (zfz h)):=
 (ygl h la).mono fun _ _ q=>⟨q.1,by rw [q.2,ybl]⟩
attribute [local irreducible] zei jch zfs
theorem zpb {l:List Ev} {t x:Int} {j:Nat} (h:j < l.length) (hw:zar t x l[j]=true):zdw l t x (j+1)=some (l[j].v,j):=by
 rw [zdw,List.getElem?_eq_getElem h];simp only [hw,if_true]
theorem zgx {l:List Ev} {t x:Int} {j:Nat} (h:j < l.length) (hw:zar t x l[j]=false):zdw l t x (j+1)=zdw l t x j:=by
 rw [zdw,List.getElem?_eq_getElem h];simp [hw]
theorem ygh {l:List Ev} {j:Nat} (h:j < l.length):(l.map evR)[(((j+1:Nat):Int) - 1).toNat]? =some (evR l[j]):=by
 rw [show (((j+1:Nat):Int) - 1).toNat=j by omega,List.getElem?_map,List.getElem?_eq_getElem h];rfl
theorem ykb (a b:Int):(decide (a ≥ 0) && decide (a < b))=decide (0≤a∧a < b):=by
 rw [Bool.eq_iff_iff];simp only [Bool.and_eq_true,decide_eq_true_eq,ge_iff_le]
theorem ygb {l:List Ev} {a:Nat} {t x:Int} (ha:a < l.length):zdw l t x a=zpm (l.take a) t x:=by
 rw [zpm,zpc (by rw [List.length_take];omega),List.length_take,Nat.min_eq_left (by omega)]
theorem zmn {α:Type} {l:List α} {q:α→Bool} {k:Nat} (hk:k < l.length):(l.take (k+1)).all q=((l.take k).all q && q l[k]):=by
 rw [List.take_succ_eq_append_getElem hk,List.all_append,List.all_cons,List.all_nil,Bool.and_true]
theorem ygj (h:Hist) (la:Lim 4611686018427387904 h):y8 Tryz.prog 66 [.agg (w7 h)] [] (fun r h'=>h'= []∧r=bv (za0 h)):=by
 refine z6 Tryz.func66 rfl rfl rfl ?_
 refine rn ?_;refine z8 rfl (w9 rfl rfl rfl fun b1=> ?_)
 refine rn ?_;refine qv rfl rfl (y1 rfl rfl (u5 (zsd h la) (Sbs.refl _))) ?_
 refine rn ?_;refine z7 rfl (fun hc7=> ?_) (fun hc7=> ?_)
 ·have hm:zfz h=false:=by simpa using hc7
  refine rn ?_;refine rq 1 ?_
  exact ⟨rfl,congrArg bv (by rw [za0,hm];rfl)⟩
 ·have hm:zfz h=true:=by simpa using hc7
  refine rn ?_;refine qv rfl rfl (y1 rfl rfl (u5 (zy2 h ((zqo hm).mono (by decide))) (Sbs.refl _))) ?_
  obtain ⟨bi,bj,be⟩:=yeg (za6 (ze4 h) rules10)
  rw [be]
  refine rn ?_;refine z8 rfl (y3 rfl fun b3=> ?_)
  refine rn ?_;refine rq 2 ?_
  exact ⟨rfl,congrArg bv (by rw [za0,hm,show zj1 h=za6 (ze4 h) rules10 from zxq hm];cases za6 (ze4 h) rules10 <;> rfl)⟩
theorem zy4 (h:Hist) (la:Lim 4611686018427387904 h):y8 Tryz.prog 16 [.agg (w7 h)] [] (fun r h'=>h'= []∧r=iv (u6 h)):=by
 refine z6 Tryz.func16 rfl rfl rfl ?_
 refine rn ?_;refine z8 rfl (w9 rfl rfl rfl fun b1=> ?_)
 refine rn ?_;refine qv rfl rfl (y1 rfl rfl (u5 (zsd h la) (Sbs.refl _))) ?_
 refine rn ?_;refine z7 rfl (fun hc5=> ?_) (fun hc5=> ?_)
 ·have hm:zfz h=false:=by simpa using hc5
  refine rn ?_;refine rq 1 ?_
  exact ⟨rfl,by rw [u6,hm];rfl⟩
 ·have hm:zfz h=true:=by simpa using hc5
  refine rn ?_;refine qv rfl rfl (y1 rfl rfl (u5 (ygj h la) (Sbs.refl _))) ?_
  refine rn ?_;refine z7 rfl (fun hc8=> ?_) (fun hc8=> ?_)
  ·refine rn ?_;refine rq 1 ?_
   exact ⟨rfl,by rw [u6,hm,if_pos rfl,if_neg (by simpa using hc8)];rfl⟩
  ·refine rn ?_;refine rq 1 ?_
   exact ⟨rfl,by rw [u6,hm,if_pos rfl,if_pos (by simpa using hc8)];rfl⟩
theorem zkn (h:Hist) (la:h.evs.length≤1000000) (t x:Int):y8 Tryz.prog 75 [.agg (w7 h),iv t,iv x] [] (fun r h'=>h'= []∧r= .tup [.agg (yfm (zrn (zpm h.evs t x))),iv (atO (zpm h.evs t x)),bv (zpm h.evs t x).isSome]):=by
 refine z6 Tryz.func75 rfl rfl rfl ?_
 refine rn ?_;refine z8 rfl (w9 rfl rfl rfl fun b3=> ?_)
 refine z8 rfl (y3 rfl fun b6=> ?_)
 refine q1 ?_;refine q1 ?_;refine u9 (zai ?_)
 refine w8 ?_;refine w8 (y4 ?_)
 refine q1 ?_;refine q1 ?_;refine q1 ?_;refine qq rfl rfl (zci rfl rfl rfl (by rw [oM];omega)) ?_
 refine rn ?_;refine zif (fun k:Nat=>k≤h.evs.length∧zdw h.evs t x h.evs.length=zdw h.evs t x k) (fun k=>⟨[(9,iv ((k:Int) - 1)),(1,iv t),(2,iv x),(3,pZ b3),(6,pZ b6),(7,iv 0),(8,bv false)],.box b6 57 [iv 0,iv 0]:: .box b3 28 (w7 h):: [],[]⟩) (fun k=>k) h.evs.length ⟨Nat.le_refl _,rfl⟩ (by rw [oM];exact es) ?_
 rintro k ⟨lk,zk⟩
 refine rn ?_;refine z7 rfl (fun hc16=> ?_) (fun hc16=> ?_)
 ·obtain ⟨j,rfl⟩:∃j,k=j+1:=⟨k - 1,by have:=oT hc16;omega⟩
  have hj:j < h.evs.length:=by omega
  refine za2 ?_;refine zai ?_;refine w8 ?_;refine zcz ?_;refine w8 (y4 ?_)
  refine q1 ?_;refine q1 ?_;refine q1 ?_;refine qq rfl rfl (zav rfl rfl (by omega) (ygh hj)) ?_
  refine rn ?_;refine z8 rfl (y3 rfl fun b10=> ?_)
  refine rn ?_;refine w6 (fun hg5_3=> ?_) (fun hg5_3=> ?_)
  ·refine rn ?_;refine w6 (fun hg5_9=> ?_) (fun hg5_9=> ?_)
   ·refine rn ?_;refine z7 rfl (fun hc38=> ?_) (fun hc38=> ?_)
    ·have hw:zar t x h.evs[j]=true:=by rw [zar];first|(rw [hg5_3,hg5_9,hc38];rfl)|(rw [hg5_3,hg5_9];rfl)|(rw [hg5_3];rfl)
     refine rn ?_;exact ze0 (.cons _ _ _ _ (.agg _ _ _ _ _ _ _ rfl inferInstance inferInstance inferInstance rfl) (.cons _ _ _ _ (.tmp _ _ rfl) (.cons _ _ _ _ (.tmp _ _ rfl) .nil))) (.drop [_,_,_] _ _) ⟨rfl,by rw [zpm,zk,zpb hj hw];simp only [zrn,atO];rw [show (((j+1:Nat):Int) - 1)=(j:Int) by omega];rfl⟩
    ·have hw:zar t x h.evs[j]=false:=by rw [zar];first|(rw [hg5_3,hg5_9,hc38];rfl)|(rw [hg5_3,hg5_9];rfl)|(rw [hg5_3];rfl)
     refine za2 ?_;refine zi7 ?_;refine zai ?_;refine y4 ?_;refine q1 ?_;refine qq rfl rfl (zci rfl rfl rfl (by omega)) ?_
     refine rn ?_;exact ⟨j,⟨by omega,by rw [zk,zgx hj hw]⟩,by rw [show (((j+1:Nat):Int) - 1 - 1)=(j:Int) - 1 by omega];exact eA,by omega⟩
   ·refine rn ?_;refine zfu rfl ?_;have hw:zar t x h.evs[j]=false:=by rw [zar];first|(rw [hg5_3,hg5_9,hc38];rfl)|(rw [hg5_3,hg5_9];rfl)|(rw [hg5_3];rfl)
    refine za2 ?_;refine zi7 ?_;refine zai ?_;refine y4 ?_;refine q1 ?_;refine qq rfl rfl (zci rfl rfl rfl (by omega)) ?_
    refine rn ?_;exact ⟨j,⟨by omega,by rw [zk,zgx hj hw]⟩,by rw [show (((j+1:Nat):Int) - 1 - 1)=(j:Int) - 1 by omega];exact eA,by omega⟩
  ·refine rn ?_;refine zfu rfl ?_;have hw:zar t x h.evs[j]=false:=by rw [zar];first|(rw [hg5_3,hg5_9,hc38];rfl)|(rw [hg5_3,hg5_9];rfl)|(rw [hg5_3];rfl)
   refine za2 ?_;refine zi7 ?_;refine zai ?_;refine y4 ?_;refine q1 ?_;refine qq rfl rfl (zci rfl rfl rfl (by omega)) ?_
   refine rn ?_;exact ⟨j,⟨by omega,by rw [zk,zgx hj hw]⟩,by rw [show (((j+1:Nat):Int) - 1 - 1)=(j:Int) - 1 by omega];exact eA,by omega⟩
 ·have qk:k=0:=by have:=oF hc16;omega
  subst qk
  refine zn7 ?_;refine zmr ?_;refine zmr ?_;refine zgd ?_;refine zai ?_;refine w8 (y4 ?_)
  refine qq rfl rfl (zae (out:= [iv 0,iv 0]) rfl (by rfl)) ?_
  refine rn ?_;exact ze0 (.cons _ _ _ _ (.agg _ _ _ _ _ _ _ rfl inferInstance inferInstance inferInstance rfl) (.cons _ _ _ _ (.tmp _ _ rfl) (.cons _ _ _ _ (.tmp _ _ rfl) .nil))) (.drop [_,_] _ _) ⟨rfl,by rw [zpm,zk];rfl⟩
theorem yic {h:Hist} {x:Int} {k:Nat} (hk:k < h.ords.length) (hx:(h.ords[k].o==x)=true) (hz:((h.ords.take k).all fun o:Ord=> !(o.o==x))=true):zde h x=h.ords[k].ts:=by
 have:h.ords.find? (fun o=>o.o==x)=some h.ords[k]:=by
  rw [List.find?_eq_some_iff_getElem]
  exact ⟨hx,k,hk,rfl,fun j hj=>by have:=List.all_eq_true.1 hz h.ords[j] (zi4 (by omega) hj);exact this⟩
 rw [zde,this]
theorem yn8 {h:Hist} {x:Int} (hz:(h.ords.all fun o:Ord=> !(o.o==x))=true):zde h x=zbi h x:=by
 have:h.ords.find? (fun o=>o.o==x)=none:=by
  rw [List.find?_eq_none];intro s hs q
  have:=List.all_eq_true.1 hz s hs
  rw [q] at this;cases this
 rw [zde,this]
theorem znl {h:Hist} {N:Nat} (la:Lim N h) (x:Int):(zde h x).length≤N:=by
 unfold zde
 split
 ·rename_i o ho;exact la.ordts o (List.mem_of_find?_eq_some ho)
 ·exact Nat.le_trans (zgl _ _) la.ts
def zea (h:Hist) (x n:Int):Option Int:=if 0≤n then (zde h x)[n.toNat]? else none
theorem yvr {h:Hist} {x n:Int} (h2:decide (n < 0)=true):zea h x n=none:=by rw [zea,if_neg (by have:=oT h2;omega)]
theorem yvq {h:Hist} {x n:Int} (hn:decide (n ≥ (((zde h x).map zac).length:Int))=true):zea h x n=none:=by
 have hn:=oT hn
 rw [oM] at hn
 rw [zea];split
 ·rw [List.getElem?_eq_none (by omega)]
 ·rfl
theorem ywn {h:Hist} {x n:Int} (h2:decide (n < 0)=false) (hn:decide (n ≥ (((zde h x).map zac).length:Int))=false):∃a,0≤n∧((zde h x).map zac)[n.toNat]? =some (zac a)∧zea h x n=some a:=by
 have hn:=oF hn
 have h2:=oF h2
 rw [oM] at hn
 refine ⟨(zde h x)[n.toNat]'(by omega),by omega,?_,?_⟩
 ·rw [List.getElem?_map,List.getElem?_eq_getElem (by omega)];rfl
 ·rw [zea,if_pos (by omega),List.getElem?_eq_getElem (by omega)]
def rkQ (h:Hist) (x:Int) (v:Ver) (t:Int):Bool:=zrn (zpm h.evs t x)==v
def zcc (h:Hist) (x:Int) (v:Ver):Int×Bool:=if v=⟨0,0⟩ then (0,true) else if zbr (rkQ h x v) 0 (zde h x) ≥ 0 then (zbr (rkQ h x v) 0 (zde h x)+1,true) else (0,false)
theorem yqg {h:Hist} {x:Int} {v:Ver} {k:Nat} (hv:v≠⟨0,0⟩) (hk:k < (zde h x).length) (hq:rkQ h x v (zde h x)[k]=true) (hz:(((zde h x).take k).all fun t=> !rkQ h x v t)=true):zcc h x v=((k:Int)+1,true):=by
 have:zbr (rkQ h x v) 0 (zde h x)=(k:Int):=by
  have:=zvt (p:=rkQ h x v) (l:=zde h x) (i:=0) hk hq (fun j hj=>by
   have:=List.all_eq_true.1 hz (zde h x)[j] (zi4 (by omega) hj)
   simpa using this)
  rw [this];congr 1;omega
 rw [zcc,if_neg hv,this,if_pos (by omega)]
theorem yt5 {h:Hist} {x:Int} {v:Ver} (hv:v≠⟨0,0⟩) (hz:((zde h x).all fun t=> !rkQ h x v t)=true):zcc h x v=(0,false):=by
 have:decide (zbr (rkQ h x v) 0 (zde h x) ≥ 0)=false:=by
  rw [zer,List.any_eq_false];intro t ht
  have:=List.all_eq_true.1 hz t ht
  simpa using this
 rw [zcc,if_neg hv,if_neg (oF this)]
theorem zhk (h:Hist) (la:Lim 1000000 h) (x:Int):y8 Tryz.prog 74 [.agg (w7 h),iv x] [] (fun r h'=>h'= []∧r=za1 (zde h x)):=by
 refine z6 Tryz.func74 rfl rfl rfl ?_
 have bo:=la.ords
 refine rn ?_;refine z8 rfl (w9 rfl rfl rfl fun b2=> ?_)
 refine rn ?_;refine zcy (h.ords.length) (fun k:Nat=>((h.ords.take k).all fun o:Ord=> !(o.o==x))=true) (fun k=> [(10,iv k)]) [(1,_),(2,_),(8,_),(9,_)] rfl ?_
 intro k lk zk
 refine rn ?_;refine z7 rfl (fun hc11=> ?_) (fun hc11=> ?_)
 ·have hk:=za3 hc11
  have rk:=zal (f:=zeg) hk
  refine rn ?_;refine z8 rfl (y3 rfl fun b6=> ?_)
  refine rn ?_;refine z7 rfl (fun hc17=> ?_) (fun hc17=> ?_)
  ·refine rn ?_;refine rq 2 ?_
   exact ⟨rfl,by rw [yic hk hc17 zk];rfl⟩
  ·refine rn ?_;exact ⟨hk,by rw [zmn hk,zk,hc17];rfl,eA⟩
 ·have qk:=za4 hc11 lk
  rw [qk,List.take_length] at zk
  refine rn ?_;refine qv rfl rfl (y1 rfl rfl (u5 (zh6 h x la) (Sbs.refl _))) ?_
  refine rn ?_;refine rq 1 ?_
  exact ⟨rfl,by rw [yn8 zk];rfl⟩
theorem ybr (h:Hist) (la:Lim 1000000 h) (x n:Int):y8 Tryz.prog 186 [.agg (w7 h),iv x,iv n] [] (fun r h'=>h'= []∧r= .tup [iv ((zea h x n).getD 0),bv (zea h x n).isSome]):=by
 refine z6 Tryz.func186 rfl rfl rfl ?_
 refine rn ?_;refine z8 rfl (w9 rfl rfl rfl fun b3=> ?_)
 refine rn ?_;refine qv rfl rfl (y1 rfl rfl (u5 (zhk h la x) (Sbs.refl _))) ?_
 refine rn ?_;refine w6 (fun hg2_2=> ?_) (fun hg2_2=> ?_)
 ·refine rn ?_;refine zc0 rfl ?_;have hn:zea h x n=none:=by first|exact yvr hg2_2|exact yvq hc19
  refine rn ?_;refine rq 1 ?_
  exact ⟨rfl,by rw [hn];rfl⟩
 ·refine rn ?_;refine z7 rfl (fun hc19=> ?_) (fun hc19=> ?_)
  ·have hn:zea h x n=none:=by first|exact yvr hg2_2|exact yvq hc19
   refine rn ?_;refine rq 1 ?_
   exact ⟨rfl,by rw [hn];rfl⟩
  ·obtain ⟨a,h0,ha,hn⟩:=ywn hg2_2 hc19
   refine za2 ?_;refine zai ?_;refine w8 (y4 ?_)
   refine q1 ?_;refine q1 ?_;refine qq rfl rfl (zav rfl rfl h0 ha) ?_
   refine rn ?_;refine rq 1 ?_
   exact ⟨rfl,by rw [hn];rfl⟩
theorem zse (h:Hist) (la:Lim 1000000 h) (x:Int) (v:Ver):y8 Tryz.prog 119 [.agg (w7 h),iv x,.agg (yfm v)] [] (fun r h'=>h'= []∧r= .tup [iv (zcc h x v).1,bv (zcc h x v).2]):=by
 refine z6 Tryz.func119 rfl rfl rfl ?_
 have be:=la.evs
 have bi:=znl la x
 refine rn ?_;refine z8 rfl (w9 rfl rfl rfl fun b3=> ?_)
 refine z8 rfl (w9 rfl rfl rfl fun b5=> ?_)
 refine q1 ?_;refine q1 ?_;refine u9 (zai ?_)
 refine w8 ?_;refine w8 (y4 ?_)
 refine q1 ?_;refine qq rfl rfl (zae (out:= [iv 0,iv 0]) rfl (by rfl)) ?_
 refine rn ?_;refine z7 rfl (fun hc15=> ?_) (fun hc15=> ?_)
 ·have hv:v=⟨0,0⟩:=eq_of_beq (by rw [←zck];exact hc15)
  refine rn ?_;refine rq 2 ?_
  exact ⟨rfl,by rw [zcc,if_pos hv];rfl⟩
 ·have hv:v≠⟨0,0⟩:=beq_eq_false_iff_ne.1 (by rw [←zck];exact hc15)
  refine rn ?_;refine qv rfl rfl (y1 rfl rfl (u5 (zhk h la x) (Sbs.refl _))) ?_
  refine rn ?_;refine zcy ((zde h x).length) (fun k:Nat=>(((zde h x).take k).all fun t=> !rkQ h x v t)=true) (fun k=> [(20,iv k)]) [(1,_),(3,_),(5,_),(18,_),(19,_)] rfl ?_
  intro k lk zk
  refine rn ?_;refine z7 rfl (fun hc21=> ?_) (fun hc21=> ?_)
  ·have hk:=za3 hc21
   have rk:=zal (f:=zac) hk
   refine rn ?_;refine qv rfl rfl (y1 rfl rfl (u5 (zkn h la.evs (zde h x)[k] x) (Sbs.refl _))) ?_
   refine rn ?_;refine z8 rfl (y3 rfl fun b10=> ?_)
   refine rn ?_;refine z7 rfl (fun hc35=> ?_) (fun hc35=> ?_)
   ·have hq:(zrn (zpm h.evs (zde h x)[k] x)==v)=true:=by rw [←zck];exact hc35
    refine w8 (y4 ?_)
    refine q1 ?_;refine qq rfl rfl (zci rfl rfl rfl (by omega)) ?_
    refine rn ?_;refine rq 3 ?_
    exact ⟨rfl,by rw [yqg hv hk hq zk];rfl⟩
   ·have hq:(zrn (zpm h.evs (zde h x)[k] x)==v)=false:=by rw [←zck];exact hc35
    refine rn ?_;exact ⟨hk,by rw [zmn hk,zk,rkQ,hq];rfl,eA⟩
  ·have qk:=za4 hc21 lk
   rw [qk,List.take_length] at zk
   refine rn ?_;refine rq 2 ?_
   exact ⟨rfl,by rw [yt5 hv zk];rfl⟩
def wlM (l:List Ev):Nat→List ((Int×Int)×Int)
 |0=> []
 |k+1=>match l[k]? with
  |some e=>if (e.kind==2)=true then zeo (e.t,e.o) (k:Int) (wlM l k) else wlM l k
  |none=>wlM l k
theorem ykz {l:List Ev} {k:Nat} (hk:k < l.length) (hw:(l[k].kind==2)=true):wlM l (k+1)=zeo (l[k].t,l[k].o) (k:Int) (wlM l k):=by
 rw [wlM,List.getElem?_eq_getElem hk];simp only [hw,if_true]
theorem yk0 {l:List Ev} {k:Nat} (hk:k < l.length) (hw:(l[k].kind==2)=false):wlM l (k+1)=wlM l k:=by
 rw [wlM,List.getElem?_eq_getElem hk];simp only [hw];rfl
theorem yai (l:List Ev) (t x:Int):∀k,k≤l.length→(zbm (t,x) (wlM l k)).getD 0=atO (zdw l t x k)
 |0,_=>rfl
 |k+1,hk=>by
  have ih:=yai l t x k (by omega)
  have hk':k < l.length:=hk
  cases hw:l[k].kind==2 with
  |false=>
   have:zar t x l[k]=false:=by rw [zar,hw];rfl
   rw [yk0 hk' hw,zgx hk' this,ih]
  |true=>
   rw [ykz hk' hw,zc7]
   cases hq:zar t x l[k] with
   |true=>
    rw [zpb hk' hq,if_pos]
    ·rfl
    ·simp only [zar,Bool.and_eq_true,beq_iff_eq] at hq
     rw [hq.1.2,hq.2]
   |false=>
    rw [zgx hk' hq,if_neg,ih]
    intro e
    rw [Prod.mk.injEq] at e
    simp [zar,hw,e.1,e.2] at hq
theorem zwe (h:Hist) (t x:Int):(zbm (t,x) (wlM h.evs h.evs.length)).getD 0=zeb h t x:=yai _ _ _ _ (Nat.le_refl _)
abbrev yr4 (h:Hist):AV:= .list false 1 (((upR h.os.length).map (zbz h)).map ypc)
abbrev zbb (h:Hist) (rm:Nat):Res:= .map rm (zaq zbc (zbq iv (wlM h.evs h.evs.length)))
theorem zxl (h:Hist) {x:Int} (h0:0≤x) (h1:x < h.os.length):(((upR h.os.length).map (zbz h)).map ypc)[x.toNat]? =some (ypc (zbz h x)):=by
 have hx:(upR h.os.length)[x.toNat]? =some x:=by
  rw [upR,List.getElem?_map,List.getElem?_range (by omega)];simp [Int.toNat_of_nonneg h0]
 rw [List.getElem?_map,List.getElem?_map,hx];rfl
theorem yr0 (h:Hist) (la:Lim 4611686018427387904 h) (hc:u6 h=0) (x:Int) (h0:0≤x) (h1:x < h.os.length):y8 Tryz.prog 101 [.agg (w7 h),iv x] (.glob 2 156 y5:: .glob 4 305 y7:: .glob 5 308 y2:: .glob 3 246 u0:: []) (fun r h'=>h'= .glob 2 156 y5:: .glob 4 305 y7:: .glob 5 308 y2:: .glob 3 246 u0:: []∧r= .tup [za1 (zbz h x),iv 0]):=(yj7 h la x).mono fun _ _ q=>⟨q.1,by rw [q.2,zv9 hc ⟨h0,h1⟩];rfl⟩
theorem zs6 {h:Hist} (hc:u6 h=0) {x:Int} (h0:0≤x) (h1:x < h.os.length):(zbz h x).length≤3000:=by
 rw [(zi6 (zbd.1 hc) h0 h1).2.1]
 exact Nat.le_trans (zkc h.evs x) (zes hc).evs
end Go.Proofs
namespace Go.H
open Go Go.Ab
def zvl (k:Int):Int:=if k=3 then 3 else if k=4 then 4 else 0
def KO (o:Obj):Prop:=∃(ents:Array MapEntry) (clock:Nat) (m:List (Int×Int)),o= .map ents clock∧ents.toList.map (·.key)=(m.map (·.1)).map intK∧(∀i (h1:i < m.length) (h2:i < ents.size),ents[i].val= .int .i64 m[i].2)∧m.length=ents.size∧∀k,(zbm k m).getD 0=zvl k
section
variable {P:Program} {dst:Option Tmp} {ty:TypeId} {pos:String} {after:Array Edge} {guard:Option (Nat×Bool)} {x y:Operand} {h:List Res} {f:Operand→Option AV} {kt et T:TypeId} {r i:Nat} {k:Int}
theorem yg1 {kv:AV} {o:Obj} {z:Value} (ho:KO o) (hx:f x=some (.v (.map (some r)))) (hy:f y=some kv) [hkv:KeyV kv (intK k)] [hm:HasObj h r i o] [hu:Und P T (.map kt et)] [hkt:KeyT P kt intK] [hz:ZerV P et z] [hd:ZV z (iv 0)]:
 QR P h f ⟨dst,.lookup T x y false,ty,pos,after,guard⟩ (iv (zvl k)):=by
 obtain ⟨ents,clock,m,rfl,hks,hv,hl,hk⟩:=ho
 rw [←hk]
 refine zhl (b:=iv ((zbm k m).getD 0)) (a:=(zd4 k (zbq iv m)).getD (.v z)) (fun w O v hr=>zma hr) fun X ρ w hev=> ?_
 have hob:=(hev.heap.holds _ (List.mem_of_getElem? hm.h)).1
 have hl':(zbq iv m).length=ents.toList.length:=by simpa [zbq] using hl
 have hks':ents.toList.map (·.key)=((zbq iv m).map (·.1)).map intK:=by rw [hks];simp [zbq]
 have hfind:=hkt.find w k ents.toList ((zbq iv m).map (·.1)) hks'
 have hkey:=hkv.h w _ _ (hev.rel y _ hy)
 rcases zk0 k (zbq iv m) ents.toList 0 hl' with ⟨a,b,c⟩|⟨j,g1,g2,a,b,c,d⟩
 ·refine ⟨z,run_v _ ?_,by rw [b];exact .v _⟩
  rw [(hev.rel x _ hx).v_eq,hkey]
  simp only [Instr.lookup,Sem.run_bind,Go.Ab.run_underlying (h:=hu),Result.andThen_ok,MapKept.run_getObj_map hob,Sem.run_pure,hkt.chk,hfind]
  rw [a]
  simp [run_zeroValue hz.h]
 ·have g3:j < m.length:=by simpa [zbq] using g1
  refine ⟨(ents[j]'(by simpa using g2)).val,run_v _ ?_,?_⟩
  ·rw [(hev.rel x _ hx).v_eq,hkey]
   simp only [Instr.lookup,Sem.run_bind,Go.Ab.run_underlying (h:=hu),Result.andThen_ok,MapKept.run_getObj_map hob,Sem.run_pure,hkt.chk,hfind]
   rw [a]
   simp
  ·rw [b,hv j g3 (by omega)]
   simp only [zbq,List.getElem_map,Option.getD_some]
   exact .v _
end
end Go.H
set_option maxRecDepth 10000
namespace Go.Proofs
open Go Go.Ab
attribute [local irreducible] QR QV OE zcp aw zdd zcj zbo za7 thn zft zei jch zfs
open Go.H
abbrev rcR (h:Hist) (rc:Nat):Res:= .map rc (zaq intK (zbq bv (dnM (zfm h.evs))))
abbrev rkS (h:Hist) (rk:Nat):Res:= .map rk (zaq zfj (zbq iv (rkM h h.os.length)))
abbrev rgR (rg:Nat) (M:List ((Int×Int)×List Int)):Res:= .map rg (zaq zbc (zbq za1 M))
abbrev rwP (h:Hist) (rc rl rk rg:Nat):List AV:=w7 h++ [mpv rc,yr4 h,mpv rl,mpv rk,mpv rg]
instance:ZV (.slice none 0 0) (za1 []):=⟨fun w O u h=>by rw [h.v_eq];exact .lnil _ _ _ _ (fun q=>by cases q)⟩
theorem yt6 (h:Hist) (n:Nat):rkM h (n+1)=zii h n 0 (zbz h n) (zeo (zt5 n ⟨0,0⟩) 0 (rkM h n)):=rfl
def zoc (h:Hist) (M:List ((Int×Int)×List Int)):Prop:=∀p l,zbm p M=some l→l=chL h p.1 p.2
theorem zml (h:Hist):zoc h []:=fun p l e=>by cases e
theorem zx3 {h:Hist} {M:List ((Int×Int)×List Int)} (hM:zoc h M) (p x:Int):zoc h (zeo (p,x) (chL h p x) M):=fun q l e=>by
 rw [zc7] at e
 split at e
 ·rename_i z;injection e with e;rw [←e,←z]
 ·exact hM q l e
theorem zx5 {h:Hist} {M:List ((Int×Int)×List Int)} (hM:zoc h M) {p x:Int} (hs:(!(zbm (p,x) M).isSome)=false):(zbm (p,x) M).getD []=chL h p x:=by
 cases hq:zbm (p,x) M with
 |none=>rw [hq] at hs;simp at hs
 |some v=>exact hM (p,x) v hq
theorem zx4 {h:Hist} {M:List ((Int×Int)×List Int)} (p x:Int):(zbm (p,x) (zeo (p,x) (chL h p x) M)).getD []=chL h p x:=by rw [zc7,if_pos rfl];rfl
instance:Chk3 Tryz.prog 170:=⟨fun e w a b c=>by kernel_rfl⟩
theorem yv9 (h:Hist) (la:Lim 4611686018427387904 h):y8 Tryz.prog 87 [.agg (w7 h)] (.glob 2 156 y5:: .glob 4 305 y7:: .glob 5 308 y2:: .glob 3 246 u0:: []) (fun r h'=>(u6 h=0∧∃rc rl rk rg,h'=rgR rg []::rkS h rk::zbb h rl::rcR h rc:: .glob 2 156 y5:: .glob 4 305 y7:: .glob 5 308 y2:: .glob 3 246 u0:: []∧r= .tup [.agg (rwP h rc rl rk rg),iv 0])∨(u6 h≠0∧h'= .glob 2 156 y5:: .glob 4 305 y7:: .glob 5 308 y2:: .glob 3 246 u0:: []∧r= .tup [.agg (zs9++ [nmp,.v (.slice none 0 0),nmp,nmp,nmp]),iv (u6 h)])):=by
 refine z6 Tryz.func87 rfl rfl rfl ?_
 refine rn ?_;refine z8 rfl (w9 rfl rfl rfl fun b1=> ?_)
 refine z8 rfl (y3 rfl fun b2=> ?_)
 refine rn ?_;refine qv rfl rfl (y1 rfl rfl (y0.qt (y0.of_fun (yj9 h la)) ((pt2 _ _ _ _).trans (.cons _ ((pt2 _ _ _ _).trans (.cons _ ((pt2 _ _ _ _).trans (.cons _ (pt2 _ _ _ _))))))))) ?_
 refine rn ?_;refine z7 rfl (fun hc22=> ?_) (fun hc22=> ?_)
 ·have hc:=nzT hc22
  refine rn ?_;exact ze0 (.cons _ _ _ _ (.agg _ _ _ _ _ _ _ rfl inferInstance inferInstance inferInstance rfl) (.cons _ _ _ _ (.tmp _ _ rfl) .nil)) (.drop [_,_] _ _) (.inr ⟨hc,rfl,rfl⟩)
 ·have hc:=nzF hc22
  have hts:onE (u6 h) (zfm h.evs)=(zfm h.evs):=by rw [hc,onE,if_pos rfl]
  rw [hts]
  have hs:=zbd.1 hc
  have lA:=zes hc
  have lO:=lA.os
  have lE:=lA.evs
  have bC:=Nat.le_trans (yos h.evs) lA.evs
  refine rn ?_;refine z8 rfl (za9 (enc:=intK) rfl fun b26=> ?_)
  refine z8 rfl (za9 (enc:=zbc) rfl fun b27=> ?_)
  refine z8 rfl (za9 (enc:=zfj) rfl fun b28=> ?_)
  refine z8 rfl (za9 (enc:=zbc) rfl fun b29=> ?_)
  refine qq rfl rfl (zae (out:=w7 h++ [mpv b26,.v (.slice none 0 0),mpv b27,mpv b28,mpv b29]) rfl (by rfl)) ?_
  refine z8 rfl (y3 rfl fun b6=> ?_)
  refine rn ?_;refine zcn (zfm h.evs).length (fun _=>True) (fun k=>⟨[(33,iv k),(1,pZ b1),(2,pZ b2),(6,pZ b6),(31,za1 (zfm h.evs)),(32,iv ((zfm h.evs).map zac).length)],.box b6 119 (w7 h++ [mpv b26,.v (.slice none 0 0),mpv b27,mpv b28,mpv b29]):: .map b29 (zaq zbc (zbq za1 [])):: .map b28 (zaq zfj (zbq iv [])):: .map b27 (zaq zbc (zbq iv (wlM h.evs 0))):: .map b26 (zaq intK (zbq bv (dnM ((zfm h.evs).take k)))):: .box b2 119 (zs9++ [nmp,.v (.slice none 0 0),nmp,nmp,nmp]):: .box b1 28 (w7 h):: .glob 2 156 y5:: .glob 4 305 y7:: .glob 5 308 y2:: .glob 3 246 u0:: [],[]⟩) trivial es ?_
  intro k lk _
  refine rn ?_;refine z7 rfl (fun hc34=> ?_) (fun hc34=> ?_)
  ·have hk:=za3 hc34
   have rk:=zal (f:=zac) hk
   refine rn ?_;refine z8 rfl (za5 (g:=bv) (enc:=intK) (k:=(zfm h.evs)[k]) (v:=true) rfl rfl rfl ?_)
   refine rn ?_;exact ⟨hk,trivial,by rw [yu8 hk];exact eA⟩
  ·have qk:=za4 hc34 lk
   rw [qk,List.take_length]
   refine rn ?_;refine zcn h.evs.length (fun _=>True) (fun j=>⟨[(44,iv j),(1,pZ b1),(2,pZ b2),(6,pZ b6),(42,zq5 h.evs),(43,iv (h.evs.map evR).length)],.box b6 119 (w7 h++ [mpv b26,.v (.slice none 0 0),mpv b27,mpv b28,mpv b29]):: .map b29 (zaq zbc (zbq za1 [])):: .map b28 (zaq zfj (zbq iv [])):: .map b27 (zaq zbc (zbq iv (wlM h.evs j))):: .map b26 (zaq intK (zbq bv (dnM (zfm h.evs)))):: .box b2 119 (zs9++ [nmp,.v (.slice none 0 0),nmp,nmp,nmp]):: .box b1 28 (w7 h):: .glob 2 156 y5:: .glob 4 305 y7:: .glob 5 308 y2:: .glob 3 246 u0:: [],[]⟩) trivial es ?_
   intro j lj _
   refine rn ?_;refine z7 rfl (fun hc45=> ?_) (fun hc45=> ?_)
   ·have hj:=za3 hc45
    have rj:=zal (f:=evR) hj
    refine rn ?_;refine z8 rfl (y3 rfl fun b10=> ?_)
    refine rn ?_;refine z7 rfl (fun hc51=> ?_) (fun hc51=> ?_)
    ·have hw:(h.evs[j].kind==2)=true:=by simpa using hc51
     refine y4 ?_;refine q1 ?_;refine q1 ?_;refine q1 ?_;refine q1 ?_;refine q1 ?_;refine q1 ?_;refine qq rfl rfl (zdu (out:= [iv h.evs[j].t,iv h.evs[j].o]) rfl (by rfl)) ?_
     refine rn ?_;refine z8 rfl (za5 (g:=iv) (enc:=zbc) (k:=(h.evs[j].t,h.evs[j].o)) (v:=(j:Int)) rfl rfl rfl ?_)
     refine rn ?_;first|exact ⟨hj,trivial,by rw [ykz hj hw];exact eA⟩|exact ⟨hj,trivial,by rw [yk0 hj hw];exact eA⟩
    ·have hw:(h.evs[j].kind==2)=false:=by simpa using hc51
     refine rn ?_;first|exact ⟨hj,trivial,by rw [ykz hj hw];exact eA⟩|exact ⟨hj,trivial,by rw [yk0 hj hw];exact eA⟩
   ·have qj:=za4 hc45 lj
    subst qj
    refine rn ?_;refine ze2 h.os.length (fun k s=>⟨[(64,iv k),(1,pZ b1),(2,pZ b2),(6,pZ b6),(63,iv (h.os.map zfe).length)],.row s.v 1 29 (((upR k).map (zbz h)).map ypc):: .box b6 119 (w7 h++ [mpv b26,.v s.v,mpv b27,mpv b28,mpv b29]):: .map b29 (zaq zbc (zbq za1 [])):: .map b28 (zaq zfj (zbq iv (rkM h k))):: .map b27 (zaq zbc (zbq iv (wlM h.evs h.evs.length))):: .map b26 (zaq intK (zbq bv (dnM (zfm h.evs)))):: .box b2 119 (zs9++ [nmp,.v (.slice none 0 0),nmp,nmp,nmp]):: .box b1 28 (w7 h):: .glob 2 156 y5:: .glob 4 305 y7:: .glob 5 308 y2:: .glob 3 246 u0:: [],[]⟩) ⟨none,0,0⟩ (v8 (zao 1 29) es) ?_
    intro k s lk
    refine rn ?_;refine z7 rfl (fun hc65=> ?_) (fun hc65=> ?_)
    ·have hk:k < h.os.length:=by have q:=oT hc65;rw [oM] at q;omega
     have k0:(0:Int)≤(k:Int):=by omega
     have k1:(k:Int) < h.os.length:=by omega
     have hb:=zs6 hc k0 k1
     refine rn ?_;refine qv rfl rfl (y1 rfl rfl (y0.qt (y0.of_fun (yr0 h la hc k k0 k1)) ((pt8 _ _ _ _ _ _ _ _ _ _).trans (.cons _ ((pt8 _ _ _ _ _ _ _ _ _ _).trans (.cons _ ((pt8 _ _ _ _ _ _ _ _ _ _).trans (.cons _ (pt8 _ _ _ _ _ _ _ _ _ _))))))))) ?_
     refine rn ?_;refine qv rfl rfl (q6 rfl rfl) ?_
     refine z8 rfl (u4 rfl rfl (by simp only [oM,upR,List.length_range,List.length_cons,List.length_nil];omega) rfl (fun s77=> ?_) (fun r hr=>by rw [List.mem_singleton.1 hr];rfl))
     refine j8 s77 fun sv hsv=> ?_
     subst hsv
     refine q1 ?_;first|refine z8 rfl (k7 rfl rfl rfl ?_)|refine z8 rfl (zan rfl rfl rfl rfl (Nat.le_of_ble_eq_true rfl) ?_)
     refine u9 (zai ?_)
     refine w8 (y4 ?_)
     refine q1 ?_;refine q1 ?_;refine q1 ?_;refine qq rfl rfl (zae (out:= [iv k,iv 0,iv 0]) rfl (by rfl)) ?_
     refine z8 rfl (za5 (g:=iv) (enc:=zfj) (k:=((k:Int),(0:Int),(0:Int))) (v:=(0:Int)) rfl rfl rfl ?_)
     refine rn ?_;refine zcn (zbz h k).length (fun _=>True) (fun j=>⟨[(85,iv j),(1,pZ b1),(2,pZ b2),(6,pZ b6),(11,iv k),(63,iv (h.os.map zfe).length),(64,iv k),(83,za1 (zbz h k)),(84,iv ((zbz h k).map zac).length)],.row sv.v 1 29 (((upR k).map (zbz h)).map ypc++ [ypc (zbz h k)]):: .box b6 119 (w7 h++ [mpv b26,.v sv.v,mpv b27,mpv b28,mpv b29]):: .map b29 (zaq zbc (zbq za1 [])):: .map b28 (zaq zfj (zbq iv (zii h k 0 ((zbz h k).take j) (zeo (zt5 k ⟨0,0⟩) 0 (rkM h k))))):: .map b27 (zaq zbc (zbq iv (wlM h.evs h.evs.length))):: .map b26 (zaq intK (zbq bv (dnM (zfm h.evs)))):: .box b2 119 (zs9++ [nmp,.v (.slice none 0 0),nmp,nmp,nmp]):: .box b1 28 (w7 h):: .glob 2 156 y5:: .glob 4 305 y7:: .glob 5 308 y2:: .glob 3 246 u0:: [],[]⟩) trivial es ?_
     intro j lj _
     refine rn ?_;refine z7 rfl (fun hc86=> ?_) (fun hc86=> ?_)
     ·have hj:=za3 hc86
      have rj:=zal (f:=zac) hj
      obtain ⟨i,hi,a1,a2, -⟩:=zqx hs k0 k1 hj
      have ri:=zal (f:=evR) hi
      have hfv:zkz h k (zbz h k)[j]=h.evs[i].v:=by rw [zkz,a1];rfl
      refine rn ?_;refine k9 17 rfl ?_
      refine dq rfl rfl qrA ?_;refine dq rfl rfl qrA ?_;refine dq rfl rfl qrA ?_;refine dq rfl rfl qrA ?_;refine dq rfl rfl qrA ?_;refine dq rfl rfl qrA ?_;refine dq rfl rfl qrA ?_;refine dq rfl rfl qrA ?_;refine dq rfl rfl qrA ?_;refine dq rfl rfl (zdu (out:= [iv (zbz h k)[j],iv k]) rfl (by rfl)) ?_
      refine dq rfl rfl (zjq (zb8 (enc:=zbc) (k:=((zbz h k)[j],(k:Int))) 0 rfl rfl) (show iv _=iv (i:Nat) from congrArg iv (by rw [zwe,a2]))) ?_
      refine dq rfl rfl (zc9 rfl rfl ri) ?_
      refine dq rfl rfl qrA ?_;refine dq rfl rfl qrA ?_;refine dq rfl rfl (zae (out:= [iv k,iv h.evs[i].v.t,iv h.evs[i].v.k]) rfl (by rfl)) ?_
      refine dq rfl rfl qrA ?_;refine dq rfl rfl (zci rfl rfl rfl (by omega)) ?_
      refine rn ?_;refine z8 rfl (za5 (g:=iv) (enc:=zfj) (k:=((k:Int),h.evs[i].v.t,h.evs[i].v.k)) (v:=(j:Int)+1) rfl rfl rfl ?_)
      refine rn ?_;exact ⟨hj,trivial,by rw [yma hj,hfv];exact eA⟩
     ·have qj:=za4 hc86 lj
      rw [qj,List.take_length]
      refine rn ?_;exact ⟨hk,sv,by rw [zro,List.map_append,List.map_append,yt6];exact eA⟩
    ·have qk:k=h.os.length:=by have q:=oF hc65;rw [oM] at q;omega
     refine zn7 ?_;refine zmr ?_;refine zmr ?_;refine zgd ?_;refine zai ?_;refine w8 (y4 ?_)
     refine zka (zor (w7 h++ [mpv b26]) [mpv b27,mpv b28,mpv b29]) ?_
     refine rn ?_;exact ze0 (.cons _ _ _ _ (.agg _ _ _ _ _ _ _ rfl inferInstance inferInstance inferInstance rfl) (.cons _ _ _ _ (.tmp _ _ rfl) .nil)) (.trans (.perm (.cons _ ((pt4 _ _ _ _ _ _).trans (.cons _ (pt4 _ _ _ _ _ _)))) _) (.drop [_,_,_] _ _)) (.inl ⟨hc,b26,b27,b28,b29,by rw [qk],by rw [qk];rfl⟩)
theorem ytp {a:Int} (h:(a !=0)=true):a≠0:=by simpa using h
theorem yum {a:Int} (h:(a !=0)=false):a=0:=by simpa using h
theorem yvs {p:Prop} [Decidable p] (h:(!decide p)=true):¬p:=by simpa using h
theorem yvt {p:Prop} [Decidable p] (h:(!decide p)=false):p:=by simpa using h
theorem ysj {l:List Mat} {q:Mat→Bool} (hc:decide (zbr q 0 l < 0)=false):∃k,∃hk:k < l.length,zbr q 0 l=(k:Int)∧l.find? q=some l[k]:=by
 have:=zge q l 0
 cases hf:l.find? q with
 |none=>rw [hf] at this;simp only at this;rw [this] at hc;exact absurd hc (by decide)
 |some o=>
  rw [hf] at this
  obtain ⟨k,hk,e,eo,_⟩:=this
  exact ⟨k,hk,by rw [e,Nat.zero_add],by rw [eo]⟩
theorem yu2 {l:List Mat} {q:Mat→Bool} (hc:decide (zbr q 0 l < 0)=true):l.find? q=none:=by
 have:=zge q l 0
 cases hf:l.find? q with
 |none=>rfl
 |some o=>
  rw [hf] at this
  obtain ⟨k,hk,e,eo,_⟩:=this
  rw [e] at hc
  have:=oT hc
  omega
theorem yhv {h:Hist} {N:Nat} (la:Lim N h) (p x:Int):(yfa h p x).ts.length≤N:=by
 rw [yfa,yj4]
 cases hf:h.mats.find? (zqp p x) with
 |none=>exact Nat.zero_le _
 |some m=>exact la.matts m (List.mem_of_find?_eq_some hf)
def ylc (h:Hist) (p o:Int):List Bool:=if zjd h p o=0 then zwl h p o else []
theorem yrt (a b:Int):y8 Tryz.prog 145 [iv a,iv b] [] (fun r h'=>h'= []∧r=bv (decide (0≤a∧a < b))):=by
 refine z6 Tryz.func145 rfl rfl rfl ?_
 refine rn ?_;refine w6 (fun hg1_2=> ?_) (fun hg1_2=> ?_)
 ·refine rn ?_;refine rq 0 ?_
  exact ⟨rfl,by rw [←ykb,hg1_2];rfl⟩
 ·refine rn ?_;refine rq 0 ?_
  exact ⟨rfl,by rw [←ykb,hg1_2];rfl⟩
theorem yur (m:Mat) (p x:Int) (b2 b3:Nat) (G:List Res):y8 Tryz.prog 147 [.agg (zd3 m),pZ b2,pZ b3] (.box b2 3 [iv p]:: .box b3 3 [iv x]::G) (fun r h'=>h'=(.box b2 3 [iv p]:: .box b3 3 [iv x]::G)∧r=bv (zqp p x m)):=by
 refine z6 Tryz.func147 rfl rfl rfl ?_
 refine rn ?_;refine z8 rfl (w9 rfl rfl rfl fun b3=> ?_)
 refine rn ?_;refine w6 (fun hg1_4=> ?_) (fun hg1_4=> ?_)
 ·refine rn ?_;refine rq 1 ?_
  exact ⟨rfl,congrArg bv (by unfold zqp;first|rfl|(simp_all;done))⟩
 ·refine rn ?_;refine rq 1 ?_
  exact ⟨rfl,congrArg bv (by unfold zqp;first|rfl|(simp_all;done))⟩
theorem ynq (l:List Mat) (fv:AV) (q:Mat→Bool) (G:List Res) (hp:∀a∈l,y0 Tryz.prog fv [.agg (zd3 a)] G (fun r h'=>h'=G∧r=bv (q a))) (hl:l.length≤4611686018427387904):y8 Tryz.prog 146 [zve l,fv] G (fun r h'=>h'=G∧r= .tup [.agg (zd3 ((l.find? q).getD yph)),bv (l.find? q).isSome]):=by
 refine z6 Tryz.func146 rfl rfl rfl ?_
 refine rn ?_;refine z8 rfl (y3 rfl fun b4=> ?_)
 refine rn ?_;refine qv rfl rfl (y1 rfl rfl (y0.qt (h2:= [_]) (y0.of_fun (zlo l _ q G hp hl)) (zdj [_] _))) ?_
 refine rn ?_;refine z7 rfl (fun hc11=> ?_) (fun hc11=> ?_)
 ·have hn:=yu2 hc11
  refine w8 (y4 ?_)
  refine qq rfl rfl (zhl (fun w O v hr=>Sb.rel (Sb.aggs (bs:=zd3 yph) (by exact ⟨.refl _,.refl _,.refl _,.nil _ _,trivial⟩)) hr) (zm8 rfl rfl)) ?_
  refine rn ?_;exact ze0 (.cons _ _ _ _ (.agg _ _ _ _ _ _ _ rfl inferInstance inferInstance inferInstance rfl) (.cons _ _ _ _ (.tmp _ _ rfl) .nil)) (.drop [_] _ _) ⟨rfl,by rw [hn];rfl⟩
 ·obtain ⟨k,hk,ek,hx⟩:=ysj hc11
  have rk:=zal (f:=zd3) hk
  rw [ek]
  refine rn ?_;exact ze0 (.cons _ _ _ _ (.agg _ _ _ _ _ _ _ rfl inferInstance inferInstance inferInstance rfl) (.cons _ _ _ _ (.tmp _ _ rfl) .nil)) (.drop [_] _ _) ⟨rfl,by rw [hx];rfl⟩
theorem yv2 {h:Hist} {p x:Int} (he:yfc h x≠0):zjd h p x=yfc h x∧zjd h p x≠0:=by
 have:zjd h p x=yfc h x:=by rw [zjd,if_neg he]
 exact ⟨this,by rw [this];exact he⟩
theorem yv1 {h:Hist} {p x:Int} (hi:yfc h x=0) (hp:¬(0≤p∧p < ((h.ps.map zfe).length:Int))):zjd h p x=2∧zjd h p x≠0:=by
 rw [oM] at hp
 have:zjd h p x=2:=by rw [zjd,if_pos hi,if_neg hp]
 exact ⟨this,by rw [this];decide⟩
theorem yv0 {h:Hist} {p x:Int} (hi:yfc h x=0) (hp:0≤p∧p < ((h.ps.map zfe).length:Int)):zjd h p x=0:=by
 rw [oM] at hp
 rw [zjd,if_pos hi,if_pos hp]
theorem yfu {b:Bool} {l:List Int} {q:Int→Bool} {k:Nat} (hk:k < l.length):(b::(l.take (k+1)).map q).map zn5=(b::(l.take k).map q).map zn5++ [[bv (q l[k])]]:=by
 rw [List.take_succ_eq_append_getElem hk,List.map_append,←List.cons_append,List.map_append];rfl
theorem yno (h:Hist) (la:Lim 4611686018427387904 h) (p x:Int):y8 Tryz.prog 98 [.agg (w7 h),iv p,iv x] (.glob 2 156 y5:: .glob 4 305 y7:: .glob 5 308 y2:: .glob 3 246 u0:: []) (fun r h'=>∃s:SV,h'= .row s.v 1 4 ((ylc h p x).map zn5):: .glob 2 156 y5:: .glob 4 305 y7:: .glob 5 308 y2:: .glob 3 246 u0:: []∧r= .tup [.v s.v,iv (zjd h p x)]):=by
 refine z6 Tryz.func98 rfl rfl rfl ?_
 refine rn ?_;refine z8 rfl (w9 rfl rfl rfl fun b3=> ?_)
 refine z8 rfl (w9 rfl rfl rfl fun b4=> ?_)
 refine z8 rfl (w9 rfl rfl rfl fun b5=> ?_)
 refine rn ?_;refine qv rfl rfl (y1 rfl rfl (y0.qt (y0.of_fun (yj7 h la x)) ((pt3 _ _ _ _ _).trans (.cons _ ((pt3 _ _ _ _ _).trans (.cons _ ((pt3 _ _ _ _ _).trans (.cons _ (pt3 _ _ _ _ _))))))))) ?_
 refine rn ?_;refine z7 rfl (fun hc21=> ?_) (fun hc21=> ?_)
 ·have he:=yv2 (p:=p) (ytp hc21)
  refine rn ?_;exact zb2 rfl rfl (.trans (.drop [_,_,_] _ _) (zah 1 4 _)) ⟨⟨none,0,0⟩,by rw [ylc,if_neg (he.2)];rfl,by rw [he.1];rfl⟩
 ·have hi:yfc h x=0:=yum hc21
  refine rn ?_;refine qv rfl rfl (y1 rfl rfl (u5 (yrt p (h.ps.map zfe).length) (Sbs.refl _))) ?_
  refine rn ?_;refine z7 rfl (fun hc25=> ?_) (fun hc25=> ?_)
  ·have he:=yv1 (p:=p) hi (yvs hc25)
   refine rn ?_;exact zb2 rfl rfl (.trans (.drop [_,_,_] _ _) (zah 1 4 _)) ⟨⟨none,0,0⟩,by rw [ylc,if_neg (he.2)];rfl,by rw [he.1];rfl⟩
  ·have he:zjd h p x=0:=yv0 hi (yvt hc25)
   have lA:=zes (zyl.1 he).1
   have lM:=yhv la p x
   have lI:(zbz h x).length≤3000:=by rw [zp6 he];exact znl lA x
   refine rn ?_;refine qv rfl rfl (y1 rfl rfl (y0.of_fun (ynq h.mats _ (zqp p x) _ (fun a _=>y0.qt (y0.of_acall (fs:= []) (cs:= [pZ b4,pZ b5]) (yur a p x b4 b5 (.box b3 28 (w7 h):: .glob 2 156 y5:: .glob 4 305 y7:: .glob 5 308 y2:: .glob 3 246 u0:: []))) (pt1 _ _ _)) la.mats))) ?_
   refine rn ?_;refine z8 rfl (y3 rfl fun b10=> ?_)
   refine rn ?_;refine z8 rfl (zdv (rows:=(((yfa h p x).first::((zbz h x).take 0).map (fun t=>(yfa h p x).ts.contains t)).map zn5)) rfl rfl rfl fun s41=> ?_)
   refine j8 s41 fun sv0 hsv0=> ?_
   subst hsv0
   refine rn ?_;have hii:onE (zg8 h x h.os.length) (zbz h x)=zbz h x:=by rw [show zg8 h x h.os.length=0 from hi];rfl
   rw [hii]
   refine rn ?_;refine ze2 (zbz h x).length (fun k s=>⟨[(44,iv k),(12,.v s.v),(10,pZ b10),(42,za1 (zbz h x)),(43,iv ((zbz h x).map zac).length)],.row s.v 1 4 (((yfa h p x).first::((zbz h x).take k).map (fun t=>(yfa h p x).ts.contains t)).map zn5):: .box b10 109 (zd3 (yfa h p x)):: .box b5 3 [iv x]:: .box b4 3 [iv p]:: .box b3 28 (w7 h):: .glob 2 156 y5:: .glob 4 305 y7:: .glob 5 308 y2:: .glob 3 246 u0:: [],[]⟩) sv0 es ?_
   intro k s lk
   refine rn ?_;refine z7 rfl (fun hc45=> ?_) (fun hc45=> ?_)
   ·have hk:=za3 hc45
    have rk:=zal (f:=zac) hk
    refine rn ?_;refine qv rfl rfl (y1 rfl rfl (u5 (ztr (yfa h p x).ts (zbz h x)[k] lM) (Sbs.refl _))) ?_
    refine qv rfl rfl (q6 rfl rfl) ?_
    refine z8 rfl (u4 rfl rfl (by simp only [oM,List.length_cons,List.length_nil];have:=List.length_take_le k (zbz h x);omega) rfl (fun s54=> ?_) (yhi [(yfa h p x).ts.contains (zbz h x)[k]]))
    refine j8 s54 fun sv hsv=> ?_
    subst hsv
    refine rn ?_;exact ⟨hk,sv,by rw [yfu hk];exact eA⟩
   ·have qk:=za4 hc45 lk
    refine rn ?_;exact zb2 rfl rfl (.trans (.perm ((pt1 _ _ _).trans (.cons _ ((pt1 _ _ _).trans (.cons _ ((pt1 _ _ _).trans (.cons _ (pt1 _ _ _))))))) _) (.drop [_,_,_,_] _ _)) ⟨s,by rw [ylc,if_pos he,zwl,yjj,qk,List.take_length],by rw [he];rfl⟩
theorem yrr (h:Hist) (la:Lim 4611686018427387904 h) (p x:Int):y8 Tryz.prog 98 [.agg (w7 h),iv p,iv x] (.glob 2 156 y5:: .glob 4 305 y7:: .glob 5 308 y2:: .glob 3 246 u0:: []) (fun r h'=>h'= .glob 2 156 y5:: .glob 4 305 y7:: .glob 5 308 y2:: .glob 3 246 u0:: []∧r= .tup [zn4 (ylc h p x),iv (zjd h p x)]):=
 (yno h la p x).ventR (by rintro _ _ ⟨s,rfl,rfl⟩;exact ⟨_,_,zbf [] [_],rfl,rfl⟩)
def zph {α:Type} (d:Nat→Option α):Nat→List α
 |0=> []
 |k+1=>zph d k++(d k).toList
theorem ysf {α:Type} {d:Nat→Option α} {k:Nat} (h:d k=none):zph d (k+1)=zph d k:=by rw [zph,h];simp
theorem yse {α:Type} {d:Nat→Option α} {k:Nat} {a:α} (h:d k=some a):zph d (k+1)=zph d k++ [a]:=by rw [zph,h];rfl
theorem zxn {α:Type} (d:Nat→Option α):∀n,(zph d n).length≤n
 |0=>by simp [zph]
 |n+1=>by
  have:=zxn d n
  rw [zph,List.length_append]
  cases d n <;> simp <;> omega
def chD (l:List Bool) (k:Nat):Option Int:=if 0 < k∧l[k]? ≠l[k - 1]? then some (k:Int) else none
theorem yec (l:List Bool):∀n,zph (chD l) n=ztx l n
 |0=>rfl
 |n+1=>by
  rw [zph,ztx,yec l n,chD]
  split <;> rfl
theorem yov {l:List Bool} {k:Nat} (h:decide ((k:Int) > 0)=false):chD l k=none:=by
 have:=oF h
 rw [chD,if_neg (by omega)]
theorem yvb {l:List Bool} {k:Nat} (h:decide ((k:Int) > 0)=true) (hk:k < l.length) (hb:(l[k] !=l[k - 1]'(by omega))=true):chD l k=some (k:Int):=by
 have:=oT h
 rw [chD,if_pos ⟨by omega,by rw [List.getElem?_eq_getElem hk,List.getElem?_eq_getElem (by omega)];intro e;injection e with e;rw [e] at hb;simp at hb⟩]
theorem you {l:List Bool} {k:Nat} (hk:k < l.length) (hb:(l[k] !=l[k - 1]'(by omega))=false):chD l k=none:=by
 rw [chD,if_neg (by rintro ⟨_,q⟩;apply q;rw [List.getElem?_eq_getElem hk,List.getElem?_eq_getElem (by omega)];congr 1;simpa using hb)]
theorem ykn {k:Nat} (h:decide ((k:Int) > 0)=true):((k:Int) - 1).toNat=k - 1∧0≤(k:Int) - 1:=by
 have:=oT h
 omega
theorem yl7 {l:List Bool} {k:Nat} (h:decide ((k:Int) > 0)=true) (hk:k < l.length):(l.map zn5)[((k:Int) - 1).toNat]? =some (zn5 (l[k - 1]'(by omega))):=by
 rw [(ykn h).1,List.getElem?_map,List.getElem?_eq_getElem (by omega)];rfl
theorem yrj (l:List Bool) (hl:l.length≤1000000) (b1:Nat) (y:AV) (I:Nat→SV→List Res) (x0:SV) (hy:∀k x a,k < l.length→chD l k=some a→y0 Tryz.prog y [iv a] (.box b1 130 [zn4 l]::I k x) (fun r h'=>∃x',r=bv true∧h'= .box b1 130 [zn4 l]::I (k+1) x')) (hs:∀k x,k < l.length→chD l k=none→I (k+1) x=I k x):y8 Tryz.prog 149 [y,pZ b1] (.box b1 130 [zn4 l]::I 0 x0) (fun r h'=>∃x,h'=I l.length x):=by
 refine z6 Tryz.func149 rfl rfl rfl ?_
 refine rn ?_;refine zhz l.length (fun _ _=>True) (fun k (x:SV)=>⟨[(6,iv k),(0,y),(1,pZ b1),(5,iv (l.map zn5).length)],.box b1 130 [zn4 l]::I k x,[]⟩) x0 trivial es ?_
 intro k x lk _
 refine rn ?_;refine z7 rfl (fun hc7=> ?_) (fun hc7=> ?_)
 ·have hk:=za3 hc7
  have rk:=zal (f:=zn5) hk
  refine rn ?_;refine k9 17 rfl ?_
  refine rn ?_;refine zd2 (fun hg3_2=> ?_) (fun hg3_2=> ?_)
  ·refine dq rfl rfl qrA ?_;refine dq rfl rfl qrA ?_;refine dq rfl rfl qrA ?_;refine dq rfl rfl qrA ?_;refine dq rfl rfl qrA ?_;refine dq rfl rfl qrA ?_;refine dq rfl rfl (zci rfl rfl rfl (by omega)) ?_
   refine dq rfl rfl (zav rfl rfl (ykn hg3_2).2 (yl7 hg3_2 hk)) ?_
   refine dq rfl rfl qrA ?_;refine dq rfl rfl (yq4 (c:=l[k] !=l[k - 1]'(by omega)) (zm7 rfl rfl) rfl) ?_
   refine rn ?_;refine zd2 (fun hg3_14=> ?_) (fun hg3_14=> ?_)
   ·refine rn ?_;refine z8 rfl (v7 rfl rfl (hy k x _ hk (yvb hg3_2 hk (by exact hg3_14))) rfl ?_)
    rintro _ _ ⟨x',rfl,rfl⟩
    refine rn ?_;refine z7 rfl (fun hc28=> ?_) (fun hc28=> ?_)
    ·refine rn ?_;exact absurd hc28 (by simp)
    ·refine rn ?_;first|exact ⟨hk,x',trivial,eA⟩|exact ⟨hk,x,trivial,by rw [hs k x hk (you hk (by exact hg3_14))];exact eA⟩|exact ⟨hk,x,trivial,by rw [hs k x hk (yov hg3_2)];exact eA⟩
   ·refine rn ?_;refine zfu rfl ?_;refine rn ?_;first|exact ⟨hk,x',trivial,eA⟩|exact ⟨hk,x,trivial,by rw [hs k x hk (you hk (by exact hg3_14))];exact eA⟩|exact ⟨hk,x,trivial,by rw [hs k x hk (yov hg3_2)];exact eA⟩
  ·refine rn ?_;refine zfu rfl ?_;refine rn ?_;first|exact ⟨hk,x',trivial,eA⟩|exact ⟨hk,x,trivial,by rw [hs k x hk (you hk (by exact hg3_14))];exact eA⟩|exact ⟨hk,x,trivial,by rw [hs k x hk (yov hg3_2)];exact eA⟩
 ·have qk:=za4 hc7 lk
  subst qk
  refine rn ?_;exact zfx .nil (.drop [_] _ _) ⟨x,rfl⟩
theorem yun (l:List Bool) (W:List Res):y8 Tryz.prog 100 [zn4 l] W (fun r h'=>∃b1,h'= .box b1 130 [zn4 l]::W∧r= .fn (.func 149) [] [pZ b1]):=by
 refine z6 Tryz.func100 rfl rfl rfl ?_
 refine rn ?_;refine z8 rfl (w9 rfl rfl rfl fun b1=> ?_)
 refine rn ?_;exact j9 rfl (.refl _ _) ⟨_,rfl,rfl⟩
theorem yo3 (f:FuncId) [Go.Ab.Enters Tryz.prog f] (cs:List AV) (w1:Res) (n:Nat) (hn:n≤1000000) (d:Nat→Option (Int)) (W:List Res) (hseq:∀(y:AV) (I:Nat→SV→List Res) (x0:SV),(∀k x a,k < n→d k=some a→y0 Tryz.prog y [iv a] (w1::I k x) (fun r h'=>∃x',r=bv true∧h'=w1::I (k+1) x'))→(∀k x,k < n→d k=none→I (k+1) x=I k x)→y8 Tryz.prog f (y::cs) (w1::I 0 x0) (fun _ h'=>∃x,h'=I n x)):y8 Tryz.prog 148 [.v (.slice none 0 0),.fn (.func f) [] cs] (w1::W) (fun r h'=>∃s:SV,h'= .row s.v 1 3 ((zph d n).map zac)::W∧r= .v s.v):=by
 refine z6 Tryz.func148 rfl rfl rfl ?_
 refine rn ?_;refine z8 rfl (w9 rfl rfl rfl fun b2=> ?_)
 refine rn ?_;refine zgj (s':=⟨[(6,.fn (.func f) [] cs),(2,pZ b2)],w1:: .box b2 29 [.v (⟨none,0,0⟩:SV).v]:: .row (⟨none,0,0⟩:SV).v 1 3 ((zph d 0).map zac)::W,[]⟩) (v8 (v8 (zao 1 3) (zaz ((pt2 _ _ _ _).trans (.cons _ (pt1 _ _ _))))) es) ?_
 refine zot (fun pend h''=>pend=none∧∃s:SV,h''= .box b2 29 [.v s.v]:: .row s.v 1 3 ((zph d n).map zac)::W) rfl (fun fn l q lp hlp=> ?_) (fun q h'' hK=> ?_) (fun q h'' c hK=> ?_)
 ·suffices hy:∀k (s:SV) a,k < n→d k=some a→y0 Tryz.prog (yv l) [iv a] (w1::lp .ready none:: .defs q:: .box b2 29 [.v s.v]:: .row s.v 1 3 ((zph d k).map zac)::W) (fun r h'=>∃s':SV,r=bv true∧h'=w1::lp .ready none:: .defs q:: .box b2 29 [.v s'.v]:: .row s'.v 1 3 ((zph d (k+1)).map zac)::W) by
   refine y8.mono (y8.perm (pt2 _ _ _ _) (hseq (yv l) (fun k (s:SV)=>lp .ready none:: .defs q:: .box b2 29 [.v s.v]:: .row s.v 1 3 ((zph d k).map zac)::W) ⟨none,0,0⟩ hy (fun k s hk hn=>by rw [ysf hn]))) ?_
   rintro _ _ ⟨s,rfl⟩
   exact ⟨none,.ready,_,.refl _,by simp,rfl,s,rfl⟩
  intro k s a hk hd
  refine y0.perm (pt1 _ _ _) (y0.ventE ?_)
  refine zey hlp rfl rfl ?_
  refine rn ?_;refine ⟨[(5,iv a),(2,pZ b2)],w1:: .defs q:: .box b2 29 [.v s.v]:: .row s.v 1 3 ((zph d k).map zac)::W,es,?_⟩
  refine rn ?_;refine qv rfl rfl (q6 rfl rfl) ?_
  refine z8 rfl (u4 rfl rfl (by simp only [oM,List.length_cons,List.length_nil];have:=zxn d k;omega) rfl (fun s11=> ?_) (zgt [a]))
  refine j8 s11 fun sv hsv=> ?_
  subst hsv
  refine rn ?_;exact zem (.refl _) ⟨_,_,.perm (pt1 _ _ _) _,sv,rfl,by rw [yse hd,List.map_append];rfl⟩
 ·obtain ⟨_,s,rfl⟩:=hK
  refine rn ?_;exact zi1 (.refl _) (.cons _ _ _ _ (.tmp _ _ rfl) .nil) (.drop1 _ _ _) ⟨s,rfl,rfl⟩
 ·obtain ⟨hc,_⟩:=hK
  exact absurd hc (by simp)
theorem yix (f:FuncId) [Go.Ab.Enters Tryz.prog f] (cs:List AV) (w1:Res) (n:Nat) (hn:n≤1000000) (d:Nat→Option (Int)) (W:List Res) (hseq:∀(y:AV) (I:Nat→SV→List Res) (x0:SV),(∀k x a,k < n→d k=some a→y0 Tryz.prog y [iv a] (w1::I k x) (fun r h'=>∃x',r=bv true∧h'=w1::I (k+1) x'))→(∀k x,k < n→d k=none→I (k+1) x=I k x)→y8 Tryz.prog f (y::cs) (w1::I 0 x0) (fun _ h'=>∃x,h'=I n x)):y8 Tryz.prog 99 [.fn (.func f) [] cs] (w1::W) (fun r h'=>∃s:SV,h'= .row s.v 1 3 ((zph d n).map zac)::W∧r= .v s.v):=by
 refine z6 Tryz.func99 rfl rfl rfl ?_
 refine rn ?_;refine z8 rfl (v7 rfl rfl (y0.of_fun (yo3 f cs w1 n hn d W hseq)) rfl ?_)
 rintro _ _ ⟨s,rfl,rfl⟩
 refine rn ?_;exact j9 rfl (.refl _ _) ⟨s,rfl,rfl⟩
theorem ylb {h:Hist} {N:Nat} (la:Lim N h) {p x:Int} (he:zjd h p x=0):(zwl h p x).length≤1000000:=by
 have lA:=zes (zyl.1 he).1
 have:=znl lA x
 rw [zms,zp6 he];omega
theorem yns (h:Hist) (la:Lim 4611686018427387904 h) (p x:Int):y8 Tryz.prog 42 [.agg (w7 h),iv p,iv x] (.glob 2 156 y5:: .glob 4 305 y7:: .glob 5 308 y2:: .glob 3 246 u0:: []) (fun r h'=>∃s:SV,h'= .row s.v 1 3 ((chL h p x).map zac):: .glob 2 156 y5:: .glob 4 305 y7:: .glob 5 308 y2:: .glob 3 246 u0:: []∧r= .tup [.v s.v,iv (zjd h p x)]):=by
 refine z6 Tryz.func42 rfl rfl rfl ?_
 refine rn ?_;refine z8 rfl (w9 rfl rfl rfl fun b3=> ?_)
 refine rn ?_;refine qv rfl rfl (y1 rfl rfl (y0.qt (y0.of_fun (yrr h la p x)) ((pt1 _ _ _).trans (.cons _ ((pt1 _ _ _).trans (.cons _ ((pt1 _ _ _).trans (.cons _ (pt1 _ _ _))))))))) ?_
 refine rn ?_;refine z7 rfl (fun hc18=> ?_) (fun hc18=> ?_)
 ·have he:=ywp (h:=h) (p:=p) (x:=x) (r:=0) (ytp hc18)
  refine rn ?_;exact zb2 rfl rfl (.trans (.drop [_] _ _) (zah 1 3 _)) ⟨⟨none,0,0⟩,by rw [he.2.2];rfl,rfl⟩
 ·have he:zjd h p x=0:=yum hc18
  have hl:ylc h p x=zwl h p x:=by rw [ylc,if_pos he]
  have lt:=ylb la he
  rw [hl]
  refine rn ?_;refine z8 rfl (v7 rfl rfl (y0.of_fun (yun (zwl h p x) _)) rfl ?_)
  rintro _ _ ⟨b1,rfl,rfl⟩
  refine z8 rfl (v7 rfl rfl (y0.of_fun (yix 149 [pZ b1] _ (zwl h p x).length lt (chD (zwl h p x)) _ (fun y I x0 hy hs=>yrj (zwl h p x) lt b1 y I x0 hy hs))) rfl ?_)
  rintro _ _ ⟨s,rfl,rfl⟩
  refine rn ?_;exact zb2 rfl rfl (.trans (.perm (pt1 _ _ _) _) (.drop [_] _ _)) ⟨s,by rw [chL,if_pos he,ypm,yec],by rw [he];rfl⟩
theorem yru (h:Hist) (la:Lim 4611686018427387904 h) (p x:Int):y8 Tryz.prog 42 [.agg (w7 h),iv p,iv x] (.glob 2 156 y5:: .glob 4 305 y7:: .glob 5 308 y2:: .glob 3 246 u0:: []) (fun r h'=>h'= .glob 2 156 y5:: .glob 4 305 y7:: .glob 5 308 y2:: .glob 3 246 u0:: []∧r= .tup [za1 (chL h p x),iv (zjd h p x)]):=
 (yns h la p x).ventR (by rintro _ _ ⟨s,rfl,rfl⟩;exact ⟨_,_,zbf [] [_],rfl,rfl⟩)
def ev0:Ev:=⟨0,0,0,0,0,⟨0,0⟩,0,[]⟩
def evA (h:Hist) (n:Int):Ev:=if zg8 h n h.evs.length=0 then evD h.evs n else ev0
def yjn (h:Hist) (n:Int):List Seen:=if ze3 h n=0 then zat h (evD h.evs n) n.toNat else []
theorem ytv {p:Prop} (c d:Prop) [Decidable c] [Decidable d] (x:c→d→p) (y:c→¬d→p) (z:¬c→p):p:=if h:c then (if k:d then x h k else y h k) else z h
theorem zzw {h:Hist} {n:Int} (he:zg8 h n h.evs.length=0):∃a:Nat,∃ha:a < h.evs.length,n=a∧evA h n=h.evs[a]∧u6 h=0:=by
 obtain ⟨hs,n0,n1⟩:=yo2 he
 obtain ⟨a,rfl⟩:=Int.eq_ofNat_of_zero_le n0
 exact ⟨a,by omega,rfl,by rw [evA,if_pos he,zxu (by omega)],zbd.2 hs⟩
theorem ysu {h:Hist} {n:Int} (he:zg8 h n h.evs.length≠0):evA h n=ev0:=by rw [evA,if_neg he]
theorem yvl {h:Hist} {a:Nat} (ha:a < h.evs.length) (hc:u6 h=0) (h4:h.evs[a].kind=4):ze3 h a=0∧yjn h a=zat h h.evs[a] a:=by
 have:=(yv4 hc ha h4).1
 exact ⟨this,by rw [yjn,this,if_pos rfl,zxu ha,Int.toNat_natCast]⟩
theorem ypx {h:Hist} {n:Int} (hc:u6 h=0) (hn:¬(0≤n∧n < h.evs.length∧(evD h.evs n).kind=4)):ze3 h n=2∧yjn h n= []:=by
 have:=(yv5 hc hn).1
 exact ⟨this,by rw [yjn,this];rfl⟩
theorem ytl {h:Hist} {n:Int} (he:zg8 h n h.evs.length≠0):ze3 h n=zg8 h n h.evs.length∧yjn h n= []:=by
 by_cases hc:u6 h=0
 ·have hn:¬(0≤n∧n < (h.evs.length:Int)):=fun q=>he (zv9 hc q)
  obtain ⟨a,b⟩:=ypx (h:=h) (n:=n) hc (fun q=>hn ⟨q.1,q.2.1⟩)
  exact ⟨by rw [a,zz5 hc hn],b⟩
 ·have:=(yv6 (n:=n) hc).1
  exact ⟨by rw [this,ask_c hc],by rw [yjn,this,if_neg hc]⟩
theorem ytq {h:Hist} {n:Int} (he:zg8 h n h.evs.length=0):evA h n=evD h.evs n:=by rw [evA,if_pos he]
theorem yht (h:Hist) (la:Lim 4611686018427387904 h) (n:Int):y8 Tryz.prog 97 [.agg (w7 h),iv n] (.glob 2 156 y5:: .glob 4 305 y7:: .glob 5 308 y2:: .glob 3 246 u0:: []) (fun r h'=>h'= .glob 2 156 y5:: .glob 4 305 y7:: .glob 5 308 y2:: .glob 3 246 u0:: []∧r= .tup [.agg (evR (evA h n)),iv (zg8 h n h.evs.length)]):=by
 refine z6 Tryz.func97 rfl rfl rfl ?_
 refine rn ?_;refine z8 rfl (w9 rfl rfl rfl fun b2=> ?_)
 refine z8 rfl (y3 rfl fun b4=> ?_)
 refine rn ?_;refine qv rfl rfl (y1 rfl rfl (y0.qt (y0.of_fun (yj9 h la)) ((pt2 _ _ _ _).trans (.cons _ ((pt2 _ _ _ _).trans (.cons _ ((pt2 _ _ _ _).trans (.cons _ (pt2 _ _ _ _))))))))) ?_
 refine rn ?_;refine z7 rfl (fun hc14=> ?_) (fun hc14=> ?_)
 ·have he:zg8 h n h.evs.length=u6 h:=ask_c (ytp hc14)
  have hn:zg8 h n h.evs.length≠0:=by rw [he];exact ytp hc14
  refine w8 (y4 ?_)
  refine qq rfl rfl (zhl (fun w O v hr=>Sb.rel (Sb.aggs (bs:=evR ev0) (by exact ⟨.refl _,.refl _,.refl _,.refl _,.refl _,.refl _,.refl _,.refl _,.nil _ _,trivial⟩)) hr) (zae (out:= [iv 0,iv 0,iv 0,iv 0,iv 0,iv 0,iv 0,iv 0,.v (.slice none 0 0)]) rfl (by rfl))) ?_
  refine rn ?_;exact ze0 (.cons _ _ _ _ (.agg _ _ _ _ _ _ _ rfl inferInstance inferInstance inferInstance rfl) (.cons _ _ _ _ (.tmp _ _ rfl) .nil)) (.drop [_,_] _ _) ⟨rfl,by rw [ysu hn,he];rfl⟩
 ·have hc:=yum hc14
  refine rn ?_;refine qv rfl rfl (y1 rfl rfl (u5 (yrt n (h.evs.map evR).length) (Sbs.refl _))) ?_
  refine rn ?_;refine z7 rfl (fun hc22=> ?_) (fun hc22=> ?_)
  ·have he:zg8 h n h.evs.length=2:=zz5 hc (by have q:=yvs hc22;rw [oM] at q;exact q)
   have hn:zg8 h n h.evs.length≠0:=by rw [he];decide
   refine w8 (y4 ?_)
   refine qq rfl rfl (zhl (fun w O v hr=>Sb.rel (Sb.aggs (bs:=evR ev0) (by exact ⟨.refl _,.refl _,.refl _,.refl _,.refl _,.refl _,.refl _,.refl _,.nil _ _,trivial⟩)) hr) (zae (out:= [iv 0,iv 0,iv 0,iv 0,iv 0,iv 0,iv 0,iv 0,.v (.slice none 0 0)]) rfl (by rfl))) ?_
   refine rn ?_;exact ze0 (.cons _ _ _ _ (.agg _ _ _ _ _ _ _ rfl inferInstance inferInstance inferInstance rfl) (.cons _ _ _ _ (.tmp _ _ rfl) .nil)) (.drop [_,_] _ _) ⟨rfl,by rw [ysu hn,he];rfl⟩
  ·have q:=yvt hc22
   rw [oM] at q
   have he:=zv9 hc q
   obtain ⟨a,ha,rfl,ea,_⟩:=zzw he
   have ra:=zal (f:=evR) ha
   refine za2 ?_;refine zai ?_;refine w8 (y4 ?_)
   refine q1 ?_;refine q1 ?_;refine q1 ?_;refine qq rfl rfl (zav rfl rfl q.1 ra) ?_
   refine rn ?_;exact ze0 (.cons _ _ _ _ (.agg _ _ _ _ _ _ _ rfl inferInstance inferInstance inferInstance rfl) (.cons _ _ _ _ (.tmp _ _ rfl) .nil)) (.drop [_,_] _ _) ⟨rfl,by rw [ea,he];rfl⟩
theorem ynp (h:Hist) (la:Lim 4611686018427387904 h) (n:Int):y8 Tryz.prog 41 [.agg (w7 h),iv n] (.glob 2 156 y5:: .glob 4 305 y7:: .glob 5 308 y2:: .glob 3 246 u0:: []) (fun r h'=>∃s:SV,h'= .row s.v 3 70 ((yjn h n).map zam):: .glob 2 156 y5:: .glob 4 305 y7:: .glob 5 308 y2:: .glob 3 246 u0:: []∧r= .tup [.v s.v,iv (ze3 h n)]):=by
 refine z6 Tryz.func41 rfl rfl rfl ?_
 refine rn ?_;refine z8 rfl (w9 rfl rfl rfl fun b2=> ?_)
 refine rn ?_;refine zj9 ?_;refine rn ?_;refine qv rfl rfl (y1 rfl rfl (y0.qt (y0.of_fun (yht h la n)) ((pt1 _ _ _).trans (.cons _ ((pt1 _ _ _).trans (.cons _ ((pt1 _ _ _).trans (.cons _ (pt1 _ _ _))))))))) ?_
 refine rn ?_;refine z8 rfl (y3 rfl fun b6=> ?_)
 first|refine z8 rfl (k7 rfl rfl rfl ?_)|refine z8 rfl (zan rfl rfl rfl rfl (Nat.le_of_ble_eq_true rfl) ?_)
 refine q1 ?_;refine u9 (zai ?_)
 refine w8 ?_;refine w8 (y4 ?_)
 refine q1 ?_;refine ytv (zg8 h n h.evs.length=0) ((evA h n).kind=4) (fun hc h4=>qq rfl rfl (zcw (c:=true) rfl rfl (congrArg some (by rw [hc];rfl))) ?_) (fun hc h4=>qq rfl rfl (zcw (c:=true) rfl rfl (congrArg some (by rw [hc];rfl))) ?_) (fun hc=>qq rfl rfl (zcw (c:=false) rfl rfl (congrArg some (by simpa using hc))) ?_)
 ·refine q1 ?_;refine q1 ?_;refine q1 ?_;refine qq rfl rfl (by first|exact zcw (c:=false) rfl rfl (congrArg some (by rw [h4];rfl))|exact zcw (c:=true) rfl rfl (congrArg some (by simpa using h4))) ?_
  refine rn ?_;refine z7 rfl (fun hc29=> ?_) (fun hc29=> ?_)
  ·first|cases hc29|exact absurd hc29 (by decide)|(exfalso;simp_all;done)
  ·refine za2 ?_;refine zai ?_;refine w8 ?_;refine w8 (y4 ?_)
   refine q1 ?_;refine qq rfl rfl (by first|exact zcw (c:=false) rfl rfl (congrArg some (by rw [hc];rfl))|exact zcw (c:=true) rfl rfl rfl|exact zcw (c:=true) rfl rfl (congrArg some (by simpa using hc))) ?_
   refine rn ?_;refine z7 rfl (fun hc31=> ?_) (fun hc31=> ?_)
   ·first|cases hc31|exact absurd hc31 (by decide)|(exfalso;simp_all;done)
   ·refine za2 ?_;refine rn0 ?_;refine w8 ?_;obtain ⟨a,ha,rfl,ea,hk0⟩:=zzw hc
    rw [ea] at h4
    rw [ea]
    obtain ⟨hse,hsl⟩:=yvl ha hk0 h4
    have lA:=zes hk0
    have be:=lA.evs
    have bs:=lA.scans h.evs[a] (List.getElem_mem ha)
    refine rn ?_;refine z8 rfl (za9 (enc:=intK) rfl fun rm=> ?_)
    refine rn ?_;refine zcn h.evs.length (fun k=>k≤a) (fun k=>⟨[(37,iv k),(1,iv (a:Int)),(2,pZ b2),(6,pZ b6),(8,mpv rm),(35,zq5 h.evs),(36,iv (h.evs.map evR).length)],.map rm (zaq intK (zbq yan (zz9 (h.evs.take k) h.evs[a].t))):: .box b6 60 (evR h.evs[a]):: .box b2 28 (w7 h):: .glob 2 156 y5:: .glob 4 305 y7:: .glob 5 308 y2:: .glob 3 246 u0:: [],[]⟩) (Nat.zero_le _) es ?_
    intro k lk ka
    refine rn ?_;refine z7 rfl (fun hc38=> ?_) (fun hc38=> ?_)
    ·have hk:=za3 hc38
     have rk:=zal (f:=evR) hk
     refine rn ?_;refine z8 rfl (y3 rfl fun b10=> ?_)
     refine rn ?_;refine z7 rfl (fun hc42=> ?_) (fun hc42=> ?_)
     ·obtain rfl:a=k:=by have:=eq_of_beq hc42;omega
      refine rn ?_;refine zcn h.evs[a].scan.length (fun _=>True) (fun j=>⟨[(66,iv j),(2,pZ b2),(8,mpv rm),(64,zfg h.evs[a].scan),(65,iv (h.evs[a].scan.map zam).length)],.map rm (zaq intK (zbq yan (ylr (zz9 (h.evs.take a) h.evs[a].t) (h.evs[a].scan.take j)))):: .box b6 60 (evR h.evs[a]):: .box b2 28 (w7 h):: .glob 2 156 y5:: .glob 4 305 y7:: .glob 5 308 y2:: .glob 3 246 u0:: [],[]⟩) trivial eA ?_
      intro j lj _
      refine rn ?_;refine z7 rfl (fun hc67=> ?_) (fun hc67=> ?_)
      ·have hj:=za3 hc67
       have rj:=zal (f:=zam) hj
       refine rn ?_;refine z8 rfl (y3 rfl fun b12=> ?_)
       refine rn ?_;refine z8 rfl (za5 (g:=yan) (enc:=intK) (k:=h.evs[a].scan[j].o) (v:=h.evs[a].scan[j].v) rfl rfl rfl ?_)
       refine rn ?_;exact ⟨hj,trivial,by rw [yp4 hj];exact eA⟩
      ·have qj:=za4 hc67 lj
       subst qj
       rw [List.take_length]
       refine rn ?_;refine ze2 h.os.length (fun k s=>⟨[(79,iv k),(13,.v s.v),(8,mpv rm),(78,iv (h.os.map zfe).length)],.row s.v 3 70 (((upR k).map fun x:Int=>(⟨x,ye6 h.evs h.evs[a].t a h.evs[a].scan x⟩:Seen)).map zam):: .map rm (zaq intK (zbq yan (ylr (zz9 (h.evs.take a) h.evs[a].t) h.evs[a].scan))):: .box b6 60 (evR h.evs[a]):: .box b2 28 (w7 h):: .glob 2 156 y5:: .glob 4 305 y7:: .glob 5 308 y2:: .glob 3 246 u0:: [],[]⟩) ⟨none,0,0⟩ (v8 (zao 3 70) es) ?_
       intro k s lk
       refine rn ?_;refine z7 rfl (fun hc80=> ?_) (fun hc80=> ?_)
       ·have hk:k < h.os.length:=by have q:=oT hc80;rw [oM] at q;omega
        have bo:=lA.os
        have hv:=ym2 (l:=h.evs) (t:=h.evs[a].t) (x:=(k:Int)) h.evs[a].scan (Nat.le_of_lt ha)
        refine za2 ?_;refine zai ?_;refine w8 ?_;refine zcz ?_;refine w8 (y4 ?_)
        refine q1 ?_;refine q1 ?_;refine u9 (zai ?_)
        refine w8 (y4 ?_)
        refine q1 ?_;refine qq rfl rfl (zae (out:= [iv (k:Int),iv 0,iv 0]) rfl (by rfl)) ?_
        refine z8 rfl (y3 rfl fun b15=> ?_)
        first|refine z8 rfl (k7 rfl rfl rfl ?_)|refine z8 rfl (zan rfl rfl rfl rfl (Nat.le_of_ble_eq_true rfl) ?_)
        refine u9 (zai ?_)
        refine w8 ?_;refine w8 (y4 ?_)
        refine q1 ?_;refine q1 ?_;refine qq rfl rfl (zb8 (g:=yan) (enc:=intK) (k:=(k:Int)) (⟨0,0⟩:Ver) rfl rfl) ?_
        rw [hv]
        generalize hV:ye6 h.evs h.evs[a].t a h.evs[a].scan (k:Int)=V
        refine z8 rfl (y3 rfl fun b16=> ?_)
        first|refine z8 rfl (k7 rfl rfl rfl ?_)|refine z8 rfl (zan rfl rfl rfl rfl (Nat.le_of_ble_eq_true rfl) ?_)
        refine u9 (zai ?_)
        refine w8 (y4 ?_)
        refine q1 ?_;refine qq rfl rfl (zae (out:= [iv 0,iv 0]) rfl (by rfl)) ?_
        refine rn ?_;refine z7 rfl (fun hc89=> ?_) (fun hc89=> ?_)
        ·refine rn ?_;refine qv rfl rfl (q6 rfl rfl) ?_
         refine z8 rfl (u4 rfl rfl (by simp only [oM,upR,List.length_range,List.length_cons,List.length_nil];omega) rfl (fun s95=> ?_) (by first|exact zh8 [(⟨(k:Int),V⟩:Seen)]|exact zh8 [(⟨(k:Int),⟨0,0⟩⟩:Seen)]))
         refine j8 s95 fun sv hsv=> ?_
         subst hsv
         refine rn ?_;exact ⟨hk,sv,by rw [zro,List.map_append,List.map_append,List.map_singleton,List.map_singleton,hV];exact eA⟩
        ·have hv0:V=⟨0,0⟩:=eq_of_beq (by rw [←zck];simpa using hc89)
         subst hv0
         refine rn ?_;refine qv rfl rfl (q6 rfl rfl) ?_
         refine z8 rfl (u4 rfl rfl (by simp only [oM,upR,List.length_range,List.length_cons,List.length_nil];omega) rfl (fun s95=> ?_) (by first|exact zh8 [(⟨(k:Int),V⟩:Seen)]|exact zh8 [(⟨(k:Int),⟨0,0⟩⟩:Seen)]))
         refine j8 s95 fun sv hsv=> ?_
         subst hsv
         refine rn ?_;exact ⟨hk,sv,by rw [zro,List.map_append,List.map_append,List.map_singleton,List.map_singleton,hV];exact eA⟩
       ·have qk:k=h.os.length:=by have q:=oF hc80;rw [oM] at q;omega
        subst qk
        refine rn ?_;refine ⟨fun l h=>(by cases h),?_⟩
        exact zb2 rfl rfl (.trans (.perm ((pt1 _ _ _).trans (.cons _ ((pt1 _ _ _).trans (.cons _ (pt1 _ _ _))))) _) (.drop [_,_,_] _ _)) ⟨s,by rw [hsl];rfl,by rw [hse];rfl⟩
     ·have hka:k < a:=by have:=beq_eq_false_iff_ne.1 hc42;omega
      refine rn ?_;refine w6 (fun hg11_5=> ?_) (fun hg11_5=> ?_)
      ·refine rn ?_;refine z7 rfl (fun hc46=> ?_) (fun hc46=> ?_)
       ·have hw:(h.evs[k].t==h.evs[a].t && h.evs[k].kind==2)=true:=by first|(rw [hg11_5];exact hc46)|(rw [Bool.and_eq_true];exact ⟨hg11_5,hc46⟩)
        refine rn ?_;refine z8 rfl (za5 (g:=yan) (enc:=intK) (k:=h.evs[k].o) (v:=h.evs[k].v) rfl rfl rfl ?_)
        refine rn ?_;first|exact ⟨hk,hka,by rw [ycd hk hw];exact eA⟩|exact ⟨hk,hka,by rw [yce hk hw];exact eA⟩
       ·have hw:(h.evs[k].t==h.evs[a].t && h.evs[k].kind==2)=false:=by first|(rw [hg11_5,hc46];rfl)|(rw [hg11_5];rfl)
        refine rn ?_;first|exact ⟨hk,hka,by rw [ycd hk hw];exact eA⟩|exact ⟨hk,hka,by rw [yce hk hw];exact eA⟩
      ·refine rn ?_;refine z7 rfl (fun hc46=> ?_) (fun hc46=> ?_)
       ·first|cases hc46|exact absurd hc46 (by decide)|(exfalso;simp_all;done)
       ·have hw:(h.evs[k].t==h.evs[a].t && h.evs[k].kind==2)=false:=by first|(rw [hg11_5,hc46];rfl)|(rw [hg11_5];rfl)
        refine rn ?_;first|exact ⟨hk,hka,by rw [ycd hk hw];exact eA⟩|exact ⟨hk,hka,by rw [yce hk hw];exact eA⟩
    ·exfalso;have qk:=za4 hc38 lk;omega
 ·refine q1 ?_;refine q1 ?_;refine q1 ?_;refine qq rfl rfl (by first|exact zcw (c:=false) rfl rfl (congrArg some (by rw [h4];rfl))|exact zcw (c:=true) rfl rfl (congrArg some (by simpa using h4))) ?_
  refine rn ?_;refine z7 rfl (fun hc29=> ?_) (fun hc29=> ?_)
  ·refine y4 ?_;refine q1 ?_;refine u9 (zai ?_)
   refine w8 ?_;refine w8 (y4 ?_)
   refine q1 ?_;refine qq rfl rfl (by first|exact zcw (c:=false) rfl rfl (congrArg some (by rw [hc];rfl))|exact zcw (c:=true) rfl rfl rfl|exact zcw (c:=true) rfl rfl (congrArg some (by simpa using hc))) ?_
   refine rn ?_;refine z7 rfl (fun hc31=> ?_) (fun hc31=> ?_)
   ·refine rn ?_;refine ⟨fun l h=>(by cases h),?_⟩
    exact zb2 rfl rfl (.trans (.drop [_,_] _ _) (zah 3 70 _)) ⟨⟨none,0,0⟩,by first|(rw [(ytl hc).2];rfl)|(obtain ⟨a,ha,rfl,ea,hk0⟩:=zzw hc;rw [(ypx hk0 (by rw [←ytq hc];exact fun q=>h4 q.2.2)).2];rfl),by first|(rw [(ytl hc).1];rfl)|(obtain ⟨a,ha,rfl,ea,hk0⟩:=zzw hc;rw [(ypx hk0 (by rw [←ytq hc];exact fun q=>h4 q.2.2)).1];rfl)⟩
   ·first|cases hc31|exact absurd hc31 (by decide)|(exfalso;simp_all;done)
  ·first|cases hc29|exact absurd hc29 (by decide)|(exfalso;simp_all;done)
 ·refine rn ?_;refine z7 rfl (fun hc29=> ?_) (fun hc29=> ?_)
  ·first|cases hc29|exact absurd hc29 (by decide)|(exfalso;simp_all;done)
  ·refine za2 ?_;refine zai ?_;refine w8 ?_;refine w8 (y4 ?_)
   refine q1 ?_;refine qq rfl rfl (by first|exact zcw (c:=false) rfl rfl (congrArg some (by rw [hc];rfl))|exact zcw (c:=true) rfl rfl rfl|exact zcw (c:=true) rfl rfl (congrArg some (by simpa using hc))) ?_
   refine rn ?_;refine z7 rfl (fun hc31=> ?_) (fun hc31=> ?_)
   ·refine rn ?_;refine ⟨fun l h=>(by cases h),?_⟩
    exact zb2 rfl rfl (.trans (.drop [_,_] _ _) (zah 3 70 _)) ⟨⟨none,0,0⟩,by first|(rw [(ytl hc).2];rfl)|(obtain ⟨a,ha,rfl,ea,hk0⟩:=zzw hc;rw [(ypx hk0 (by rw [←ytq hc];exact fun q=>h4 q.2.2)).2];rfl),by first|(rw [(ytl hc).1];rfl)|(obtain ⟨a,ha,rfl,ea,hk0⟩:=zzw hc;rw [(ypx hk0 (by rw [←ytq hc];exact fun q=>h4 q.2.2)).1];rfl)⟩
   ·first|cases hc31|exact absurd hc31 (by decide)|(exfalso;simp_all;done)
theorem yrs (h:Hist) (la:Lim 4611686018427387904 h) (n:Int):y8 Tryz.prog 41 [.agg (w7 h),iv n] (.glob 2 156 y5:: .glob 4 305 y7:: .glob 5 308 y2:: .glob 3 246 u0:: []) (fun r h'=>h'= .glob 2 156 y5:: .glob 4 305 y7:: .glob 5 308 y2:: .glob 3 246 u0:: []∧r= .tup [zfg (yjn h n),iv (ze3 h n)]):=
 (ynp h la n).ventR (by rintro _ _ ⟨s,rfl,rfl⟩;exact ⟨_,_,zbf [] [_],rfl,rfl⟩)
def zqd (p:Int×List Int):List AV:= [iv p.1,za1 p.2]
abbrev ziz (l:List (Int×List Int)):AV:= .list false 2 (l.map zqd)
theorem yrd (l:List (Int×List Int)):∀r∈l.map zqd,r.all AV.one=true:=by
 intro r hr;obtain ⟨a,_,rfl⟩:=List.mem_map.1 hr;rfl
theorem yko {h:Hist} (hc:u6 h=0) (p x:Int):(chL h p x).length≤4000:=by
 rw [chL];split
 ·rename_i he
  have h1:=(zyl.1 he).2.1
  rw [ypm]
  refine Nat.le_trans (zx0 _ _) ?_
  have:=zs6 hc h1.1 h1.2
  rw [zms];omega
 ·exact Nat.zero_le _
theorem zq4 {α:Type} (p:α→Bool):∀(l:List α) (i:Nat), -1≤zbr p i l∧zbr p i l < (i+l.length:Nat)+1
 | [],i=>by simp only [zbr,List.length_nil];omega
 |a::r,i=>by
  have:=zq4 p r (i+1)
  simp only [zbr,List.length_cons]
  split <;> omega
theorem yqi {h:Hist} (hc:u6 h=0) {x:Int} (h0:0≤x) (h1:x < h.os.length) {v:Ver} {r:Int} (hr:zlx h x v=some r):0≤r∧r≤4000:=by
 have hb:=zs6 hc h0 h1
 rw [zlx,zqe (zbd.1 hc) v h0 h1 _ (Nat.le_refl _) h1] at hr
 split at hr
 ·injection hr with hr;omega
 ·split at hr
  ·injection hr with hr
   have:zoh h x v < ((0+(zbz h x).length:Nat):Int)+1:=by rw [zoh];exact (zq4 _ _ _).2
   omega
  ·cases hr
theorem zy8 {h:Hist} {e:Ev} (hn:(!(zlx h e.o e.v).isSome)=true):zev h e= []:=by
 rw [zev];cases hq:zlx h e.o e.v with
 |none=>rfl
 |some r=>rw [hq] at hn;cases hn
theorem zy7 {h:Hist} {e:Ev} {r:Int} (hr:zlx h e.o e.v=some r):zev h e= [(e.o,[r+1])]:=by rw [zev,hr]
theorem zxs {α:Type} (p:α→Bool):∀(l:List α) (i:Nat),zbr p i l= -1∨(i:Int)≤zbr p i l
 | [],i=>by simp [zbr]
 |a::r,i=>by
  have:=zxs p r (i+1)
  simp only [zbr]
  split
  ·right;omega
  ·omega
theorem yit {l:List Int} {q:Int→Bool} {i n:Nat} (h:zbr q i l=((i+n:Nat):Int)):l.dropWhile (fun k=> !q k)=l.drop n:=by
 induction l generalizing i n with
 |nil=>simp [zbr] at h;omega
 |cons a r ih=>
  rw [zbr] at h
  by_cases hq:q a=true
  ·rw [if_pos hq] at h
   have:n=0:=by omega
   subst this
   simp [hq]
  ·rw [if_neg hq] at h
   have hf:q a=false:=by simpa using hq
   obtain ⟨m,rfl⟩:∃m,n=m+1:=⟨n - 1,by
    have:=zxs q r (i+1);omega⟩
   rw [List.dropWhile_cons,hf]
   simp only [Bool.not_false,if_true,List.drop_succ_cons]
   exact ih (i:=i+1) (n:=m) (by rw [h];congr 1;omega)
theorem yv3 {h:Hist} {e:Ev} {s:Seen} {r:Int} {n:Nat} (hr:zlx h s.o s.v=some r) (hn:zbr (fun k=>decide (k > r)) 0 (chL h e.p s.o)=(n:Int)):zds h e s=some (s.o,rwOver h e.p s.o r)∧rwOver h e.p s.o r=(chL h e.p s.o).drop n:=by
 have ha:(chL h e.p s.o).any (fun k=>decide (k > r))=true:=by rw [←zer _ _ 0,hn];exact decide_eq_true (by omega)
 exact ⟨by rw [zds,hr];simp only;rw [if_pos ha],by rw [rwOver];exact yit (i:=0) (by rw [hn];congr 1;omega)⟩
theorem yvm {h:Hist} {e:Ev} {s:Seen} (hn:(zlx h s.o s.v).isSome=false∨decide (zbr (fun k=>decide (k > (zlx h s.o s.v).getD 0)) 0 (chL h e.p s.o) ≥ 0)=false):zds h e s=none:=by
 rw [zds]
 cases hr:zlx h s.o s.v with
 |none=>rfl
 |some r=>
  rw [hr] at hn
  rcases hn with q|q
  ·cases q
  ·rw [Option.getD_some,zer] at q
   simp only
   rw [if_neg (by rw [q];decide)]
theorem ysm {α β:Type} (f:α→Option β) (l:List α) (k:Nat):((l.take k).filterMap f).length≤k:=Nat.le_trans (List.length_filterMap_le _ _) (List.length_take_le _ _)
theorem ysl {α β:Type} {f:α→Option β} {l:List α} {k:Nat} {b:β} (hk:k < l.length) (h:f l[k]=some b):(l.take (k+1)).filterMap f=(l.take k).filterMap f++ [b]:=by
 rw [List.take_succ_eq_append_getElem hk,List.filterMap_append];simp [h]
theorem yol {α β:Type} {f:α→Option β} {l:List α} {k:Nat} (hk:k < l.length) (h:f l[k]=none):(l.take (k+1)).filterMap f=(l.take k).filterMap f:=by
 rw [List.take_succ_eq_append_getElem hk,List.filterMap_append];simp [h]
theorem yt3 (h:Hist) (la:Lim 4611686018427387904 h) (hc:u6 h=0) (p x:Int) (rc rl rk rg:Nat) (M:List ((Int×Int)×List Int)) (hM:zoc h M) (W:List Res):y8 Tryz.prog 305 [.agg (rwP h rc rl rk rg),iv p,iv x] (rgR rg M::rkS h rk::zbb h rl::rcR h rc:: .glob 2 156 y5:: .glob 4 305 y7:: .glob 5 308 y2:: .glob 3 246 u0::W) (fun r h'=>∃M',zoc h M'∧h'=rgR rg M'::rkS h rk::zbb h rl::rcR h rc:: .glob 2 156 y5:: .glob 4 305 y7:: .glob 5 308 y2:: .glob 3 246 u0::W∧r=za1 (chL h p x)):=by
 refine z6 Tryz.func305 rfl rfl rfl ?_
 refine rn ?_;refine z8 rfl (w9 rfl rfl rfl fun b3=> ?_)
 refine q1 ?_;refine u9 (zai ?_)
 refine w8 (y4 ?_)
 refine q1 ?_;refine q1 ?_;refine qq rfl rfl (zdu (out:= [iv p,iv x]) rfl (by rfl)) ?_
 refine z8 rfl (y3 rfl fun b7=> ?_)
 first|refine z8 rfl (k7 rfl rfl rfl ?_)|refine z8 rfl (zan rfl rfl rfl rfl (Nat.le_of_ble_eq_true rfl) ?_)
 refine u9 (zai ?_)
 refine w8 ?_;refine w8 (y4 ?_)
 refine q1 ?_;refine q1 ?_;refine q1 ?_;refine qq rfl rfl (zhm (g:=za1) (enc:=zbc) (k:=(p,x)) ([]:List Int) rfl rfl rfl) ?_
 refine rn ?_;refine z7 rfl (fun hc21=> ?_) (fun hc21=> ?_)
 ·refine zig 12 [11] [] (fun he=>∃M,he= .box b7 45 [iv p,iv x]:: .box b3 119 (rwP h rc rl rk rg)::rgR rg M::rkS h rk::zbb h rl::rcR h rc:: .glob 2 156 y5:: .glob 4 305 y7:: .glob 5 308 y2:: .glob 3 246 u0::W) rfl rfl ⟨_,rfl⟩ ?_
  refine jq rfl (fun he hC=>by obtain ⟨M,rfl⟩:=hC <;> exact qrA) ?_
  refine jq rfl (fun he hC=>by obtain ⟨M,rfl⟩:=hC <;> exact qrA) ?_
  refine jq rfl (fun he hC=>by obtain ⟨M,rfl⟩:=hC <;> exact qrA) ?_
  refine jq rfl (fun he hC=>by obtain ⟨M,rfl⟩:=hC <;> exact qrA) ?_
  refine jq rfl (fun he hC=>by obtain ⟨M,rfl⟩:=hC <;> exact qrA) ?_
  refine jq rfl (fun he hC=>by obtain ⟨M,rfl⟩:=hC <;> exact qrA) ?_
  refine jq rfl (fun he hC=>by obtain ⟨M,rfl⟩:=hC <;> exact qrA) ?_
  refine jv rfl (fun he hC=>by obtain ⟨M,rfl⟩:=hC <;> exact (by exact y1 rfl rfl (y0.qt (y0.of_fun (yru h la p x)) ((pt6 _ _ _ _ _ _ _ _).trans (.cons _ ((pt6 _ _ _ _ _ _ _ _).trans (.cons _ ((pt6 _ _ _ _ _ _ _ _).trans (.cons _ (pt6 _ _ _ _ _ _ _ _)))))))))) ?_
  refine jq rfl (fun he hC=>by obtain ⟨M,rfl⟩:=hC <;> exact qrA) ?_
  refine jq rfl (fun he hC=>by obtain ⟨M,rfl⟩:=hC <;> exact qrA) ?_
  refine jq rfl (fun he hC=>by obtain ⟨M,rfl⟩:=hC <;> exact qrA) ?_
  refine je rfl ?_;refine yib ?_;refine jce rfl fun u=> ?_
  refine za5 (g:=za1) (enc:=zbc) (k:=(p,x)) (v:=chL h p x) rfl rfl rfl ⟨.any,_,rfl,⟨_,rfl⟩,?_⟩
  refine jcn ?_;refine ln ?_;refine u9 (zai ?_)
  refine w8 (y4 ?_)
  refine q1 ?_;refine q1 ?_;refine q1 ?_;refine qq rfl rfl (zb8 (g:=za1) (enc:=zbc) (k:=(p,x)) ([]:List Int) rfl rfl) ?_
  refine rn ?_;first|exact j9 rfl (.drop [_,_] _ _) ⟨_,zx3 hM p x,rfl,congrArg za1 (zx4 p x)⟩|exact j9 rfl (.drop [_,_] _ _) ⟨_,hM,rfl,congrArg za1 (zx5 hM hc21)⟩
 ·refine za2 ?_;refine zai ?_;refine w8 (y4 ?_)
  refine q1 ?_;refine q1 ?_;refine q1 ?_;refine qq rfl rfl (zb8 (g:=za1) (enc:=zbc) (k:=(p,x)) ([]:List Int) rfl rfl) ?_
  refine rn ?_;first|exact j9 rfl (.drop [_,_] _ _) ⟨_,zx3 hM p x,rfl,congrArg za1 (zx4 p x)⟩|exact j9 rfl (.drop [_,_] _ _) ⟨_,hM,rfl,congrArg za1 (zx5 hM hc21)⟩
theorem ybb (h:Hist) (rc rl rk rg:Nat) (n:Int) (W:List Res):y8 Tryz.prog 302 [.agg (rwP h rc rl rk rg),iv n] W (fun r h'=>h'=W∧r=ziz []):=by
 refine z6 Tryz.func302 rfl rfl rfl ?_
 refine rn ?_;refine z8 rfl (w9 rfl rfl rfl fun b2=> ?_)
 refine rn ?_;exact j9 rfl (.trans (.drop [_] _ _) (.le (Sb.nil false 2).le)) ⟨rfl,rfl⟩
theorem yp8 (h:Hist) (la:Lim 4611686018427387904 h) (hc:u6 h=0) (a:Nat) (ha:a < h.evs.length) (h3:h.evs[a].kind=3) (rc rl rk rg:Nat) (M:List ((Int×Int)×List Int)) (W:List Res):y8 Tryz.prog 303 [.agg (rwP h rc rl rk rg),iv (a:Int)] (rgR rg M::rkS h rk::zbb h rl::rcR h rc:: .glob 2 156 y5:: .glob 4 305 y7:: .glob 5 308 y2:: .glob 3 246 u0::W) (fun r h'=>h'=rgR rg M::rkS h rk::zbb h rl::rcR h rc:: .glob 2 156 y5:: .glob 4 305 y7:: .glob 5 308 y2:: .glob 3 246 u0::W∧r=ziz (zev h h.evs[a])):=by
 refine z6 Tryz.func303 rfl rfl rfl ?_
 have ra:=zal (f:=evR) ha
 refine rn ?_;refine z8 rfl (w9 rfl rfl rfl fun b2=> ?_)
 refine q1 ?_;refine u9 (zai ?_)
 refine w8 (y4 ?_)
 refine q1 ?_;refine q1 ?_;refine q1 ?_;refine q1 ?_;refine qq rfl rfl (zc9 rfl rfl ra) ?_
 refine rn ?_;refine z8 rfl (y3 rfl fun b5=> ?_)
 first|refine z8 rfl (k7 rfl rfl rfl ?_)|refine z8 rfl (zan rfl rfl rfl rfl (Nat.le_of_ble_eq_true rfl) ?_)
 refine u9 (zai ?_)
 refine w8 (y4 ?_)
 refine q1 ?_;refine q1 ?_;refine q1 ?_;refine q1 ?_;refine q1 ?_;refine q1 ?_;refine qq rfl rfl (zae (out:= [iv h.evs[a].o,iv h.evs[a].v.t,iv h.evs[a].v.k]) rfl (by rfl)) ?_
 refine qq rfl rfl (zhm (g:=iv) (enc:=zfj) (k:=(h.evs[a].o,h.evs[a].v.t,h.evs[a].v.k)) (0:Int) rfl rfl rfl) ?_
 refine rn ?_;refine z7 rfl (fun hc26=> ?_) (fun hc26=> ?_)
 ·have hn:(!(zlx h h.evs[a].o h.evs[a].v).isSome)=true:=hc26
  refine rn ?_;exact j9 rfl (.trans (.drop [_,_] _ _) (.le (Sb.nil false 2).le)) ⟨rfl,by rw [zy8 hn];rfl⟩
 ·obtain ⟨r0,hr⟩:∃r,(zbm (h.evs[a].o,h.evs[a].v.t,h.evs[a].v.k) (rkM h h.os.length))=some r:=Option.isSome_iff_exists.1 (by simpa using hc26)
  have hr':zlx h h.evs[a].o h.evs[a].v=some r0:=hr
  have hb:=yqi hc (zsi (zet (zbd.1 hc) _ (List.getElem_mem ha)) h3).1.1 (zsi (zet (zbd.1 hc) _ (List.getElem_mem ha)) h3).1.2 hr'
  rw [hr,Option.getD_some]
  refine rn ?_;refine qv rfl rfl (q6 rfl rfl) ?_
  refine qq rfl rfl (zae (out:= [iv h.evs[a].o,.list true 1 [[iv (r0+1)]]]) rfl (by rfl)) ?_
  refine qv rfl rfl (q6 rfl rfl) ?_
  refine rn ?_;exact j9 rfl (.trans (.drop [_,_] _ _) (.le (Sb.lists (rows:= [[iv h.evs[a].o,.list true 1 [[iv (r0+1)]]]]) (rows':= [[iv h.evs[a].o,.list false 1 [[iv (r0+1)]]]]) (by simp) ⟨⟨.refl _,.unfull,trivial⟩,trivial⟩).le)) ⟨rfl,by rw [zy7 hr'];rfl⟩
theorem ylz (k r0:Int) (b:Nat) (W:List Res):y8 Tryz.prog 306 [iv k,pZ b] (.box b 3 [iv r0]::W) (fun r h'=>h'= .box b 3 [iv r0]::W∧r=bv (decide (k > r0))):=by
 refine z6 Tryz.func306 rfl rfl rfl ?_
 refine rn ?_;refine rq 0 ?_
 exact ⟨rfl,rfl⟩
theorem yp7 (h:Hist) (la:Lim 4611686018427387904 h) (hc:u6 h=0) (a:Nat) (ha:a < h.evs.length) (h4:h.evs[a].kind=4) (rc rl rk rg:Nat) (M:List ((Int×Int)×List Int)) (hM:zoc h M) (W:List Res):y8 Tryz.prog 304 [.agg (rwP h rc rl rk rg),iv (a:Int)] (rgR rg M::rkS h rk::zbb h rl::rcR h rc:: .glob 2 156 y5:: .glob 4 305 y7:: .glob 5 308 y2:: .glob 3 246 u0::W) (fun r h'=>∃M',zoc h M'∧h'=rgR rg M'::rkS h rk::zbb h rl::rcR h rc:: .glob 2 156 y5:: .glob 4 305 y7:: .glob 5 308 y2:: .glob 3 246 u0::W∧r=ziz (zh4 h h.evs[a] a)):=by
 refine z6 Tryz.func304 rfl rfl rfl ?_
 have ra:=zal (f:=evR) ha
 have hse:=yvl ha hc h4
 have lA:=zes hc
 have lO:=lA.os
 have lS:(zat h h.evs[a] a).length=h.os.length:=zmw h h.evs[a] a
 refine rn ?_;refine z8 rfl (w9 rfl rfl rfl fun b2=> ?_)
 refine rn ?_;refine qv rfl rfl (y1 rfl rfl (y0.qt (y0.of_fun (yrs h la (a:Int))) ((pt5 _ _ _ _ _ _ _).trans (.cons _ ((pt5 _ _ _ _ _ _ _).trans (.cons _ ((pt5 _ _ _ _ _ _ _).trans (.cons _ (pt5 _ _ _ _ _ _ _))))))))) ?_
 rw [hse.1,hse.2]
 refine rn ?_;refine zhz (zat h h.evs[a] a).length (fun j (z:SV×List ((Int×Int)×List Int))=>zoc h z.2) (fun j z=>⟨[(23,iv j),(5,.v z.1.v),(1,iv (a:Int)),(2,pZ b2),(21,zfg (zat h h.evs[a] a)),(22,iv ((zat h h.evs[a] a).map zam).length)],.row z.1.v 2 177 ((((zat h h.evs[a] a).take j).filterMap (zds h h.evs[a])).map zqd):: .box b2 119 (rwP h rc rl rk rg)::rgR rg z.2::rkS h rk::zbb h rl::rcR h rc:: .glob 2 156 y5:: .glob 4 305 y7:: .glob 5 308 y2:: .glob 3 246 u0::W,[]⟩) (⟨none,0,0⟩,M) hM (v8 (zao 2 177) es) ?_
 intro j z lj hz
 refine rn ?_;refine z7 rfl (fun hc24=> ?_) (fun hc24=> ?_)
 ·have hj:=za3 hc24
  have rj:=zal (f:=zam) hj
  have bl:=ysm (zds h h.evs[a]) (zat h h.evs[a] a) j
  have bc:=yko hc h.evs[a].p (zat h h.evs[a] a)[j].o
  refine rn ?_;refine z8 rfl (y3 rfl fun b9=> ?_)
  first|refine z8 rfl (k7 rfl rfl rfl ?_)|refine z8 rfl (zan rfl rfl rfl rfl (Nat.le_of_ble_eq_true rfl) ?_)
  refine u9 (zai ?_)
  refine w8 (y4 ?_)
  refine q1 ?_;refine q1 ?_;refine q1 ?_;refine q1 ?_;refine q1 ?_;refine q1 ?_;refine qq rfl rfl (zae (out:= [iv (zat h h.evs[a] a)[j].o,iv (zat h h.evs[a] a)[j].v.t,iv (zat h h.evs[a] a)[j].v.k]) rfl (by rfl)) ?_
  refine qq rfl rfl (zhm (g:=iv) (enc:=zfj) (k:=((zat h h.evs[a] a)[j].o,(zat h h.evs[a] a)[j].v.t,(zat h h.evs[a] a)[j].v.k)) (0:Int) rfl rfl rfl) ?_
  refine rn ?_;refine z8 rfl (y3 rfl fun b10=> ?_)
  refine rn ?_;refine k9 10 rfl ?_
  refine dq rfl rfl qrA ?_;refine dq rfl rfl qrA ?_;refine dq rfl rfl qrA ?_;refine dq rfl rfl qrA ?_;refine dq rfl rfl qrA ?_;refine dq rfl rfl (zc9 rfl rfl ra) ?_
  refine rn ?_;refine z8 rfl (v7 rfl rfl (y0.fr4 (y0.of_fun (yt3 h la hc h.evs[a].p (zat h h.evs[a] a)[j].o rc rl rk rg z.2 hz W))) rfl ?_)
  rintro _ _ ⟨_,rfl,M2,hM2,rfl,rfl⟩
  refine rn ?_;refine qv rfl rfl (y1 rfl rfl (y0.of_fun (zlp (chL h h.evs[a].p (zat h h.evs[a] a)[j].o) _ (fun k=>decide (k > ((zbm ((zat h h.evs[a] a)[j].o,(zat h h.evs[a] a)[j].v.t,(zat h h.evs[a] a)[j].v.k) (rkM h h.os.length)).getD 0))) (.box b10 3 [iv ((zbm ((zat h h.evs[a] a)[j].o,(zat h h.evs[a] a)[j].v.t,(zat h h.evs[a] a)[j].v.k) (rkM h h.os.length)).getD 0)]:: .box b9 70 (zam (zat h h.evs[a] a)[j]):: .row z.1.v 2 177 ((((zat h h.evs[a] a).take j).filterMap (zds h h.evs[a])).map zqd):: .box b2 119 (rwP h rc rl rk rg)::rgR rg M2::rkS h rk::zbb h rl::rcR h rc:: .glob 2 156 y5:: .glob 4 305 y7:: .glob 5 308 y2:: .glob 3 246 u0::W) (fun k _=>y0.of_acall (fs:= []) (cs:= [pZ b10]) (ylz k ((zbm ((zat h h.evs[a] a)[j].o,(zat h h.evs[a] a)[j].v.t,(zat h h.evs[a] a)[j].v.k) (rkM h h.os.length)).getD 0) b10 _)) (by omega)))) ?_
  refine rn ?_;refine w6 (fun hg9_1=> ?_) (fun hg9_1=> ?_)
  ·refine rn ?_;refine z7 rfl (fun hc56=> ?_) (fun hc56=> ?_)
   ·have q9:decide ((zbr (fun k=>decide (k > ((zbm ((zat h h.evs[a] a)[j].o,(zat h h.evs[a] a)[j].v.t,(zat h h.evs[a] a)[j].v.k) (rkM h h.os.length)).getD 0))) 0 (chL h h.evs[a].p (zat h h.evs[a] a)[j].o)) ≥ 0)=true:=by first|exact hc56|(have q:=hc56;rw [hg9_1] at q;simpa using q)
    have q8:=oT q9
    obtain ⟨n,hn⟩:∃n:Nat,(zbr (fun k=>decide (k > ((zbm ((zat h h.evs[a] a)[j].o,(zat h h.evs[a] a)[j].v.t,(zat h h.evs[a] a)[j].v.k) (rkM h h.os.length)).getD 0))) 0 (chL h h.evs[a].p (zat h h.evs[a] a)[j].o))=n:=⟨(zbr (fun k=>decide (k > ((zbm ((zat h h.evs[a] a)[j].o,(zat h h.evs[a] a)[j].v.t,(zat h h.evs[a] a)[j].v.k) (rkM h h.os.length)).getD 0))) 0 (chL h h.evs[a].p (zat h h.evs[a] a)[j].o)).toNat,by omega⟩
    obtain ⟨r0,hr⟩:∃r,zlx h (zat h h.evs[a] a)[j].o (zat h h.evs[a] a)[j].v=some r:=Option.isSome_iff_exists.1 hg9_1
    obtain ⟨hsr,hov⟩:=yv3 (e:=h.evs[a]) (n:=n) hr (by rw [←hn];show _=zbr (fun k=>decide (k > (zlx h (zat h h.evs[a] a)[j].o (zat h h.evs[a] a)[j].v).getD 0)) 0 _;rw [hr];rfl)
    rw [hn]
    have hnl:n≤(chL h h.evs[a].p (zat h h.evs[a] a)[j].o).length:=by have:=(zq4 (fun k=>decide (k > ((zbm ((zat h h.evs[a] a)[j].o,(zat h h.evs[a] a)[j].v.t,(zat h h.evs[a] a)[j].v.k) (rkM h h.os.length)).getD 0))) (chL h h.evs[a].p (zat h h.evs[a] a)[j].o) 0).2;omega
    refine k9 8 rfl ?_
    refine dq rfl rfl qrA ?_;refine dq rfl rfl qrA ?_;refine dq rfl rfl qrA ?_;refine dq rfl rfl qrA ?_;refine dq rfl rfl qrA ?_;refine dq rfl rfl (zjq (zh7 (l:=n) rfl rfl (by rw [oM];exact hnl)) (show AV.list false 1 _=za1 (rwOver h h.evs[a].p (zat h h.evs[a] a)[j].o r0) by rw [←List.map_drop,←hov];rfl)) ?_
    refine dq rfl rfl (zae (out:=zqd ((zat h h.evs[a] a)[j].o,rwOver h h.evs[a].p (zat h h.evs[a] a)[j].o r0)) rfl (by rfl)) ?_
    refine dv rfl rfl (q6 rfl rfl) ?_
    refine rn ?_;refine z8 rfl (u4 rfl rfl (by simp only [oM,List.length_cons,List.length_nil];omega) rfl (fun s65=> ?_) (yrd [((zat h h.evs[a] a)[j].o,rwOver h h.evs[a].p (zat h h.evs[a] a)[j].o r0)]))
    refine j8 s65 fun sv hsv=> ?_
    subst hsv
    refine rn ?_;first|exact ⟨hj,(sv,M2),hM2,by rw [ysl hj hsr,List.map_append];exact eA⟩|exact ⟨hj,(z.1,M2),hM2,by rw [yol hj hsr];exact eA⟩
   ·have hsr:zds h h.evs[a] (zat h h.evs[a] a)[j]=none:=yvm (by first|exact .inr hc56|exact .inl hg9_1)
    refine rn ?_;first|exact ⟨hj,(sv,M2),hM2,by rw [ysl hj hsr,List.map_append];exact eA⟩|exact ⟨hj,(z.1,M2),hM2,by rw [yol hj hsr];exact eA⟩
  ·refine rn ?_;refine zfu rfl ?_;have hsr:zds h h.evs[a] (zat h h.evs[a] a)[j]=none:=yvm (by first|exact .inr hc56|exact .inl hg9_1)
   refine rn ?_;first|exact ⟨hj,(sv,M2),hM2,by rw [ysl hj hsr,List.map_append];exact eA⟩|exact ⟨hj,(z.1,M2),hM2,by rw [yol hj hsr];exact eA⟩
 ·have qj:=za4 hc24 lj
  refine rn ?_;exact j9 rfl (.trans zc1 (.drop [_] _ _)) ⟨_,hz,rfl,by rw [qj,List.take_length];rfl⟩
def zaf:List AV:= [.any,.fn (.func 302) [] [],.fn (.func 302) [] [],.fn (.func 303) [] [],.fn (.func 304) [] [],.fn (.func 302) [] [],.fn (.func 302) [] []]
def ygc (k:Nat):AV:=zaf.getD k .any
theorem yga {k:Nat} (h2:k≤6):zaf[k]? =some (ygc k):=by
 have:k < zaf.length:=by show k < 7;omega
 rw [ygc,List.getD_eq_getElem?_getD,List.getElem?_eq_getElem this];rfl
def zjz (h:Hist) (x r:Int):Int:=((zbz h x)[(r - 1).toNat]?).getD 0
def zzs (h:Hist) (e:Ev) (a:Nat) (x r:Int):Conf:=if r > ((zbz h x).length:Int) then ⟨0,0,0,0,0,0,0⟩ else ⟨e.t,zjz h x r,zvl e.kind,a,zeb h (zjz h x r) x,x,e.p⟩
def zqw (h:Hist) (e:Ev) (x r:Int):Bool:=if r > ((zbz h x).length:Int) then false else zjz h x r !=e.t
theorem ykc {h:Hist} {e:Ev} {a:Nat} {x r:Int} (hb:zqw h e x r=true):zej h e (zf4 e) a x r=some (zzs h e a x r):=by
 rw [zqw] at hb
 split at hb
 ·cases hb
 ·rename_i hr
  have hn:¬(((zbz h x)[(r - 1).toNat]?).getD 0==e.t)=true:=by rw [show ((zbz h x)[(r - 1).toNat]?).getD 0=zjz h x r from rfl];simpa using hb
  rw [zej,if_neg hr,if_neg hn,zzs,if_neg hr];rfl
theorem yr5 {h:Hist} {e:Ev} {a:Nat} {x r:Int} (hb:zqw h e x r=false):zej h e (zf4 e) a x r=none:=by
 rw [zqw] at hb
 rw [zej]
 split at hb
 ·rename_i hr;rw [if_pos hr]
 ·rename_i hr
  rw [if_neg hr,if_pos (by rw [show ((zbz h x)[(r - 1).toNat]?).getD 0=zjz h x r from rfl];simpa using hb)]
theorem seen_ok {h:Hist} (hc:u6 h=0) {e:Ev} (he:e∈h.evs) (a:Nat):(u7 h e a).length≤4000∧∀p∈u7 h e a,(0≤p.1∧p.1 < h.os.length)∧p.2.length≤4000∧∀r∈p.2,1≤r∧r≤5000:=by
 have hs:=zbd.1 hc
 have lA:=zes hc
 have lO:=lA.os
 rw [u7]
 split
 ·rename_i h3
  obtain ⟨⟨o0,o1⟩,_⟩:=zsi (zet hs _ he) h3
  rw [zev]
  cases hr:zlx h e.o e.v with
  |none=>exact ⟨Nat.zero_le _,fun p hp=>by cases hp⟩
  |some r=>
   have:=yqi hc o0 o1 hr
   refine ⟨by show 1≤4000;decide,fun p hp=> ?_⟩
   rw [List.mem_singleton] at hp
   subst hp
   refine ⟨⟨o0,o1⟩,by show 1≤4000;decide,fun q hq=> ?_⟩
   rw [List.mem_singleton] at hq
   subst hq
   omega
 ·split
  ·rename_i h4
   refine ⟨?_,fun p hp=> ?_⟩
   ·refine Nat.le_trans (List.length_filterMap_le _ _) ?_
    rw [zmw];omega
   ·rw [zh4,List.mem_filterMap] at hp
    obtain ⟨s,hsm,hp⟩:=hp
    obtain ⟨⟨o0,o1⟩,_⟩:=zqb hsm
    unfold zds at hp
    split at hp
    ·cases hp
    ·split at hp
     ·injection hp with hp
      subst hp
      have hcl:=yko hc e.p s.o
      refine ⟨⟨o0,o1⟩,Nat.le_trans (List.dropWhile_sublist _).length_le hcl,fun r hr=> ?_⟩
      have hr':r∈chL h e.p s.o:=(List.dropWhile_sublist _).subset hr
      rw [chL] at hr'
      split at hr'
      ·rename_i ht
       rw [ypm,zmk] at hr'
       obtain ⟨j,rfl,j0,j1,_⟩:=hr'
       rw [zms] at j1
       have:=zs6 hc o0 o1
       omega
      ·cases hr'
     ·cases hp
  ·exact ⟨Nat.zero_le _,fun p hp=>by cases hp⟩
def rwF (h:Hist) (e:Ev) (a:Nat) (p:Int×List Int):List Conf:=p.2.filterMap (zej h e (zf4 e) a p.1)
theorem zvs {h:Hist} {e:Ev} (a:Nat) (hm:zf1 h.evs e.t 5=true):zb5 h e a=(u7 h e a).flatMap (rwF h e a):=by rw [zb5,if_pos hm];rfl
theorem ydh {h:Hist} {e:Ev} (a:Nat) (hm:zf1 h.evs e.t 5=false):zb5 h e a= []:=by rw [zb5,if_neg (by rw [hm];decide)]
theorem ywc {h:Hist} {e:Ev} {a:Nat} {L:List (Int×List Int)} {i:Nat} (hi:i < L.length):(L.take (i+1)).flatMap (rwF h e a)=(L.take i).flatMap (rwF h e a)++rwF h e a L[i]:=by
 rw [List.take_succ_eq_append_getElem hi,List.flatMap_append];simp
theorem yjt {h:Hist} {e:Ev} {a:Nat} {L:List (Int×List Int)} {i j:Nat} (hi:i < L.length) (qj:j=L[i].2.length):(L.take i).flatMap (rwF h e a)++(L[i].2.take j).filterMap (zej h e (zf4 e) a L[i].1)=(L.take (i+1)).flatMap (rwF h e a):=by
 rw [ywc hi,qj,List.take_length];rfl
theorem yqk {h:Hist} {e:Ev} {a:Nat} {i j:Nat} {d:Conf} (hm:zf1 h.evs e.t 5=true) (hi:i < (u7 h e a).length) (hj:j < (u7 h e a)[i].2.length) (hd:zej h e (zf4 e) a (u7 h e a)[i].1 (u7 h e a)[i].2[j]=some d):
 ∃rest,zb5 h e a=(((u7 h e a).take i).flatMap (rwF h e a)++((u7 h e a)[i].2.take j).filterMap (zej h e (zf4 e) a (u7 h e a)[i].1))++d::rest:=by
 have e1:rwF h e a (u7 h e a)[i]=((u7 h e a)[i].2.take j).filterMap (zej h e (zf4 e) a (u7 h e a)[i].1)++d::((u7 h e a)[i].2.drop (j+1)).filterMap (zej h e (zf4 e) a (u7 h e a)[i].1):=by
  conv=>lhs;rw [rwF,←List.take_append_drop j (u7 h e a)[i].2,List.drop_eq_getElem_cons hj]
  rw [List.filterMap_append,List.filterMap_cons,hd]
 refine ⟨((u7 h e a)[i].2.drop (j+1)).filterMap (zej h e (zf4 e) a (u7 h e a)[i].1)++((u7 h e a).drop (i+1)).flatMap (rwF h e a),?_⟩
 rw [zvs a hm]
 conv=>lhs;rw [←List.take_append_drop i (u7 h e a),List.drop_eq_getElem_cons hi]
 rw [List.flatMap_append,List.flatMap_cons,e1]
 simp [List.append_assoc]
theorem ytn {h:Hist} {e:Ev} {a:Nat} {B:List Conf} {x:Int} {l:List Int} {j:Nat} (hj:j < l.length) (hb:zqw h e x l[j]=true):B++(l.take (j+1)).filterMap (zej h e (zf4 e) a x)=B++(l.take j).filterMap (zej h e (zf4 e) a x)++ [zzs h e a x l[j]]:=by
 rw [ysl hj (ykc hb),List.append_assoc]
theorem yto {h:Hist} {e:Ev} {a:Nat} {B:List Conf} {x:Int} {l:List Int} {j:Nat} (hj:j < l.length) (hb:zqw h e x l[j]=false):B++(l.take (j+1)).filterMap (zej h e (zf4 e) a x)=B++(l.take j).filterMap (zej h e (zf4 e) a x):=by
 rw [yol hj (yr5 hb)]
theorem yrz {h:Hist} (hc:u6 h=0) {e:Ev} (he:e∈h.evs):∃kn:Nat,1≤kn∧kn≤6∧e.kind=(kn:Int):=by
 obtain ⟨k1,k2,_⟩:=zb6 (zet (zbd.1 hc) _ he)
 exact ⟨e.kind.toNat,by omega,by omega,by omega⟩
theorem yp6 (h:Hist) (la:Lim 4611686018427387904 h) (hc:u6 h=0) (a:Nat) (ha:a < h.evs.length) (rc rl rk rg:Nat) (M:List ((Int×Int)×List Int)) (hM:zoc h M) (W:List Res) {kn:Nat} (h1:1≤kn) (h6:kn≤6) (hk:h.evs[a].kind=(kn:Int)):y0 Tryz.prog (ygc kn) [.agg (rwP h rc rl rk rg),iv (a:Int)] (rgR rg M::rkS h rk::zbb h rl::rcR h rc:: .glob 2 156 y5:: .glob 4 305 y7:: .glob 5 308 y2:: .glob 3 246 u0::W) (fun r h'=>∃M',zoc h M'∧h'=rgR rg M'::rkS h rk::zbb h rl::rcR h rc:: .glob 2 156 y5:: .glob 4 305 y7:: .glob 5 308 y2:: .glob 3 246 u0::W∧r=ziz (u7 h h.evs[a] a)):=by
 have no:h.evs[a].kind≠3→h.evs[a].kind≠4→y0 Tryz.prog (.fn (.func 302) [] []) [.agg (rwP h rc rl rk rg),iv (a:Int)] (rgR rg M::rkS h rk::zbb h rl::rcR h rc:: .glob 2 156 y5:: .glob 4 305 y7:: .glob 5 308 y2:: .glob 3 246 u0::W) (fun r h'=>∃M',zoc h M'∧h'=rgR rg M'::rkS h rk::zbb h rl::rcR h rc:: .glob 2 156 y5:: .glob 4 305 y7:: .glob 5 308 y2:: .glob 3 246 u0::W∧r=ziz (u7 h h.evs[a] a)):=fun n3 n4=>
  y0.of_fun ((ybb h rc rl rk rg (a:Int) (rgR rg M::rkS h rk::zbb h rl::rcR h rc:: .glob 2 156 y5:: .glob 4 305 y7:: .glob 5 308 y2:: .glob 3 246 u0::W)).mono fun _ _ q=>⟨M,hM,q.1,by rw [q.2,u7,if_neg n3,if_neg n4]⟩)
 match kn,h1,h6 with
 |1,_,_=>exact no (by omega) (by omega)
 |2,_,_=>exact no (by omega) (by omega)
 |3,_,_=>exact y0.of_fun ((yp8 h la hc a ha hk rc rl rk rg M W).mono fun _ _ q=>⟨M,hM,q.1,by rw [q.2,u7,if_pos (show h.evs[a].kind=3 from hk)]⟩)
 |4,_,_=>exact y0.of_fun ((yp7 h la hc a ha hk rc rl rk rg M hM W).mono fun _ _ ⟨M',q1,q2,q3⟩=>⟨M',q1,q2,by rw [q3,u7,if_neg (by omega),if_pos (show h.evs[a].kind=4 from hk)]⟩)
 |5,_,_=>exact no (by omega) (by omega)
 |6,_,_=>exact no (by omega) (by omega)
 |n+7,_,h6=>omega
theorem yqd (h:Hist) (x r:Int) (h0:0≤x) (h1:x < h.os.length) (r1:1≤r) (r2:r≤5000) (e:Ev) (a:Nat) (bp be ba:Nat) (rc rl rk rg:Nat) (M:List ((Int×Int)×List Int)) (rO:Nat) (oK:Obj) (hK:KO oK) (W:List Res):y8 Tryz.prog 135 [iv x,iv r,pZ bp,pZ be,pZ ba] (.box be 60 (evR e):: .box ba 3 [iv (a:Int)]:: .box bp 119 (rwP h rc rl rk rg)::rgR rg M::rkS h rk::zbb h rl::rcR h rc:: .glob 2 156 y5:: .glob 4 305 y7:: .glob 5 308 y2:: .glob 3 246 u0:: .glob 1 175 zaf:: .glob 0 171 [mpv rO]:: .obj rO oK::W) (fun r_ h'=>h'= .box be 60 (evR e):: .box ba 3 [iv (a:Int)]:: .box bp 119 (rwP h rc rl rk rg)::rgR rg M::rkS h rk::zbb h rl::rcR h rc:: .glob 2 156 y5:: .glob 4 305 y7:: .glob 5 308 y2:: .glob 3 246 u0:: .glob 1 175 zaf:: .glob 0 171 [mpv rO]:: .obj rO oK::W∧r_= .tup [.agg (k8 (zzs h e a x r)),bv (zqw h e x r)]):=by
 refine z6 Tryz.func135 rfl rfl rfl ?_
 refine rn ?_;refine z8 rfl (y3 rfl fun b7=> ?_)
 refine q1 ?_;refine u9 (zai ?_)
 refine w8 ?_;refine w8 (y4 ?_)
 refine q1 ?_;refine q1 ?_;refine q1 ?_;refine q1 ?_;refine qq rfl rfl (zav rfl rfl h0 (zxl h h0 h1)) ?_
 refine rn ?_;refine z7 rfl (fun hc17=> ?_) (fun hc17=> ?_)
 ·have hr:r > ((zbz h x).length:Int):=by have q:=oT hc17;rw [oM] at q;exact q
  refine rn ?_;exact ze0 (.cons _ _ _ _ (.agg _ _ _ _ _ _ _ rfl inferInstance inferInstance inferInstance rfl) (.cons _ _ _ _ (.tmp _ _ rfl) .nil)) (.drop [_] _ _) ⟨rfl,by rw [zzs,zqw,if_pos hr,if_pos hr];rfl⟩
 ·have hr:¬r > ((zbz h x).length:Int):=by have q:=oF hc17;rw [oM] at q;exact q
  have hk:(r - 1).toNat < (zbz h x).length:=by omega
  have rr:((zbz h x).map zac)[(r - 1).toNat]? =some (zac (zjz h x r)):=by rw [zjz,List.getElem?_map,List.getElem?_eq_getElem hk];rfl
  refine za2 ?_;refine zai ?_;refine w8 (y4 ?_)
  refine q1 ?_;refine q1 ?_;refine q1 ?_;refine qq rfl rfl (zav rfl rfl h0 (zxl h h0 h1)) ?_
  refine q1 ?_;refine q1 ?_;refine qq rfl rfl (zci rfl rfl rfl (by omega)) ?_
  refine qq rfl rfl (zav rfl rfl (by omega) rr) ?_
  refine rn ?_;refine zef 23 [(b7,41,_)] rfl (List.perm_append_comm (l₁:= [_])) ?_
  refine dq rfl rfl qrA ?_;refine dq rfl rfl qrA ?_;refine dq rfl rfl qrA ?_;refine dq rfl rfl qrA ?_;refine dq rfl rfl qrA ?_;refine dq rfl rfl qrA ?_;refine dq rfl rfl (yg1 (k:=e.kind) hK rfl rfl) ?_
  refine dq rfl rfl qrA ?_;refine dq rfl rfl qrA ?_;refine dq rfl rfl qrA ?_;refine dq rfl rfl qrA ?_;refine dq rfl rfl qrA ?_;refine dq rfl rfl (zdu (out:= [iv (zjz h x r),iv x]) rfl (by rfl)) ?_
  refine dq rfl rfl (zjq (zb8 (enc:=zbc) (k:=(zjz h x r,x)) 0 rfl rfl) (show iv _=iv (zeb h (zjz h x r) x) from congrArg iv (zwe _ _ _))) ?_
  refine dq rfl rfl qrA ?_;refine dq rfl rfl qrA ?_;refine dq rfl rfl qrA ?_;refine dq rfl rfl (zae (out:=k8 ⟨e.t,zjz h x r,zvl e.kind,a,zeb h (zjz h x r) x,x,e.p⟩) rfl (by rfl)) ?_
  refine rn ?_;refine dw 0 rfl rfl rfl rfl rfl (Nat.le_of_ble_eq_true rfl) ?_
  refine rn2 ?_;show zcp _ _ _ _ _ _ ⟨_,.box b7 41 (k8 ⟨e.t,zjz h x r,zvl e.kind,a,zeb h (zjz h x r) x,x,e.p⟩):: .box be 60 (evR e):: .box ba 3 [iv (a:Int)]:: .box bp 119 (rwP h rc rl rk rg)::rgR rg M::rkS h rk::zbb h rl::rcR h rc:: .glob 2 156 y5:: .glob 4 305 y7:: .glob 5 308 y2:: .glob 3 246 u0:: .glob 1 175 zaf:: .glob 0 171 [mpv rO]:: .obj rO oK::W,_⟩
  refine rn ?_;exact ze0 (.cons _ _ _ _ (.agg _ _ _ _ _ _ _ rfl inferInstance inferInstance inferInstance rfl) (.cons _ _ _ _ (.tmp _ _ rfl) .nil)) (.drop [_] _ _) ⟨rfl,by rw [zzs,zqw,if_neg hr,if_neg hr];rfl⟩
theorem zwz (h:Hist) (a:Nat) (rc rl rk rg:Nat) (W:List Res):y8 Tryz.prog 88 [.agg (rwP h rc rl rk rg),iv (a:Int)] W (fun r h'=>∃ba bp,h'= .box ba 3 [iv (a:Int)]:: .box bp 119 (rwP h rc rl rk rg)::W∧r= .fn (.func 134) [] [pZ bp,pZ ba]):=by
 refine z6 Tryz.func88 rfl rfl rfl ?_
 refine rn ?_;refine z8 rfl (w9 rfl rfl rfl fun b2=> ?_)
 refine z8 rfl (w9 rfl rfl rfl fun b3=> ?_)
 refine rn ?_;exact j9 rfl (.refl _ _) ⟨_,_,rfl,rfl⟩
theorem zwy {σ:Type} (h:Hist) (la:Lim 4611686018427387904 h) (hc:u6 h=0) (a:Nat) (ha:a < h.evs.length) (y:AV) (bp ba:Nat) (rc rl rk rg:Nat) (M0:List ((Int×Int)×List Int)) (hM0:zoc h M0) (rO:Nat) (oK:Obj) (hK:KO oK) (p:List Conf→σ→Prop) (q:σ→Prop) (I:List Conf→σ→List Res) (X:σ→List Res) (x0:σ) (hp0:p [] x0) (hy:∀pre d rest x M,zb5 h h.evs[a] a=pre++d::rest→p pre x→zoc h M→y0 Tryz.prog y [.agg (k8 d)] (.box ba 3 [iv (a:Int)]:: .box bp 119 (rwP h rc rl rk rg)::rgR rg M::rkS h rk::zbb h rl::rcR h rc:: .glob 2 156 y5:: .glob 4 305 y7:: .glob 5 308 y2:: .glob 3 246 u0:: .glob 1 175 zaf:: .glob 0 171 [mpv rO]:: .obj rO oK::I pre x) (fun r h'=>∃x',(r=bv true∧p (pre++ [d]) x'∧h'= .box ba 3 [iv (a:Int)]:: .box bp 119 (rwP h rc rl rk rg)::rgR rg M::rkS h rk::zbb h rl::rcR h rc:: .glob 2 156 y5:: .glob 4 305 y7:: .glob 5 308 y2:: .glob 3 246 u0:: .glob 1 175 zaf:: .glob 0 171 [mpv rO]:: .obj rO oK::I (pre++ [d]) x')∨(r=bv false∧q x'∧h'= .box ba 3 [iv (a:Int)]:: .box bp 119 (rwP h rc rl rk rg)::rgR rg M::rkS h rk::zbb h rl::rcR h rc:: .glob 2 156 y5:: .glob 4 305 y7:: .glob 5 308 y2:: .glob 3 246 u0:: .glob 1 175 zaf:: .glob 0 171 [mpv rO]:: .obj rO oK::X x'))):y8 Tryz.prog 134 [y,pZ bp,pZ ba] (.box ba 3 [iv (a:Int)]:: .box bp 119 (rwP h rc rl rk rg)::rgR rg M0::rkS h rk::zbb h rl::rcR h rc:: .glob 2 156 y5:: .glob 4 305 y7:: .glob 5 308 y2:: .glob 3 246 u0:: .glob 1 175 zaf:: .glob 0 171 [mpv rO]:: .obj rO oK::I [] x0) (fun r h'=>∃x M,zoc h M∧((p (zb5 h h.evs[a] a) x∧h'= .box ba 3 [iv (a:Int)]:: .box bp 119 (rwP h rc rl rk rg)::rgR rg M::rkS h rk::zbb h rl::rcR h rc:: .glob 2 156 y5:: .glob 4 305 y7:: .glob 5 308 y2:: .glob 3 246 u0:: .glob 1 175 zaf:: .glob 0 171 [mpv rO]:: .obj rO oK::I (zb5 h h.evs[a] a) x)∨(q x∧h'= .box ba 3 [iv (a:Int)]:: .box bp 119 (rwP h rc rl rk rg)::rgR rg M::rkS h rk::zbb h rl::rcR h rc:: .glob 2 156 y5:: .glob 4 305 y7:: .glob 5 308 y2:: .glob 3 246 u0:: .glob 1 175 zaf:: .glob 0 171 [mpv rO]:: .obj rO oK::X x))):=by
 refine z6 Tryz.func134 rfl rfl rfl ?_
 have ra:=zal (f:=evR) ha
 have hok:=seen_ok hc (List.getElem_mem ha) a
 have hol:=hok.1
 obtain ⟨kn,k1,k6,hkn⟩:=yrz hc (List.getElem_mem ha)
 refine w8 (y4 ?_)
 refine q1 ?_;refine q1 ?_;refine q1 ?_;refine q1 ?_;refine qq rfl rfl (zc9 rfl rfl ra) ?_
 refine rn ?_;refine z8 rfl (y3 rfl fun b4=> ?_)
 first|refine z8 rfl (k7 rfl rfl rfl ?_)|refine z8 rfl (zan rfl rfl rfl rfl (Nat.le_of_ble_eq_true rfl) ?_)
 refine u9 (zai ?_)
 refine w8 ?_;refine w8 (y4 ?_)
 refine q1 ?_;refine q1 ?_;refine q1 ?_;refine q1 ?_;refine qq rfl rfl (zb8 (enc:=intK) (k:=h.evs[a].t) false rfl rfl) ?_
 refine rn ?_;refine z7 rfl (fun hc23=> ?_) (fun hc23=> ?_)
 ·have hm:zf1 h.evs h.evs[a].t 5=false:=by rw [←zht];simpa using hc23
  refine rn ?_;exact ze0 .nil (.drop [_] _ _) ⟨x0,M0,hM0,.inl ⟨by rw [ydh a hm];exact hp0,by rw [ydh a hm]⟩⟩
 ·have hm:zf1 h.evs h.evs[a].t 5=true:=by rw [←zht];simpa using hc23
  refine za2 ?_;refine rn0 ?_;refine w8 (y4 ?_)
  refine rn0 ?_;refine w8 ?_;refine zig 9 [6] [7] (fun he=>∃M,he= .box b4 60 (evR h.evs[a]):: .box ba 3 [iv (a:Int)]:: .box bp 119 (rwP h rc rl rk rg)::rgR rg M::rkS h rk::zbb h rl::rcR h rc:: .glob 2 156 y5:: .glob 4 305 y7:: .glob 5 308 y2:: .glob 3 246 u0:: .glob 1 175 zaf:: .glob 0 171 [mpv rO]:: .obj rO oK::I [] x0) rfl rfl ⟨_,rfl⟩ ?_
  refine jq rfl (fun he hC=>by obtain ⟨M,rfl⟩:=hC <;> exact qrA) ?_
  refine jq rfl (fun he hC=>by obtain ⟨M,rfl⟩:=hC <;> exact (by exact zjq (zak rfl rfl) (show iv _=iv (kn:Nat) from congrArg iv hkn))) ?_
  refine jq rfl (fun he hC=>by obtain ⟨M,rfl⟩:=hC <;> exact (by exact zas rfl rfl (by show kn < 7;omega))) ?_
  refine jq rfl (fun he hC=>by obtain ⟨M,rfl⟩:=hC <;> exact (by exact zak rfl (show zaf[0+kn * 1]? =some (ygc kn) by rw [Nat.zero_add,Nat.mul_one];exact yga k6))) ?_
  refine jq rfl (fun he hC=>by obtain ⟨M,rfl⟩:=hC <;> exact qrA) ?_
  refine jq rfl (fun he hC=>by obtain ⟨M,rfl⟩:=hC <;> exact qrA) ?_
  refine je rfl ?_;refine je rfl ?_;refine jq rfl (fun he hC=>by obtain ⟨M,rfl⟩:=hC <;> exact qrA) ?_
  refine yib ?_;refine jce rfl fun u=> ?_
  refine v7 rfl rfl (y0.fr3 (yp6 h la hc a ha rc rl rk rg M0 hM0 (.glob 1 175 zaf:: .glob 0 171 [mpv rO]:: .obj rO oK::I [] x0) k1 k6 hkn)) rfl ?_
  rintro _ _ ⟨_,rfl,M,hM,rfl,rfl⟩
  refine ⟨_,_,rfl,⟨_,rfl⟩,?_⟩
  refine jcn ?_;refine lq rfl rfl (by exact qrA) ?_
  refine ln ?_;refine rn ?_;refine zhz (u7 h h.evs[a] a).length (fun i (x:σ)=>p (((u7 h h.evs[a] a).take i).flatMap (rwF h h.evs[a] a)) x) (fun i x=>⟨[(33,iv i),(0,y),(5,.fn (.func 135) [] [pZ bp,pZ b4,pZ ba]),(31,ziz (u7 h h.evs[a] a)),(32,iv ((u7 h h.evs[a] a).map zqd).length)],.box b4 60 (evR h.evs[a]):: .box ba 3 [iv (a:Int)]:: .box bp 119 (rwP h rc rl rk rg)::rgR rg M::rkS h rk::zbb h rl::rcR h rc:: .glob 2 156 y5:: .glob 4 305 y7:: .glob 5 308 y2:: .glob 3 246 u0:: .glob 1 175 zaf:: .glob 0 171 [mpv rO]:: .obj rO oK::I (((u7 h h.evs[a] a).take i).flatMap (rwF h h.evs[a] a)) x,[]⟩) x0 hp0 es ?_
  intro i x li zi
  refine rn ?_;refine z7 rfl (fun hc34=> ?_) (fun hc34=> ?_)
  ·have hi:=za3 hc34
   have ri:=zal (f:=zqd) hi
   obtain ⟨⟨o0,o1⟩,ol,orr⟩:=hok.2 _ (List.getElem_mem hi)
   refine rn ?_;refine z8 rfl (y3 rfl fun b7=> ?_)
   refine rn ?_;refine zhz (u7 h h.evs[a] a)[i].2.length (fun j (x:σ)=>p ((((u7 h h.evs[a] a).take i).flatMap (rwF h h.evs[a] a))++((u7 h h.evs[a] a)[i].2.take j).filterMap (zej h h.evs[a] (zf4 h.evs[a]) a (u7 h h.evs[a] a)[i].1)) x) (fun j x=>⟨[(40,iv j),(0,y),(5,.fn (.func 135) [] [pZ bp,pZ b4,pZ ba]),(7,pZ b7),(31,ziz (u7 h h.evs[a] a)),(32,iv ((u7 h h.evs[a] a).map zqd).length),(33,iv i),(38,za1 (u7 h h.evs[a] a)[i].2),(39,iv ((u7 h h.evs[a] a)[i].2.map zac).length)],.box b7 177 (zqd (u7 h h.evs[a] a)[i]):: .box b4 60 (evR h.evs[a]):: .box ba 3 [iv (a:Int)]:: .box bp 119 (rwP h rc rl rk rg)::rgR rg M::rkS h rk::zbb h rl::rcR h rc:: .glob 2 156 y5:: .glob 4 305 y7:: .glob 5 308 y2:: .glob 3 246 u0:: .glob 1 175 zaf:: .glob 0 171 [mpv rO]:: .obj rO oK::I ((((u7 h h.evs[a] a).take i).flatMap (rwF h h.evs[a] a))++((u7 h h.evs[a] a)[i].2.take j).filterMap (zej h h.evs[a] (zf4 h.evs[a]) a (u7 h h.evs[a] a)[i].1)) x,[]⟩) x (by simpa using zi) (by simpa using eA) ?_
   intro j x lj zj
   refine rn ?_;refine z7 rfl (fun hc41=> ?_) (fun hc41=> ?_)
   ·have hj:=za3 hc41
    have rj:=zal (f:=zac) hj
    obtain ⟨u1,u2⟩:=orr _ (List.getElem_mem hj)
    refine rn ?_;refine qv rfl rfl (y1 rfl rfl (y0.qt (y0.of_acall (fs:= []) (cs:= [pZ bp,pZ b4,pZ ba]) (yqd h (u7 h h.evs[a] a)[i].1 (u7 h h.evs[a] a)[i].2[j] o0 o1 u1 u2 h.evs[a] a bp b4 ba rc rl rk rg M rO oK hK (I ((((u7 h h.evs[a] a).take i).flatMap (rwF h h.evs[a] a))++((u7 h h.evs[a] a)[i].2.take j).filterMap (zej h h.evs[a] (zf4 h.evs[a]) a (u7 h h.evs[a] a)[i].1)) x))) (List.perm_append_comm (l₁:= [_])))) ?_
    refine rn ?_;refine z8 rfl (y3 rfl fun b10=> ?_)
    refine rn ?_;refine w6 (fun hg10_1=> ?_) (fun hg10_1=> ?_)
    ·refine q1 ?_;refine q1 ?_;obtain ⟨rest,hL⟩:=yqk hm hi hj (ykc hg10_1)
     refine z8 rfl (v7 rfl rfl (y0.fr3 (hy ((((u7 h h.evs[a] a).take i).flatMap (rwF h h.evs[a] a))++((u7 h h.evs[a] a)[i].2.take j).filterMap (zej h h.evs[a] (zf4 h.evs[a]) a (u7 h h.evs[a] a)[i].1)) _ rest x M hL zj hM)) rfl ?_)
     rintro _ _ ⟨_,rfl,x',⟨rfl,hp',rfl⟩|⟨rfl,hq',rfl⟩⟩
     ·refine rn ?_;refine z7 rfl (fun hc58=> ?_) (fun hc58=> ?_)
      ·first|cases hc58|exact absurd hc58 (by decide)|(exfalso;simp_all;done)
      ·refine rn ?_;first|exact ⟨hj,x',by rw [ytn hj hg10_1];exact hp',by rw [ytn hj hg10_1];exact eA⟩|exact ⟨hj,x,by rw [yto hj hg10_1];exact zj,by rw [yto hj hg10_1];exact eA⟩
     ·refine rn ?_;refine z7 rfl (fun hc58=> ?_) (fun hc58=> ?_)
      ·refine rn ?_;exact ze0 .nil (.drop [_,_,_] _ _) ⟨x',M,hM,.inr ⟨hq',rfl⟩⟩
      ·first|cases hc58|exact absurd hc58 (by decide)|(exfalso;simp_all;done)
    ·refine rn ?_;refine zfu rfl ?_;refine rn ?_;first|exact ⟨hj,x',by rw [ytn hj hg10_1];exact hp',by rw [ytn hj hg10_1];exact eA⟩|exact ⟨hj,x,by rw [yto hj hg10_1];exact zj,by rw [yto hj hg10_1];exact eA⟩
   ·have qj:=za4 hc41 lj
    refine rn ?_;exact ⟨hi,x,by rw [←yjt hi qj];exact zj,by rw [←yjt hi qj];exact eA⟩
  ·have qi:=za4 hc34 li
   refine rn ?_;exact zfx .nil (.drop [_] _ _) ⟨x,M,hM,.inl ⟨by rw [zvs a hm];rw [qi,List.take_length] at zi;exact zi,by rw [zvs a hm,qi,List.take_length]⟩⟩
end Go.Proofs
