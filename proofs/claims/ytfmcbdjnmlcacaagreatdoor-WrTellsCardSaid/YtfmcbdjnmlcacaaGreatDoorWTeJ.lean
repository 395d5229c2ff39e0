/- The walk of the reference's test of an event. Conditions: none. -/
import Derived.Test.YtfmcbdjnmlcacaaGreatDoorWTeI
set_option maxHeartbeats 4000000
set_option linter.unusedSectionVars false
set_option linter.unusedSimpArgs false
set_option linter.unusedVariables false
set_option maxRecDepth 10000
namespace Go.Proofs
open Go Go.Ab
attribute [local irreducible] QR QV OE zch aw zc6 zdc zbg zb8 thn zfa
open Go.H
theorem bvz0_3261 {a b:Bool} (h:a=b:=by first|(simp only [zk9,zwj, *,Bool.true_and,Bool.false_and,Bool.and_false,Bool.and_true,Bool.true_or,Bool.or_false,Bool.false_or,Bool.or_true,if_true,if_false,Bool.false_eq_true,Bool.not_true,Bool.not_false];done)|(simp_all [zk9,zwj];done)|(simp_all [zk9,zwj] <;> omega)):bv a=bv b:=congrArg bv h
theorem zzi (h:Hist) (e:Ev) (hl:e.scan.length≤4611686018427387904):y7 Tryz.prog 164 [.agg (y9 h),.agg (evR e)] [] (fun r h'=>h'= []∧r=bv (zk9 h e)):=by
 refine z6 Tryz.func164 rfl rfl rfl ?_
 refine rn ?_;refine z8 rfl (w8 rfl rfl rfl fun b2=> ?_)
 refine z8 rfl (w8 rfl rfl rfl fun b3=> ?_)
 refine rn ?_;refine qv rfl rfl (y0 rfl rfl (v8 (zjn _ _) (Sbs.refl _))) ?_
 refine rn ?_;refine z7 rfl (fun hc16=> ?_) (fun hc16=> ?_)
 ·refine rn ?_;exact j6 rfl (.drop [_,_] _ _) ⟨rfl,bvz0_3261⟩
 ·refine rn ?_;refine z8 rfl (y5 rfl fun b6=> ?_)
  refine rn ?_;refine z7 rfl (fun hc24=> ?_) (fun hc24=> ?_)
  ·refine rn ?_;refine zcw 6 [(b6,60,_)] rfl (List.perm_append_comm (l₁:= [_])) ?_
   refine rn ?_;refine dw 0 rfl rfl rfl rfl rfl (Nat.le_of_ble_eq_true rfl) ?_
   refine rn2 ?_;show zch _ _ _ _ _ _ ⟨_,.box b6 60 [iv e.kind,iv e.t,iv e.s,iv 0,iv 0,iv 0,iv 0,iv 0,.v (.slice none 0 0)]:: .box b3 60 (evR e):: .box b2 28 (y9 h):: [],_⟩
   refine rn0 ?_;refine w9 ?_;show aw _ _ _ _ _ ⟨_,.box b6 60 [iv e.kind,iv e.t,iv e.s,iv e.l,iv 0,iv 0,iv 0,iv 0,.v (.slice none 0 0)]:: .box b3 60 (evR e):: .box b2 28 (y9 h):: [],_⟩
   refine rn ?_;refine qv rfl rfl (y0 rfl rfl (v8 (zfx ⟨e.kind,e.t,e.s,e.l,0,⟨0,0⟩,0,[]⟩ e (by simp [hl]) hl) (by exact ⟨(by exact Sb.aggs (by exact ⟨.refl _,.refl _,.refl _,.refl _,.refl _,.refl _,.refl _,.refl _,.nil _ _,trivial⟩)),.refl _,trivial⟩))) ?_
   refine rn ?_;refine w7 (fun hg8_3=> ?_) (fun hg8_3=> ?_)
   ·refine rn ?_;refine qv rfl rfl (y0 rfl rfl (v8 (zjn _ _) (Sbs.refl _))) ?_
    refine rn ?_;refine w7 (fun hg8_11=> ?_) (fun hg8_11=> ?_)
    ·refine rn ?_;refine qv rfl rfl (y0 rfl rfl (v8 (yxd _) (Sbs.refl _))) ?_
     refine rn ?_;exact j6 rfl (.drop [_,_,_] _ _) ⟨rfl,bvz0_3261⟩
    ·refine rn ?_;exact j6 rfl (.drop [_,_,_] _ _) ⟨rfl,bvz0_3261⟩
   ·refine rn ?_;exact j6 rfl (.drop [_,_,_] _ _) ⟨rfl,bvz0_3261⟩
  ·refine rn ?_;refine z7 rfl (fun hc48=> ?_) (fun hc48=> ?_)
   ·refine rn ?_;refine z7 rfl (fun hc48=> ?_) (fun hc48=> ?_)
    ·refine rn ?_;refine zcw 6 [(b6,60,_)] rfl (List.perm_append_comm (l₁:= [_])) ?_
     refine rn ?_;refine dw 0 rfl rfl rfl rfl rfl (Nat.le_of_ble_eq_true rfl) ?_
     refine rn2 ?_;show zch _ _ _ _ _ _ ⟨_,.box b6 60 [iv e.kind,iv e.t,iv 0,iv 0,iv e.o,iv 0,iv 0,iv 0,.v (.slice none 0 0)]:: .box b3 60 (evR e):: .box b2 28 (y9 h):: [],_⟩
     refine rn0 ?_;refine w9 ?_;refine w9 ?_;show aw _ _ _ _ _ ⟨_,.box b6 60 [iv e.kind,iv e.t,iv 0,iv 0,iv e.o,iv e.v.t,iv e.v.k,iv 0,.v (.slice none 0 0)]:: .box b3 60 (evR e):: .box b2 28 (y9 h):: [],_⟩
     refine rn ?_;refine w7 (fun hg12_3=> ?_) (fun hg12_3=> ?_)
     ·refine rn ?_;refine w7 (fun hg12_8=> ?_) (fun hg12_8=> ?_)
      ·refine rn ?_;refine zdh rfl ?_;refine rn ?_;exact j6 rfl (.drop [_,_,_] _ _) ⟨rfl,bvz0_3261⟩
      ·refine rn ?_;refine z7 rfl (fun hc73=> ?_) (fun hc73=> ?_)
       ·refine rn ?_;exact j6 rfl (.drop [_,_,_] _ _) ⟨rfl,bvz0_3261⟩
       ·refine rn ?_;refine qv rfl rfl (y0 rfl rfl (v8 (zfx ⟨e.kind,e.t,0,0,e.o,e.v,0,[]⟩ e (by simp [hl]) hl) (by exact ⟨(by exact Sb.aggs (by exact ⟨.refl _,.refl _,.refl _,.refl _,.refl _,.refl _,.refl _,.refl _,.nil _ _,trivial⟩)),.refl _,trivial⟩))) ?_
        refine rn ?_;refine w7 (fun hg14_3=> ?_) (fun hg14_3=> ?_)
        ·refine rn ?_;refine qv rfl rfl (y0 rfl rfl (v8 (zjn _ _) (Sbs.refl _))) ?_
         refine rn ?_;refine w7 (fun hg14_11=> ?_) (fun hg14_11=> ?_)
         ·refine rn ?_;refine qv rfl rfl (y0 rfl rfl (v8 (zgi e.v _) (Sbs.refl _))) ?_
          refine rn ?_;exact j6 rfl (.drop [_,_,_] _ _) ⟨rfl,bvz0_3261⟩
         ·refine rn ?_;exact j6 rfl (.drop [_,_,_] _ _) ⟨rfl,bvz0_3261⟩
        ·refine rn ?_;exact j6 rfl (.drop [_,_,_] _ _) ⟨rfl,bvz0_3261⟩
     ·refine rn ?_;refine zdo rfl ?_;refine rn ?_;refine qv rfl rfl (y0 rfl rfl (v8 (zfx ⟨e.kind,e.t,0,0,e.o,e.v,0,[]⟩ e (by simp [hl]) hl) (by exact ⟨(by exact Sb.aggs (by exact ⟨.refl _,.refl _,.refl _,.refl _,.refl _,.refl _,.refl _,.refl _,.nil _ _,trivial⟩)),.refl _,trivial⟩))) ?_
      refine rn ?_;refine w7 (fun hg14_3=> ?_) (fun hg14_3=> ?_)
      ·refine rn ?_;refine qv rfl rfl (y0 rfl rfl (v8 (zjn _ _) (Sbs.refl _))) ?_
       refine rn ?_;refine w7 (fun hg14_11=> ?_) (fun hg14_11=> ?_)
       ·refine rn ?_;refine qv rfl rfl (y0 rfl rfl (v8 (zgi e.v _) (Sbs.refl _))) ?_
        refine rn ?_;exact j6 rfl (.drop [_,_,_] _ _) ⟨rfl,bvz0_3261⟩
       ·refine rn ?_;exact j6 rfl (.drop [_,_,_] _ _) ⟨rfl,bvz0_3261⟩
      ·refine rn ?_;exact j6 rfl (.drop [_,_,_] _ _) ⟨rfl,bvz0_3261⟩
    ·first|cases hc48|exact absurd hc48 (by decide)|(exfalso;simp_all;done)
   ·refine rn ?_;refine z7 rfl (fun hc48=> ?_) (fun hc48=> ?_)
    ·refine rn ?_;refine zcw 6 [(b6,60,_)] rfl (List.perm_append_comm (l₁:= [_])) ?_
     refine rn ?_;refine dw 0 rfl rfl rfl rfl rfl (Nat.le_of_ble_eq_true rfl) ?_
     refine rn2 ?_;show zch _ _ _ _ _ _ ⟨_,.box b6 60 [iv e.kind,iv e.t,iv 0,iv 0,iv e.o,iv 0,iv 0,iv 0,.v (.slice none 0 0)]:: .box b3 60 (evR e):: .box b2 28 (y9 h):: [],_⟩
     refine rn0 ?_;refine w9 ?_;refine w9 ?_;show aw _ _ _ _ _ ⟨_,.box b6 60 [iv e.kind,iv e.t,iv 0,iv 0,iv e.o,iv e.v.t,iv e.v.k,iv 0,.v (.slice none 0 0)]:: .box b3 60 (evR e):: .box b2 28 (y9 h):: [],_⟩
     refine rn ?_;refine w7 (fun hg12_3=> ?_) (fun hg12_3=> ?_)
     ·refine rn ?_;refine w7 (fun hg12_8=> ?_) (fun hg12_8=> ?_)
      ·refine rn ?_;refine zdh rfl ?_;refine rn ?_;exact j6 rfl (.drop [_,_,_] _ _) ⟨rfl,bvz0_3261⟩
      ·refine rn ?_;refine z7 rfl (fun hc73=> ?_) (fun hc73=> ?_)
       ·refine rn ?_;exact j6 rfl (.drop [_,_,_] _ _) ⟨rfl,bvz0_3261⟩
       ·refine rn ?_;refine qv rfl rfl (y0 rfl rfl (v8 (zfx ⟨e.kind,e.t,0,0,e.o,e.v,0,[]⟩ e (by simp [hl]) hl) (by exact ⟨(by exact Sb.aggs (by exact ⟨.refl _,.refl _,.refl _,.refl _,.refl _,.refl _,.refl _,.refl _,.nil _ _,trivial⟩)),.refl _,trivial⟩))) ?_
        refine rn ?_;refine w7 (fun hg14_3=> ?_) (fun hg14_3=> ?_)
        ·refine rn ?_;refine qv rfl rfl (y0 rfl rfl (v8 (zjn _ _) (Sbs.refl _))) ?_
         refine rn ?_;refine w7 (fun hg14_11=> ?_) (fun hg14_11=> ?_)
         ·refine rn ?_;refine qv rfl rfl (y0 rfl rfl (v8 (zgi e.v _) (Sbs.refl _))) ?_
          refine rn ?_;exact j6 rfl (.drop [_,_,_] _ _) ⟨rfl,bvz0_3261⟩
         ·refine rn ?_;exact j6 rfl (.drop [_,_,_] _ _) ⟨rfl,bvz0_3261⟩
        ·refine rn ?_;exact j6 rfl (.drop [_,_,_] _ _) ⟨rfl,bvz0_3261⟩
     ·refine rn ?_;refine zdo rfl ?_;refine rn ?_;refine qv rfl rfl (y0 rfl rfl (v8 (zfx ⟨e.kind,e.t,0,0,e.o,e.v,0,[]⟩ e (by simp [hl]) hl) (by exact ⟨(by exact Sb.aggs (by exact ⟨.refl _,.refl _,.refl _,.refl _,.refl _,.refl _,.refl _,.refl _,.nil _ _,trivial⟩)),.refl _,trivial⟩))) ?_
      refine rn ?_;refine w7 (fun hg14_3=> ?_) (fun hg14_3=> ?_)
      ·refine rn ?_;refine qv rfl rfl (y0 rfl rfl (v8 (zjn _ _) (Sbs.refl _))) ?_
       refine rn ?_;refine w7 (fun hg14_11=> ?_) (fun hg14_11=> ?_)
       ·refine rn ?_;refine qv rfl rfl (y0 rfl rfl (v8 (zgi e.v _) (Sbs.refl _))) ?_
        refine rn ?_;exact j6 rfl (.drop [_,_,_] _ _) ⟨rfl,bvz0_3261⟩
       ·refine rn ?_;exact j6 rfl (.drop [_,_,_] _ _) ⟨rfl,bvz0_3261⟩
      ·refine rn ?_;exact j6 rfl (.drop [_,_,_] _ _) ⟨rfl,bvz0_3261⟩
    ·refine rn ?_;refine z7 rfl (fun hc91=> ?_) (fun hc91=> ?_)
     ·refine rn ?_;refine zcw 6 [(b6,60,_)] rfl (List.perm_append_comm (l₁:= [_])) ?_
      refine rn ?_;refine dw 0 rfl rfl rfl rfl rfl (Nat.le_of_ble_eq_true rfl) ?_
      refine rn2 ?_;show zch _ _ _ _ _ _ ⟨_,.box b6 60 [iv e.kind,iv e.t,iv 0,iv 0,iv 0,iv 0,iv 0,iv e.p,.v (.slice none 0 0)]:: .box b3 60 (evR e):: .box b2 28 (y9 h):: [],_⟩
      refine rn0 ?_;refine w9 ?_;refine w9 ?_;show aw _ _ _ _ _ ⟨_,.box b6 60 [iv e.kind,iv e.t,iv 0,iv 0,iv 0,iv 0,iv 0,iv e.p,zei e.scan]:: .box b3 60 (evR e):: .box b2 28 (y9 h):: [],_⟩
      refine rn ?_;refine k7 (fun k:Nat=>k≤e.scan.length∧e.scan.all (zb4 h)=(e.scan.drop k).all (zb4 h)) (fun k=>⟨[(102,iv k),(101,iv (e.scan.map zaj).length),(100,zei e.scan),(2,pZ b2),(3,pZ b3),(6,pZ b6),(5,iv (h.ts.map zdi).length)],[.box b6 60 (evR ⟨e.kind,e.t,0,0,0,⟨0,0⟩,e.p,e.scan⟩),.box b3 60 (evR e),.box b2 28 (y9 h)],[]⟩) (fun k=>e.scan.length - k) 0 ⟨Nat.zero_le _,by simp⟩
       (v1 (.cons _ _ _ rfl (.cons _ _ _ rfl (.cons _ _ _ rfl (.cons _ _ _ rfl (.cons _ _ _ rfl (.cons _ _ _ rfl (.cons _ _ _ rfl (.nil))))))))) ?_
      rintro k ⟨hk,hz⟩
      refine rn ?_;refine z7 rfl (fun hc103=> ?_) (fun hc103=> ?_)
      ·have hk2:k < e.scan.length:=by simpa using hc103
       obtain ⟨s,hs⟩:∃s,s=e.scan[k]:=⟨_,rfl⟩
       have hrow:(e.scan.map zaj)[k]? =some (zaj s):=by rw [hs];simp [hk2]
       have hd:=List.drop_eq_getElem_cons hk2
       rw [←hs] at hd
       refine rn ?_;refine z8 rfl (y5 rfl fun b8=> ?_)
       refine rn ?_;refine qv rfl rfl (y0 rfl rfl (v8 (zjn _ _) (Sbs.refl _))) ?_
       refine rn ?_;refine w7 (fun hg20_7=> ?_) (fun hg20_7=> ?_)
       ·refine rn ?_;refine zdh rfl ?_;have hx:zb4 h s=false:=by clear hz hd hrow hs hc103 hk2 hk;simp_all [zb4]
        have hall:e.scan.all (zb4 h)=false:=by rw [hz,hd,List.all_cons,hx,Bool.false_and]
        clear hz hd hx hrow
        refine rn ?_;exact j6 rfl (.drop [_,_,_,_] _ _) ⟨rfl,bvz0_3261⟩
       ·refine rn ?_;refine qv rfl rfl (y0 rfl rfl (v8 (zgi s.v _) (Sbs.refl _))) ?_
        refine rn ?_;refine z7 rfl (fun hc119=> ?_) (fun hc119=> ?_)
        ·have hx:zb4 h s=false:=by clear hz hd hrow hs hc103 hk2 hk;simp_all [zb4]
         have hall:e.scan.all (zb4 h)=false:=by rw [hz,hd,List.all_cons,hx,Bool.false_and]
         clear hz hd hx hrow
         refine rn ?_;exact j6 rfl (.drop [_,_,_,_] _ _) ⟨rfl,bvz0_3261⟩
        ·have hx:zb4 h s=true:=by clear hz hd hrow hs hc103 hk2 hk;simp_all [zb4]
         refine rn ?_;exact ⟨k+1,⟨by omega,by rw [hz,hd,List.all_cons,hx,Bool.true_and]⟩,(v6 (zbm (h1:= [_])) (v1 (.cons _ _ _ rfl (.cons _ _ _ rfl (.cons _ _ _ rfl (.cons _ _ _ rfl (.cons _ _ _ rfl (.cons _ _ _ rfl (.cons _ _ _ rfl (.nil)))))))))),by omega⟩
      ·have hk3:k=e.scan.length:=by
        have:e.scan.length≤k:=by simpa using hc103
        omega
       rw [hk3,List.drop_length,List.all_nil] at hz
       refine rn ?_;refine qv rfl rfl (y0 rfl rfl (v8 (zfx ⟨e.kind,e.t,0,0,0,⟨0,0⟩,e.p,e.scan⟩ e (by simp [hl]) hl) (by exact ⟨(by exact Sb.aggs (by exact ⟨.refl _,.refl _,.refl _,.refl _,.refl _,.refl _,.refl _,.refl _,.refl _,trivial⟩)),.refl _,trivial⟩))) ?_
       refine rn ?_;refine w7 (fun hg23_3=> ?_) (fun hg23_3=> ?_)
       ·refine rn ?_;refine qv rfl rfl (y0 rfl rfl (v8 (zjn _ _) (Sbs.refl _))) ?_
        refine rn ?_;refine w7 (fun hg23_11=> ?_) (fun hg23_11=> ?_)
        ·refine rn ?_;exact j6 rfl (.drop [_,_,_] _ _) ⟨rfl,bvz0_3261⟩
        ·refine rn ?_;exact j6 rfl (.drop [_,_,_] _ _) ⟨rfl,bvz0_3261⟩
       ·refine rn ?_;exact j6 rfl (.drop [_,_,_] _ _) ⟨rfl,bvz0_3261⟩
     ·refine rn ?_;refine qv rfl rfl (y0 rfl rfl (v8 (zfx ⟨e.kind,e.t,0,0,0,⟨0,0⟩,0,[]⟩ e (by simp [hl]) hl) (by exact ⟨(by exact Sb.aggs (by exact ⟨.refl _,.refl _,.refl _,.refl _,.refl _,.refl _,.refl _,.refl _,.nil _ _,trivial⟩)),.refl _,trivial⟩))) ?_
      refine rn ?_;refine w7 (fun hg24_3=> ?_) (fun hg24_3=> ?_)
      ·refine rn ?_;refine w7 (fun hg24_7=> ?_) (fun hg24_7=> ?_)
       ·refine rn ?_;exact j6 rfl (.drop [_,_,_] _ _) ⟨rfl,bvz0_3261⟩
       ·refine rn ?_;exact j6 rfl (.drop [_,_,_] _ _) ⟨rfl,bvz0_3261⟩
      ·refine rn ?_;exact j6 rfl (.drop [_,_,_] _ _) ⟨rfl,bvz0_3261⟩
end Go.Proofs
namespace Go.Ab
open Go
section
variable {P:Program} {dst:Option Tmp} {ty:TypeId} {pos:String} {after:Array Edge} {guard:Option (Nat×Bool)} {x:Operand} {h:List Res} {f:Operand→Option AV}
theorem zo3 {S T:TypeId} {k:IntKind} {n:Int} (hx:f x=some (.v (.int k n))) [hs:Und P S (.int k)] [ht:Und P T .string]:
 QR P h f ⟨dst,.convert S T x,ty,pos,after,guard⟩ (.v (.string (Utf8.encode n))):=fun X ρ w he=>by
 refine ⟨_,run_v _ ?_,.v _⟩
 rw [(he.rel x _ hx).v_eq]
 simp only [convert,Sem.run_bind,Go.Ab.run_underlying (d:=TypeDesc.int k),Go.Ab.run_underlying (d:=TypeDesc.string),Result.andThen_ok]
 rfl
end
end Go.Ab
set_option maxRecDepth 10000
namespace Go.Proofs
open Go Go.Ab
attribute [local irreducible] QR QV OE zch aw zc6 zdc zbg zb8 thn zfa
open Go.H
theorem ycq (s:ByteArray):y7 Tryz.prog 256 [sv s] [] (fun r h'=>h'= []∧r= .tup [.v (.int .i32 (zcf s).1),iv (zcf s).2]):=by
 refine z6 Tryz.func256 rfl rfl rfl ?_
 refine rn ?_;refine z8 rfl (zlx rfl rfl fun b8=> ?_)
 refine rn ?_;refine k7 (fun x:Unit=>True) (fun x=>⟨[(8,pZ b8),(0,sv s),(2,.v (.int .i32 0)),(3,iv 0)],[.obj b8 (.stringIter s 0)],[]⟩) (fun x=>0) () trivial
  (v1 (.cons _ _ _ rfl (.cons _ _ _ rfl (.cons _ _ _ rfl (.cons _ _ _ rfl (.nil)))))) ?_
 rintro _ _
 refine w9 (y6 ?_)
 refine z8 rfl (zn0 rfl rfl (fun hp=> ?_) (fun hp=> ?_))
 ·refine rn ?_;refine z7 rfl (fun hc10=> ?_) (fun hc10=> ?_)
  ·first|cases hc10|exact absurd hc10 (by decide)|(exfalso;simp_all;done)
  ·refine rn ?_;exact zb0 rfl rfl (.drop1 _ _ _) ⟨rfl,by first|(rw [zcf,if_pos hp];rfl)|(rw [zcf,if_neg (by omega)];split <;> first|rfl|(exfalso;simp_all;done)|(exfalso;simp_all;omega))⟩
 ·refine rn ?_;refine z7 rfl (fun hc10=> ?_) (fun hc10=> ?_)
  ·refine rn ?_;refine z7 rfl (fun hc14=> ?_) (fun hc14=> ?_)
   ·exact absurd hc14 (by decide)
   ·refine za8 ?_;refine zag ?_;refine w9 (y6 ?_)
    refine q1 ?_;refine qq rfl rfl (zo3 rfl) ?_
    refine rn ?_;refine w7 (fun hg6_2=> ?_) (fun hg6_2=> ?_)
    ·refine rn ?_;refine w7 (fun hg6_6=> ?_) (fun hg6_6=> ?_)
     ·refine rn ?_;refine z7 rfl (fun hc29=> ?_) (fun hc29=> ?_)
      ·refine rn ?_;exact zb0 rfl rfl (.drop1 _ _ _) ⟨rfl,by first|(rw [zcf,if_pos hp];rfl)|(rw [zcf,if_neg (by omega)];split <;> first|rfl|(exfalso;simp_all;done)|(exfalso;simp_all;omega))⟩
      ·first|cases hc29|exact absurd hc29 (by decide)|(exfalso;simp_all;done)
     ·refine q1 ?_;refine qq rfl rfl (zem (k:=3) rfl rfl (by have:=hg6_6;simp at this;omega)) ?_
      refine rn ?_;refine z7 rfl (fun hc29=> ?_) (fun hc29=> ?_)
      ·refine rn ?_;exact zb0 rfl rfl (.drop1 _ _ _) ⟨rfl,by first|(rw [zcf,if_pos hp];rfl)|(rw [zcf,if_neg (by omega)];split <;> first|rfl|(exfalso;simp_all;done)|(exfalso;simp_all;omega))⟩
      ·refine rn ?_;exact zb0 rfl rfl (.drop1 _ _ _) ⟨rfl,by first|(rw [zcf,if_pos hp];rfl)|(rw [zcf,if_neg (by omega)];split <;> first|rfl|(exfalso;simp_all;done)|(exfalso;simp_all;omega))⟩
    ·refine rn ?_;refine z7 rfl (fun hc29=> ?_) (fun hc29=> ?_)
     ·first|cases hc29|exact absurd hc29 (by decide)|(exfalso;simp_all;done)
     ·refine rn ?_;exact zb0 rfl rfl (.drop1 _ _ _) ⟨rfl,by first|(rw [zcf,if_pos hp];rfl)|(rw [zcf,if_neg (by omega)];split <;> first|rfl|(exfalso;simp_all;done)|(exfalso;simp_all;omega))⟩
  ·first|cases hc10|exact absurd hc10 (by decide)|(exfalso;simp_all;done)
theorem zzr (s:ByteArray) (c n:Int) (h:zcf s=(c,n)):y7 Tryz.prog 256 [sv s] [] (fun r h'=>h'= []∧r= .tup [.v (.int .i32 c),iv n]):=
 (ycq s).mono fun _ _ q=>⟨q.1,by rw [q.2,h]⟩
theorem yhm (s:ByteArray):y7 Tryz.prog 214 [sv s] [] (fun r h'=>h'= []∧r=bv (zho s)):=by
 refine z6 Tryz.func214 rfl rfl rfl ?_
 refine rn ?_;refine w7 (fun hg1_2=> ?_) (fun hg1_2=> ?_)
 ·refine rn ?_;refine zdh rfl ?_;refine rn ?_;refine rq 0 ?_
  exact ⟨rfl,congrArg bv (by first|(rw [zgt,←yew,hg1_2];rfl)|(rw [zgt,decide_eq_false (show ¬(s.size:Int)≤24 by simp at hc12;omega),Bool.and_false];rfl))⟩
 ·refine rn ?_;refine z7 rfl (fun hc12=> ?_) (fun hc12=> ?_)
  ·refine rn ?_;refine rq 0 ?_
   exact ⟨rfl,congrArg bv (by first|(rw [zgt,←yew,hg1_2];rfl)|(rw [zgt,decide_eq_false (show ¬(s.size:Int)≤24 by simp at hc12;omega),Bool.and_false];rfl))⟩
  ·have hlen:s.size≤24:=by simp at hc12;omega
   refine rn ?_;refine zkw (fun i:Nat=>ziy s 0=ziy s i∧i≤48) (fun i=>⟨[(3,iv i),(0,sv s)],[],[]⟩) (fun i=>s.size - i) 0 ⟨rfl,by omega⟩ es ?_
   rintro i ⟨hz,hi⟩
   refine rn ?_;refine z7 rfl (fun hc16=> ?_) (fun hc16=> ?_)
   ·have h1:i < s.size:=by simpa using hc16
    refine za8 ?_;refine zag ?_;refine zcn ?_;refine w9 (y6 ?_)
    refine q1 ?_;refine q1 ?_;refine qq rfl rfl (zel (k:=i) rfl rfl (by omega)) ?_
    obtain ⟨c,n,hw,hn1,hn4⟩:=yjg h1
    refine qv rfl rfl (y0 rfl rfl (v8 (zzr _ c n hw) (Sbs.refl _))) ?_
    refine rn ?_;refine qv rfl rfl (y0 rfl rfl (v8 (zzq _) (Sbs.refl _))) ?_
    refine rn ?_;refine w7 (fun hg6_3=> ?_) (fun hg6_3=> ?_)
    ·refine rn ?_;refine w7 (fun hg6_6=> ?_) (fun hg6_6=> ?_)
     ·refine rn ?_;refine zdh rfl ?_;refine rn ?_;refine rq 0 ?_
      exact ⟨rfl,congrArg bv (by rw [zgt,hz,zpd h1 hw (by simpa using hg6_3) (by first|exact .inl (by simpa using hg6_6)|exact .inr (by simpa using hc35)),Bool.and_false])⟩
     ·refine rn ?_;refine qv rfl rfl (y0 rfl rfl (v8 (zsr _) (Sbs.refl _))) ?_
      refine rn ?_;refine z7 rfl (fun hc35=> ?_) (fun hc35=> ?_)
      ·refine rn ?_;refine rq 0 ?_
       exact ⟨rfl,congrArg bv (by rw [zgt,hz,zpd h1 hw (by simpa using hg6_3) (by first|exact .inl (by simpa using hg6_6)|exact .inr (by simpa using hc35)),Bool.and_false])⟩
      ·refine rn ?_;exact ⟨i+n,⟨hz.trans (zw0 h1 hw hn1 (.inr ⟨by simpa using hg6_6,by simpa using hc35⟩)),by omega⟩,eA,by omega⟩
    ·refine rn ?_;first|(refine qv rfl rfl (y0 rfl rfl (v8 (zsr _) (Sbs.refl _))) ?_)|refine qs rfl rfl ?_|skip
     refine rn ?_;refine zdo rfl ?_;refine rn ?_;exact ⟨i+n,⟨hz.trans (zw0 h1 hw hn1 (.inl (by simpa using hg6_3))),by omega⟩,eA,by omega⟩
   ·have h1:¬i < s.size:=by simpa using hc16
    refine rn ?_;refine rq 0 ?_
    exact ⟨rfl,congrArg bv (by rw [zgt,←yew,hg1_2,hz,yba h1,decide_eq_true (show (s.size:Int)≤24 by omega)];rfl)⟩
theorem ze8 (l:List ByteArray) (most:Nat) (hl:l.length≤4611686018427387904):y7 Tryz.prog 163 [zdd l,iv most] [] (fun r h'=>h'= []∧r=bv (zcu most l)):=by
 refine z6 Tryz.func163 rfl rfl rfl ?_
 refine rn ?_;refine zc8 (l.length) (fun k:Nat=>zbo [] l=zbo (l.take k) (l.drop k)) (fun k=> [(11,iv k)]) [(0,_),(1,_),(9,_),(10,_)] rfl ?_
 intro k lk zk
 refine rn ?_;refine z7 rfl (fun hc12=> ?_) (fun hc12=> ?_)
 ·have hk:=zay hc12
  have rk:=zae (f:=zdi) hk
  refine rn ?_;refine qv rfl rfl (y0 rfl rfl (v8 (yhm _) (Sbs.refl _))) ?_
  refine rn ?_;refine z7 rfl (fun hc18=> ?_) (fun hc18=> ?_)
  ·refine rn ?_;refine rq 0 ?_
   exact ⟨rfl,congrArg bv (by rw [zcu,yo4 hk zk (by simpa using hc18),Bool.and_false])⟩
  ·refine za8 ?_;refine zag ?_;refine w9 (y6 ?_)
   refine q1 ?_;refine q1 ?_;refine qq rfl rfl (zcc (k:=k) rfl rfl (by simp;omega)) ?_
   rw [←List.map_take]
   refine rn ?_;refine zc8 ((l.take k).length) (fun j:Nat=>(l.take k).all (fun t=> !(l[k].toList==t.toList))=((l.take k).drop j).all (fun t=> !(l[k].toList==t.toList))) (fun j=> [(23,iv j)]) [(0,_),(1,_),(6,_),(9,_),(10,_),(11,_),(21,_),(22,_)] rfl ?_
   intro j lj zj
   refine rn ?_;refine z7 rfl (fun hc24=> ?_) (fun hc24=> ?_)
   ·have hj:=zay hc24
    have rj:=zae (f:=zdi) hj
    have bj:(l.take k).length≤4611686018427387904:=by simp;omega
    refine rn ?_;refine z7 rfl (fun hc29=> ?_) (fun hc29=> ?_)
    ·refine rn ?_;refine rq 0 ?_
     exact ⟨rfl,congrArg bv (by rw [zcu,yo5 hk zk (zuf hj (by simpa using hc29)),Bool.and_false])⟩
    ·refine rn ?_;exact ⟨hj,zwo hj zj (by simpa using hc29),eA⟩
   ·have qj:=zaz hc24 lj
    have aj:=yau qj zj
    refine rn ?_;exact ⟨hk,yag hk zk (by simpa using hc18) aj,eA⟩
 ·have qk:=zaz hc12 lk
  refine rn ?_;refine rq 0 ?_
  exact ⟨rfl,congrArg bv (by rw [zcu,yo6 qk zk];simp)⟩
theorem zu0 (h:Hist) (e:Ev) (hl:e.scan.length≤4611686018427387904):y7 Tryz.prog 164 [.agg (y9 h),.agg (evR e)] [] (fun r h'=>h'= []∧r=bv (zb6 h e)):=
 (zzi h e hl).mono fun _ _ q=>⟨q.1,by rw [q.2,zzf]⟩
theorem bvz1_4189 {a b:Bool} (h:a=b:=by rw [ybx (by simp_all) (by simp_all) (by simp_all) (by simp_all) ai aj ak am];first|(simp_all;done)|(simp_all;intros;omega)):bv a=bv b:=congrArg bv h
theorem ycj (h:Hist) (la:Lim 4611686018427387904 h):y7 Tryz.prog 122 [.agg (y9 h)] [] (fun r h'=>h'= []∧r=bv (zah h)):=by
 refine z6 Tryz.func122 rfl rfl rfl ?_
 refine rn ?_;refine z8 rfl (w8 rfl rfl rfl fun b1=> ?_)
 refine rn ?_;refine qv rfl rfl (y0 rfl rfl (v8 (ze8 h.ts 300 la.ts) (Sbs.refl _))) ?_
 refine rn ?_;refine w7 (fun hg1_4=> ?_) (fun hg1_4=> ?_)
 ·refine rn ?_;refine zdh rfl ?_;refine rn ?_;refine rq 1 ?_
  exact ⟨rfl,congrArg bv (by rw [zj7 (by simp_all)])⟩
 ·refine rn ?_;refine qv rfl rfl (y0 rfl rfl (v8 (ze8 h.ss 60 la.ss) (Sbs.refl _))) ?_
  refine rn ?_;refine w7 (fun hg1_10=> ?_) (fun hg1_10=> ?_)
  ·refine rn ?_;refine zdh rfl ?_;refine rn ?_;refine rq 1 ?_
   exact ⟨rfl,congrArg bv (by rw [zj7 (by simp_all)])⟩
  ·refine rn ?_;refine qv rfl rfl (y0 rfl rfl (v8 (ze8 h.os 300 la.os) (Sbs.refl _))) ?_
   refine rn ?_;refine w7 (fun hg1_16=> ?_) (fun hg1_16=> ?_)
   ·refine rn ?_;refine zdh rfl ?_;refine rn ?_;refine rq 1 ?_
    exact ⟨rfl,congrArg bv (by rw [zj7 (by simp_all)])⟩
   ·refine rn ?_;refine qv rfl rfl (y0 rfl rfl (v8 (ze8 h.ps 60 la.ps) (Sbs.refl _))) ?_
    refine rn ?_;refine z7 rfl (fun hc32=> ?_) (fun hc32=> ?_)
    ·refine rn ?_;refine rq 1 ?_
     exact ⟨rfl,congrArg bv (by rw [zj7 (by simp_all)])⟩
    ·refine rn ?_;refine zc8 (h.evs.length) (fun i:Nat=>h.evs.all (zb6 h)=(h.evs.drop i).all (zb6 h)) (fun i=> [(36,iv i)]) [(1,_),(34,_),(35,_)] rfl ?_
     intro i li zi
     refine rn ?_;refine z7 rfl (fun hc37=> ?_) (fun hc37=> ?_)
     ·have hi:=zay hc37
      have ri:=zae (f:=evR) hi
      have bi:=la.evs
      have si:=la.scans h.evs[i] (List.getElem_mem hi)
      refine rn ?_;refine z8 rfl (y5 rfl fun b4=> ?_)
      refine rn ?_;refine qv rfl rfl (y0 rfl rfl (v8 (zu0 h h.evs[i] si) (Sbs.refl _))) ?_
      refine rn ?_;refine z7 rfl (fun hc43=> ?_) (fun hc43=> ?_)
      ·refine rn ?_;refine rq 2 ?_
       exact ⟨rfl,congrArg bv (by rw [yby (zuf hi (by simpa using hc43))])⟩
      ·refine rn ?_;exact ⟨hi,zwo hi zi (by simpa using hc43),eA⟩
     ·have qi:=zaz hc37 li
      have ai:=yau qi zi
      refine rn ?_;refine zc8 (h.ords.length) (fun j:Nat=>h.ords.all (zrz h)=(h.ords.drop j).all (zrz h)) (fun j=> [(48,iv j)]) [(1,_),(46,_),(47,_)] rfl ?_
      intro j lj zj
      refine rn ?_;refine z7 rfl (fun hc49=> ?_) (fun hc49=> ?_)
      ·have hj:=zay hc49
       have rj:=zae (f:=zef) hj
       have bj:=la.ords
       have sj:=la.ordts h.ords[j] (List.getElem_mem hj)
       refine rn ?_;refine z8 rfl (y5 rfl fun b6=> ?_)
       refine rn ?_;refine qv rfl rfl (y0 rfl rfl (v8 (zjn _ _) (Sbs.refl _))) ?_
       refine rn ?_;refine w7 (fun hg12_7=> ?_) (fun hg12_7=> ?_)
       ·refine rn ?_;refine zdh rfl ?_;refine rn ?_;refine rq 2 ?_
        exact ⟨rfl,congrArg bv (by rw [zsi (zuf hj (by rw [zvb];simp_all))])⟩
       ·refine rn ?_;refine qv rfl rfl (y0 rfl rfl (v8 (yq0 h h.ords[j].ts sj) (Sbs.refl _))) ?_
        refine rn ?_;refine z7 rfl (fun hc65=> ?_) (fun hc65=> ?_)
        ·refine rn ?_;refine rq 2 ?_
         exact ⟨rfl,congrArg bv (by rw [zsi (zuf hj (by rw [zvb];simp_all))])⟩
        ·refine rn ?_;exact ⟨hj,zwo hj zj (by rw [zvb];simp_all),eA⟩
      ·have qj:=zaz hc49 lj
       have aj:=yau qj zj
       refine rn ?_;refine zc8 (h.mats.length) (fun k:Nat=>h.mats.all (zvn h)=(h.mats.drop k).all (zvn h)) (fun k=> [(70,iv k)]) [(1,_),(68,_),(69,_)] rfl ?_
       intro k lk zk
       refine rn ?_;refine z7 rfl (fun hc71=> ?_) (fun hc71=> ?_)
       ·have hk:=zay hc71
        have rk:=zae (f:=zd8) hk
        have bk:=la.mats
        have sk:=la.matts h.mats[k] (List.getElem_mem hk)
        refine rn ?_;refine z8 rfl (y5 rfl fun b8=> ?_)
        refine rn ?_;refine qv rfl rfl (y0 rfl rfl (v8 (zjn _ _) (Sbs.refl _))) ?_
        refine rn ?_;refine w7 (fun hg18_7=> ?_) (fun hg18_7=> ?_)
        ·refine rn ?_;refine zdh rfl ?_;refine rn ?_;refine rq 2 ?_
         exact ⟨rfl,congrArg bv (by rw [znj (zuf hk (by rw [zrf];simp_all))])⟩
        ·refine rn ?_;refine qv rfl rfl (y0 rfl rfl (v8 (zjn _ _) (Sbs.refl _))) ?_
         refine rn ?_;refine w7 (fun hg18_16=> ?_) (fun hg18_16=> ?_)
         ·refine rn ?_;refine zdh rfl ?_;refine rn ?_;refine rq 2 ?_
          exact ⟨rfl,congrArg bv (by rw [znj (zuf hk (by rw [zrf];simp_all))])⟩
         ·refine rn ?_;refine qv rfl rfl (y0 rfl rfl (v8 (yq0 h h.mats[k].ts sk) (Sbs.refl _))) ?_
          refine rn ?_;refine z7 rfl (fun hc96=> ?_) (fun hc96=> ?_)
          ·refine rn ?_;refine rq 2 ?_
           exact ⟨rfl,congrArg bv (by rw [znj (zuf hk (by rw [zrf];simp_all))])⟩
          ·refine rn ?_;exact ⟨hk,zwo hk zk (by rw [zrf];simp_all),eA⟩
       ·have qk:=zaz hc71 lk
        have ak:=yau qk zk
        refine rn ?_;refine zc8 (h.wants.length) (fun m:Nat=>h.wants.all (zw4 h)=(h.wants.drop m).all (zw4 h)) (fun m=> [(101,iv m)]) [(1,_),(99,_),(100,_)] rfl ?_
        intro m lm zm
        refine rn ?_;refine z7 rfl (fun hc102=> ?_) (fun hc102=> ?_)
        ·have hm:=zay hc102
         have rm:=zae (f:=zfh) hm
         have bm:=la.wants
         refine rn ?_;refine z8 rfl (y5 rfl fun b10=> ?_)
         refine rn ?_;refine qv rfl rfl (y0 rfl rfl (v8 (zjn _ _) (Sbs.refl _))) ?_
         refine rn ?_;refine w7 (fun hg24_7=> ?_) (fun hg24_7=> ?_)
         ·refine rn ?_;refine zdh rfl ?_;refine rn ?_;refine rq 2 ?_
          exact ⟨rfl,congrArg bv (by rw [zsh (zuf hm (by rw [zuk];simp_all))])⟩
         ·refine rn ?_;refine qv rfl rfl (y0 rfl rfl (v8 (zjn _ _) (Sbs.refl _))) ?_
          refine rn ?_;refine z7 rfl (fun hc117=> ?_) (fun hc117=> ?_)
          ·refine rn ?_;refine rq 2 ?_
           exact ⟨rfl,congrArg bv (by rw [zsh (zuf hm (by rw [zuk];simp_all))])⟩
          ·refine rn ?_;exact ⟨hm,zwo hm zm (by rw [zuk];simp_all),eA⟩
        ·have qm:=zaz hc102 lm
         have am:=yau qm zm
         refine rn ?_;refine w7 (fun hg27_4=> ?_) (fun hg27_4=> ?_)
         ·refine rn ?_;refine w7 (fun hg27_10=> ?_) (fun hg27_10=> ?_)
          ·refine rn ?_;refine w7 (fun hg27_16=> ?_) (fun hg27_16=> ?_)
           ·refine rn ?_;refine rq 1 ?_
            exact ⟨rfl,bvz1_4189⟩
           ·refine rn ?_;refine rq 1 ?_
            exact ⟨rfl,bvz1_4189⟩
          ·refine rn ?_;refine rq 1 ?_
           exact ⟨rfl,bvz1_4189⟩
         ·refine rn ?_;refine rq 1 ?_
          exact ⟨rfl,bvz1_4189⟩
theorem zbp (s:SV) (l:List Int) (n:Int) (hl:l.length≤1000000000):y7 Tryz.prog 166 [.v s.v,iv n] [.row s.v 1 3 (l.map zai)] (fun r h'=>∃s':SV,h'= [.row s'.v 1 3 ((ygh l n).map zai)]∧r= .v s'.v):=by
 refine z6 Tryz.func166 rfl rfl rfl ?_
 refine rn ?_;refine qv rfl rfl (y0 rfl rfl (y1.lend (R:=fun x=>x=iv (atI n 0 l)) (y1.of_fun (zzp (f:=false) l n (by omega))) (fun r hr=>by rw [hr];rfl) (.refl _ _) ⟨ypi,.refl _ _,trivial⟩)) ?_
 refine rn ?_;refine z7 rfl (fun hc8=> ?_) (fun hc8=> ?_)
 ·refine rn ?_;refine rq 0 ?_
  exact ⟨s,by rw [ygh,if_pos (by simpa using hc8)];rfl,rfl⟩
 ·refine rn ?_;refine qv rfl rfl (q6 rfl rfl) ?_
  refine z8 rfl (u7 rfl rfl (by simp;omega) rfl (fun s13=> ?_) (fun r hr=>by simp at hr;subst hr;rfl))
  refine k8 s13 fun sv hsv=> ?_
  subst hsv
  refine rn ?_;refine rq 0 ?_
  exact ⟨sv,by rw [ygh,if_neg (by simpa using hc8),List.map_append];rfl,rfl⟩
theorem znr (s:SV) (l:List Int) (v:Ver) (hl:l.length≤1000000000):y7 Tryz.prog 167 [.v s.v,.agg (zy8 v)] [.row s.v 1 3 (l.map zai)] (fun r h'=>∃s':SV,h'= [.row s'.v 1 3 ((ypt l v).map zai)]∧r= .v s'.v):=by
 refine z6 Tryz.func167 rfl rfl rfl ?_
 refine rn ?_;refine z8 rfl (w8 rfl rfl rfl fun b3=> ?_)
 refine rn ?_;refine z7 rfl (fun hc7=> ?_) (fun hc7=> ?_)
 ·refine rn ?_;refine rq 1 ?_
  exact ⟨s,by rw [ypt,if_pos (by simpa using hc7)];rfl,rfl⟩
 ·refine rn ?_;refine z8 rfl (v2 rfl rfl (za2 (y1.of_fun (zbp s l v.t hl))) rfl ?_)
  rintro _ _ ⟨s',rfl,rfl⟩
  refine rn ?_;refine rq 1 ?_
  exact ⟨s',by rw [ypt,if_neg (by simpa using hc7)];rfl,rfl⟩
theorem yci (h:Hist) (la:Lim 3000 h):y7 Tryz.prog 123 [.agg (y9 h)] [] (fun r h'=>h'= []∧r= .agg [zaq (zcj h 0),zaq (zcj h 1),zaq (zcj h 2),zaq (zcj h 3)]):=by
 refine z6 Tryz.func123 rfl rfl rfl ?_
 refine rn ?_;refine z8 rfl (w8 rfl rfl rfl fun b1=> ?_)
 refine z8 rfl (y5 rfl fun b2=> ?_)
 refine rn ?_;refine z8 rfl (y5 rfl fun b3=> ?_)
 refine rn ?_;refine zjv h.evs.length (fun k s0 s1 s2 s3=>⟨[(21,iv k),(1,pZ b1),(2,pZ b2),(3,pZ b3),(19,zoc h.evs),(20,iv (h.evs.map evR).length)],[.row s0.v 1 3 (((spE h k) 0).map zai),.row s1.v 1 3 (((spE h k) 1).map zai),.row s2.v 1 3 (((spE h k) 2).map zai),.row s3.v 1 3 (((spE h k) 3).map zai),.box b3 154 [.v s0.v,.v s1.v,.v s2.v,.v s3.v],.box b2 154 [.v (.slice none 0 0),.v (.slice none 0 0),.v (.slice none 0 0),.v (.slice none 0 0)],.box b1 28 (y9 h)],[]⟩) (⟨none,0,0⟩) (⟨none,0,0⟩) (⟨none,0,0⟩) (⟨none,0,0⟩) (v6 (zac 1 3) (v6 (zac 1 3) (v6 (zac 1 3) (v6 (zac 1 3) es)))) ?_
 intro k s0 s1 s2 s3 lk
 refine rn ?_;refine z7 rfl (fun hc22=> ?_) (fun hc22=> ?_)
 ·have hk:=zay hc22
  have rk:=zae (f:=evR) hk
  have bd:=bdE la k lk
  have ls:=la.scans h.evs[k] (List.getElem_mem hk)
  have le:=la.evs
  refine rn ?_;refine z8 rfl (y5 rfl fun b5=> ?_)
  refine rn ?_;refine qq rfl rfl (y8 rfl rfl (by decide) (by decide)) ?_
  refine rn ?_;refine z8 rfl (v2 rfl rfl (za2 (y1.of_fun (zbp _ _ _ (by have:=bd 0;omega)))) rfl ?_)
  rintro _ _ ⟨s',rfl,rfl⟩
  refine qq rfl rfl (y8 rfl rfl (by decide) (by decide)) ?_
  refine rn0 ?_;refine ypl (fun s0 s1 s2 s3=>⟨[(5,pZ b5),(21,iv k),(20,iv (h.evs.map evR).length),(19,zoc h.evs),(1,pZ b1),(2,pZ b2),(3,pZ b3)],[.box b5 60 (evR h.evs[k]),.row s0.v 1 3 (((zf7 (za0 (spE h k) (0,h.evs[k].t)) h.evs[k]) 0).map zai),.row s1.v 1 3 (((zf7 (za0 (spE h k) (0,h.evs[k].t)) h.evs[k]) 1).map zai),.row s2.v 1 3 (((zf7 (za0 (spE h k) (0,h.evs[k].t)) h.evs[k]) 2).map zai),.row s3.v 1 3 (((zf7 (za0 (spE h k) (0,h.evs[k].t)) h.evs[k]) 3).map zai),.box b3 154 [.v s0.v,.v s1.v,.v s2.v,.v s3.v],.box b2 154 [.v (.slice none 0 0),.v (.slice none 0 0),.v (.slice none 0 0),.v (.slice none 0 0)],.box b1 28 (y9 h)],[]⟩) ?_ ?_
  ·refine rn ?_;refine z7 rfl (fun hc33=> ?_) (fun hc33=> ?_)
   ·refine rn ?_;refine qq rfl rfl (y8 rfl rfl (by decide) (by decide)) ?_
    refine rn ?_;refine z8 rfl (v2 rfl rfl (za2 (y1.of_fun (zbp _ _ _ (by have:=bd 1;omega)))) rfl ?_)
    rintro _ _ ⟨s',rfl,rfl⟩
    refine qq rfl rfl (y8 rfl rfl (by decide) (by decide)) ?_
    refine rn ?_;exact ⟨_,_,_,_,by unfold zf7;first|(rw [if_pos (by simpa using hc33)];exact eA)|(rw [if_neg (by simpa using hc33),if_pos (by simp at hc33;simp_all)];exact eA)|(rw [if_neg (by simpa using hc33),if_neg (by simp at hc33;simp_all),if_pos (by simpa using hc56)];exact eA)|(rw [if_neg (by simpa using hc33),if_neg (by simp at hc33;simp_all),if_neg (by simpa using hc56)];exact eA)⟩
   ·refine rn ?_;refine z7 rfl (fun hc41=> ?_) (fun hc41=> ?_)
    ·refine rn ?_;refine z7 rfl (fun hc41=> ?_) (fun hc41=> ?_)
     ·refine rn ?_;refine qq rfl rfl (y8 rfl rfl (by decide) (by decide)) ?_
      refine rn ?_;refine z8 rfl (v2 rfl rfl (za2 (y1.of_fun (zbp _ _ _ (by have:=bd 2;omega)))) rfl ?_)
      rintro _ _ ⟨s',rfl,rfl⟩
      refine qq rfl rfl (y8 rfl rfl (by decide) (by decide)) ?_
      refine rn ?_;refine qq rfl rfl (y8 rfl rfl (by decide) (by decide)) ?_
      refine rn ?_;refine z8 rfl (v2 rfl rfl (za2 (y1.of_fun (znr _ _ _ (by have:=(bd.f (0,h.evs[k].t)) 0;exact Nat.le_trans this (by omega))))) rfl ?_)
      rintro _ _ ⟨s',rfl,rfl⟩
      refine qq rfl rfl (y8 rfl rfl (by decide) (by decide)) ?_
      refine rn ?_;exact ⟨_,_,_,_,by unfold zf7;first|(rw [if_pos (by simpa using hc33)];exact eA)|(rw [if_neg (by simpa using hc33),if_pos (by simp at hc33;simp_all)];exact eA)|(rw [if_neg (by simpa using hc33),if_neg (by simp at hc33;simp_all),if_pos (by simpa using hc56)];exact eA)|(rw [if_neg (by simpa using hc33),if_neg (by simp at hc33;simp_all),if_neg (by simpa using hc56)];exact eA)⟩
     ·first|cases hc41|exact absurd hc41 (by decide)|(exfalso;simp_all;done)
    ·refine rn ?_;refine z7 rfl (fun hc41=> ?_) (fun hc41=> ?_)
     ·refine rn ?_;refine qq rfl rfl (y8 rfl rfl (by decide) (by decide)) ?_
      refine rn ?_;refine z8 rfl (v2 rfl rfl (za2 (y1.of_fun (zbp _ _ _ (by have:=bd 2;omega)))) rfl ?_)
      rintro _ _ ⟨s',rfl,rfl⟩
      refine qq rfl rfl (y8 rfl rfl (by decide) (by decide)) ?_
      refine rn ?_;refine qq rfl rfl (y8 rfl rfl (by decide) (by decide)) ?_
      refine rn ?_;refine z8 rfl (v2 rfl rfl (za2 (y1.of_fun (znr _ _ _ (by have:=(bd.f (0,h.evs[k].t)) 0;exact Nat.le_trans this (by omega))))) rfl ?_)
      rintro _ _ ⟨s',rfl,rfl⟩
      refine qq rfl rfl (y8 rfl rfl (by decide) (by decide)) ?_
      refine rn ?_;exact ⟨_,_,_,_,by unfold zf7;first|(rw [if_pos (by simpa using hc33)];exact eA)|(rw [if_neg (by simpa using hc33),if_pos (by simp at hc33;simp_all)];exact eA)|(rw [if_neg (by simpa using hc33),if_neg (by simp at hc33;simp_all),if_pos (by simpa using hc56)];exact eA)|(rw [if_neg (by simpa using hc33),if_neg (by simp at hc33;simp_all),if_neg (by simpa using hc56)];exact eA)⟩
     ·refine rn ?_;refine z7 rfl (fun hc56=> ?_) (fun hc56=> ?_)
      ·refine rn ?_;refine qq rfl rfl (y8 rfl rfl (by decide) (by decide)) ?_
       refine rn ?_;refine z8 rfl (v2 rfl rfl (za2 (y1.of_fun (zbp _ _ _ (by have:=bd 3;omega)))) rfl ?_)
       rintro _ _ ⟨s',rfl,rfl⟩
       refine qq rfl rfl (y8 rfl rfl (by decide) (by decide)) ?_
       refine rn ?_;exact ⟨_,_,_,_,by unfold zf7;first|(rw [if_pos (by simpa using hc33)];exact eA)|(rw [if_neg (by simpa using hc33),if_pos (by simp at hc33;simp_all)];exact eA)|(rw [if_neg (by simpa using hc33),if_neg (by simp at hc33;simp_all),if_pos (by simpa using hc56)];exact eA)|(rw [if_neg (by simpa using hc33),if_neg (by simp at hc33;simp_all),if_neg (by simpa using hc56)];exact eA)⟩
      ·refine rn ?_;exact ⟨_,_,_,_,by unfold zf7;first|(rw [if_pos (by simpa using hc33)];exact eA)|(rw [if_neg (by simpa using hc33),if_pos (by simp at hc33;simp_all)];exact eA)|(rw [if_neg (by simpa using hc33),if_neg (by simp at hc33;simp_all),if_pos (by simpa using hc56)];exact eA)|(rw [if_neg (by simpa using hc33),if_neg (by simp at hc33;simp_all),if_neg (by simpa using hc56)];exact eA)⟩
  ·intro s0 s1 s2 s3
   refine rn ?_;refine zjv h.evs[k].scan.length (fun j s0 s1 s2 s3=>⟨[(67,iv j),(1,pZ b1),(2,pZ b2),(3,pZ b3),(19,zoc h.evs),(20,iv (h.evs.map evR).length),(21,iv k),(65,zei h.evs[k].scan),(66,iv (h.evs[k].scan.map zaj).length)],[.box b5 60 (evR h.evs[k]),.row s0.v 1 3 ((((h.evs[k].scan.take j).foldl stepS (zf7 (za0 (spE h k) (0,h.evs[k].t)) h.evs[k])) 0).map zai),.row s1.v 1 3 ((((h.evs[k].scan.take j).foldl stepS (zf7 (za0 (spE h k) (0,h.evs[k].t)) h.evs[k])) 1).map zai),.row s2.v 1 3 ((((h.evs[k].scan.take j).foldl stepS (zf7 (za0 (spE h k) (0,h.evs[k].t)) h.evs[k])) 2).map zai),.row s3.v 1 3 ((((h.evs[k].scan.take j).foldl stepS (zf7 (za0 (spE h k) (0,h.evs[k].t)) h.evs[k])) 3).map zai),.box b3 154 [.v s0.v,.v s1.v,.v s2.v,.v s3.v],.box b2 154 [.v (.slice none 0 0),.v (.slice none 0 0),.v (.slice none 0 0),.v (.slice none 0 0)],.box b1 28 (y9 h)],[]⟩) _ _ _ _ (es) ?_
   intro j s0 s1 s2 s3 lj
   refine rn ?_;refine z7 rfl (fun hc68=> ?_) (fun hc68=> ?_)
   ·have hj:=zay hc68
    have rj:=zae (f:=zaj) hj
    have bj:=Bd.fold (c:=2) (l:=h.evs[k].scan.take j) (fun s _ L n h=>h.s s) ((bd.f (0,h.evs[k].t)).k h.evs[k])
    have bl:(h.evs[k].scan.take j).length≤3000:=by rw [List.length_take];omega
    refine rn ?_;refine z8 rfl (y5 rfl fun b7=> ?_)
    refine rn ?_;refine qq rfl rfl (y8 rfl rfl (by decide) (by decide)) ?_
    refine rn ?_;refine z8 rfl (v2 rfl rfl (za2 (y1.of_fun (zbp _ _ _ (by have:=bj 2;omega)))) rfl ?_)
    rintro _ _ ⟨s',rfl,rfl⟩
    refine qq rfl rfl (y8 rfl rfl (by decide) (by decide)) ?_
    refine rn ?_;refine qq rfl rfl (y8 rfl rfl (by decide) (by decide)) ?_
    refine rn ?_;refine z8 rfl (v2 rfl rfl (za2 (y1.of_fun (znr _ _ _ (by have:=bj 0;omega)))) rfl ?_)
    rintro _ _ ⟨s',rfl,rfl⟩
    refine qq rfl rfl (y8 rfl rfl (by decide) (by decide)) ?_
    refine rn ?_;have e:(h.evs[k].scan.take (j+1)).foldl stepS (zf7 (za0 (spE h k) (0,h.evs[k].t)) h.evs[k])=stepS ((h.evs[k].scan.take j).foldl stepS (zf7 (za0 (spE h k) (0,h.evs[k].t)) h.evs[k])) h.evs[k].scan[j]:=zha _ _ hj
    exact ⟨hj,_,_,_,_,by simp only [e];exact eA⟩
   ·have qj:=zaz hc68 lj
    refine rn ?_;have e:spE h (k+1)=(h.evs[k].scan.take j).foldl stepS (zf7 (za0 (spE h k) (0,h.evs[k].t)) h.evs[k]):=by rw [spE,zha _ _ hk,H.stepE,zjr _ _ qj];rfl
    exact ⟨hk,_,_,_,_,by simp only [e];exact eA⟩
 ·have qk:=zaz hc22 lk
  refine rn ?_;refine zjv h.ords.length (fun k s0 s1 s2 s3=>⟨[(88,iv k),(1,pZ b1),(2,pZ b2),(3,pZ b3),(86,zz3 h.ords),(87,iv (h.ords.map zef).length)],[.row s0.v 1 3 (((spO h k) 0).map zai),.row s1.v 1 3 (((spO h k) 1).map zai),.row s2.v 1 3 (((spO h k) 2).map zai),.row s3.v 1 3 (((spO h k) 3).map zai),.box b3 154 [.v s0.v,.v s1.v,.v s2.v,.v s3.v],.box b2 154 [.v (.slice none 0 0),.v (.slice none 0 0),.v (.slice none 0 0),.v (.slice none 0 0)],.box b1 28 (y9 h)],[]⟩) _ _ _ _ (by rw [show spO h 0=spE h k from (zjr stepE noR qk).symm];exact es) ?_
  intro k s0 s1 s2 s3 lk
  refine rn ?_;refine z7 rfl (fun hc89=> ?_) (fun hc89=> ?_)
  ·have hk:=zay hc89
   have rk:=zae (f:=zef) hk
   have bd:=bdO la k lk
   have ls:=la.ordts h.ords[k] (List.getElem_mem hk)
   have le:=la.ords
   refine rn ?_;refine z8 rfl (y5 rfl fun b9=> ?_)
   refine rn ?_;refine qq rfl rfl (y8 rfl rfl (by decide) (by decide)) ?_
   refine rn ?_;refine z8 rfl (v2 rfl rfl (za2 (y1.of_fun (zbp _ _ _ (by have:=bd 2;omega)))) rfl ?_)
   rintro _ _ ⟨s',rfl,rfl⟩
   refine qq rfl rfl (y8 rfl rfl (by decide) (by decide)) ?_
   refine rn ?_;refine zjv h.ords[k].ts.length (fun j s0 s1 s2 s3=>⟨[(101,iv j),(1,pZ b1),(2,pZ b2),(3,pZ b3),(86,zz3 h.ords),(87,iv (h.ords.map zef).length),(88,iv k),(99,zaq h.ords[k].ts),(100,iv (h.ords[k].ts.map zai).length)],[.box b9 87 (zef h.ords[k]),.row s0.v 1 3 ((((h.ords[k].ts.take j).foldl zqj (za0 (spO h k) (2,h.ords[k].o))) 0).map zai),.row s1.v 1 3 ((((h.ords[k].ts.take j).foldl zqj (za0 (spO h k) (2,h.ords[k].o))) 1).map zai),.row s2.v 1 3 ((((h.ords[k].ts.take j).foldl zqj (za0 (spO h k) (2,h.ords[k].o))) 2).map zai),.row s3.v 1 3 ((((h.ords[k].ts.take j).foldl zqj (za0 (spO h k) (2,h.ords[k].o))) 3).map zai),.box b3 154 [.v s0.v,.v s1.v,.v s2.v,.v s3.v],.box b2 154 [.v (.slice none 0 0),.v (.slice none 0 0),.v (.slice none 0 0),.v (.slice none 0 0)],.box b1 28 (y9 h)],[]⟩) _ _ _ _ (es) ?_
   intro j s0 s1 s2 s3 lj
   refine rn ?_;refine z7 rfl (fun hc102=> ?_) (fun hc102=> ?_)
   ·have hj:=zay hc102
    have rj:=zae (f:=zai) hj
    have bj:=Bd.fold (c:=1) (l:=h.ords[k].ts.take j) (fun s _ L n h=>h.t s) (bd.f (2,h.ords[k].o))
    have bl:(h.ords[k].ts.take j).length≤3000:=by rw [List.length_take];omega
    refine rn ?_;refine qq rfl rfl (y8 rfl rfl (by decide) (by decide)) ?_
    refine rn ?_;refine z8 rfl (v2 rfl rfl (za2 (y1.of_fun (zbp _ _ _ (by have:=bj 0;omega)))) rfl ?_)
    rintro _ _ ⟨s',rfl,rfl⟩
    refine qq rfl rfl (y8 rfl rfl (by decide) (by decide)) ?_
    refine rn ?_;have e:(h.ords[k].ts.take (j+1)).foldl zqj (za0 (spO h k) (2,h.ords[k].o))=zqj ((h.ords[k].ts.take j).foldl zqj (za0 (spO h k) (2,h.ords[k].o))) h.ords[k].ts[j]:=zha _ _ hj
    exact ⟨hj,_,_,_,_,by simp only [e];exact eA⟩
   ·have qj:=zaz hc102 lj
    refine rn ?_;have e:spO h (k+1)=(h.ords[k].ts.take j).foldl zqj (za0 (spO h k) (2,h.ords[k].o)):=by rw [spO,zha _ _ hk,zsa,zjr _ _ qj];rfl
    exact ⟨hk,_,_,_,_,by simp only [e];exact eA⟩
  ·have qk:=zaz hc89 lk
   refine rn ?_;refine zjv h.mats.length (fun k s0 s1 s2 s3=>⟨[(115,iv k),(1,pZ b1),(2,pZ b2),(3,pZ b3),(113,zvm h.mats),(114,iv (h.mats.map zd8).length)],[.row s0.v 1 3 (((spM h k) 0).map zai),.row s1.v 1 3 (((spM h k) 1).map zai),.row s2.v 1 3 (((spM h k) 2).map zai),.row s3.v 1 3 (((spM h k) 3).map zai),.box b3 154 [.v s0.v,.v s1.v,.v s2.v,.v s3.v],.box b2 154 [.v (.slice none 0 0),.v (.slice none 0 0),.v (.slice none 0 0),.v (.slice none 0 0)],.box b1 28 (y9 h)],[]⟩) _ _ _ _ (by rw [show spM h 0=spO h k from (zjr zsa _ qk).symm];exact es) ?_
   intro k s0 s1 s2 s3 lk
   refine rn ?_;refine z7 rfl (fun hc116=> ?_) (fun hc116=> ?_)
   ·have hk:=zay hc116
    have rk:=zae (f:=zd8) hk
    have bd:=bdM la k lk
    have ls:=la.matts h.mats[k] (List.getElem_mem hk)
    have le:=la.mats
    refine rn ?_;refine z8 rfl (y5 rfl fun b13=> ?_)
    refine rn ?_;refine qq rfl rfl (y8 rfl rfl (by decide) (by decide)) ?_
    refine rn ?_;refine z8 rfl (v2 rfl rfl (za2 (y1.of_fun (zbp _ _ _ (by have:=bd 3;omega)))) rfl ?_)
    rintro _ _ ⟨s',rfl,rfl⟩
    refine qq rfl rfl (y8 rfl rfl (by decide) (by decide)) ?_
    refine rn ?_;refine qq rfl rfl (y8 rfl rfl (by decide) (by decide)) ?_
    refine rn ?_;refine z8 rfl (v2 rfl rfl (za2 (y1.of_fun (zbp _ _ _ (by have:=bd 2;omega)))) rfl ?_)
    rintro _ _ ⟨s',rfl,rfl⟩
    refine qq rfl rfl (y8 rfl rfl (by decide) (by decide)) ?_
    refine rn ?_;refine zjv h.mats[k].ts.length (fun j s0 s1 s2 s3=>⟨[(134,iv j),(1,pZ b1),(2,pZ b2),(3,pZ b3),(113,zvm h.mats),(114,iv (h.mats.map zd8).length),(115,iv k),(132,zaq h.mats[k].ts),(133,iv (h.mats[k].ts.map zai).length)],[.box b13 109 (zd8 h.mats[k]),.row s0.v 1 3 ((((h.mats[k].ts.take j).foldl zqj (za0 (za0 (spM h k) (3,h.mats[k].p)) (2,h.mats[k].o))) 0).map zai),.row s1.v 1 3 ((((h.mats[k].ts.take j).foldl zqj (za0 (za0 (spM h k) (3,h.mats[k].p)) (2,h.mats[k].o))) 1).map zai),.row s2.v 1 3 ((((h.mats[k].ts.take j).foldl zqj (za0 (za0 (spM h k) (3,h.mats[k].p)) (2,h.mats[k].o))) 2).map zai),.row s3.v 1 3 ((((h.mats[k].ts.take j).foldl zqj (za0 (za0 (spM h k) (3,h.mats[k].p)) (2,h.mats[k].o))) 3).map zai),.box b3 154 [.v s0.v,.v s1.v,.v s2.v,.v s3.v],.box b2 154 [.v (.slice none 0 0),.v (.slice none 0 0),.v (.slice none 0 0),.v (.slice none 0 0)],.box b1 28 (y9 h)],[]⟩) _ _ _ _ (es) ?_
    intro j s0 s1 s2 s3 lj
    refine rn ?_;refine z7 rfl (fun hc135=> ?_) (fun hc135=> ?_)
    ·have hj:=zay hc135
     have rj:=zae (f:=zai) hj
     have bj:=Bd.fold (c:=1) (l:=h.mats[k].ts.take j) (fun s _ L n h=>h.t s) ((bd.f (3,h.mats[k].p)).f (2,h.mats[k].o))
     have bl:(h.mats[k].ts.take j).length≤3000:=by rw [List.length_take];omega
     refine rn ?_;refine qq rfl rfl (y8 rfl rfl (by decide) (by decide)) ?_
     refine rn ?_;refine z8 rfl (v2 rfl rfl (za2 (y1.of_fun (zbp _ _ _ (by have:=bj 0;omega)))) rfl ?_)
     rintro _ _ ⟨s',rfl,rfl⟩
     refine qq rfl rfl (y8 rfl rfl (by decide) (by decide)) ?_
     refine rn ?_;have e:(h.mats[k].ts.take (j+1)).foldl zqj (za0 (za0 (spM h k) (3,h.mats[k].p)) (2,h.mats[k].o))=zqj ((h.mats[k].ts.take j).foldl zqj (za0 (za0 (spM h k) (3,h.mats[k].p)) (2,h.mats[k].o))) h.mats[k].ts[j]:=zha _ _ hj
     exact ⟨hj,_,_,_,_,by simp only [e];exact eA⟩
    ·have qj:=zaz hc135 lj
     refine rn ?_;have e:spM h (k+1)=(h.mats[k].ts.take j).foldl zqj (za0 (za0 (spM h k) (3,h.mats[k].p)) (2,h.mats[k].o)):=by rw [spM,zha _ _ hk,zup,zjr _ _ qj];rfl
     exact ⟨hk,_,_,_,_,by simp only [e];exact eA⟩
   ·have qk:=zaz hc116 lk
    refine rn ?_;refine zjv h.wants.length (fun k s0 s1 s2 s3=>⟨[(148,iv k),(2,pZ b2),(3,pZ b3),(146,ymc h.wants),(147,iv (h.wants.map zfh).length)],[.row s0.v 1 3 (((spW h k) 0).map zai),.row s1.v 1 3 (((spW h k) 1).map zai),.row s2.v 1 3 (((spW h k) 2).map zai),.row s3.v 1 3 (((spW h k) 3).map zai),.box b3 154 [.v s0.v,.v s1.v,.v s2.v,.v s3.v],.box b2 154 [.v (.slice none 0 0),.v (.slice none 0 0),.v (.slice none 0 0),.v (.slice none 0 0)],.box b1 28 (y9 h)],[]⟩) _ _ _ _ (by rw [show spW h 0=spM h k from (zjr zup _ qk).symm];exact es) ?_
    intro k s0 s1 s2 s3 lk
    refine rn ?_;refine z7 rfl (fun hc149=> ?_) (fun hc149=> ?_)
    ·have hk:=zay hc149
     have rk:=zae (f:=zfh) hk
     have bd:=bdW la k lk
     have le:=la.wants
     refine rn ?_;refine z8 rfl (y5 rfl fun b17=> ?_)
     refine rn ?_;refine qq rfl rfl (y8 rfl rfl (by decide) (by decide)) ?_
     refine rn ?_;refine z8 rfl (v2 rfl rfl (za2 (y1.of_fun (zbp _ _ _ (by have:=bd 1;omega)))) rfl ?_)
     rintro _ _ ⟨s',rfl,rfl⟩
     refine qq rfl rfl (y8 rfl rfl (by decide) (by decide)) ?_
     refine rn ?_;have e:spW h (k+1)=ygz (spW h k) h.wants[k]:=zha _ _ hk
     exact ⟨hk,_,_,_,_,by simp only [e];exact eA⟩
    ·have qk:=zaz hc149 lk
     refine rn ?_;exact zej (.cons _ _ _ _ (.agg _ _ _ _ _ _ _ rfl inferInstance inferInstance inferInstance rfl) .nil) (.trans (zbh [] _) (.trans (zbh [_] _) (.trans (zbh [_,_] _) (.trans (zbh [_,_,_] _) (.drop [_,_,_] _ _))))) ⟨rfl,by rw [←show spW h k=zcj h from zjr _ _ qk];rfl⟩
theorem yhh (h:Hist) (la:Lim 4611686018427387904 h):y7 Tryz.prog 65 [.agg (y9 h)] [] (fun r h'=>h'= []∧r=bv (zkb h)):=by
 refine z6 Tryz.func65 rfl rfl rfl ?_
 refine rn ?_;refine z8 rfl (w8 rfl rfl rfl fun b1=> ?_)
 refine rn ?_;refine qv rfl rfl (y0 rfl rfl (v8 (ycj h la) (Sbs.refl _))) ?_
 refine rn ?_;refine z7 rfl (fun hc10=> ?_) (fun hc10=> ?_)
 ·refine rn ?_;refine rq 1 ?_
  exact ⟨rfl,congrArg bv (by rw [ym8 (by simpa using hc10)])⟩
 ·have hs:zah h=true:=by simpa using hc10
  have la3:=zpj hs
  refine rn ?_;refine qv rfl rfl (y0 rfl rfl (v8 (yci h la3) (Sbs.refl _))) ?_
  refine rn ?_;refine zc8 (4) (fun k:Nat=>∀j,j < k→okS h j=true) (fun k=> [(13,iv k)]) [(1,_),(12,_)] (fun j hj=>by omega) ?_
  intro k lk zk
  refine rn ?_;refine z7 rfl (fun hc14=> ?_) (fun hc14=> ?_)
  ·have hk:k < 4:=by simp at hc14;omega
   have r0:=yur h hk
   have r1:=yof h hk
   have bl:=zza la3 k
   refine rn ?_;refine z7 rfl (fun hc35=> ?_) (fun hc35=> ?_)
   ·refine rn ?_;refine rq 1 ?_
    exact ⟨rfl,congrArg bv (by rw [ycg hk];rw [okS,beq_eq_false_iff_ne.2 (by simp at hc35;omega),Bool.false_and])⟩
   ·have hlen:(zcj h k).length=(nmK h k).length:=by simp at hc35;omega
    refine rn ?_;refine zc8 ((zcj h k).length) (fun i:Nat=>zfs 0 (zcj h k)=zfs i ((zcj h k).drop i)) (fun i=> [(38,iv i)]) [(1,_),(12,_),(13,_),(36,_),(37,_)] rfl ?_
    intro i li zi
    refine rn ?_;refine z7 rfl (fun hc39=> ?_) (fun hc39=> ?_)
    ·have hi:=zay hc39
     have ri:=zae (f:=zai) hi
     refine rn ?_;refine z7 rfl (fun hc45=> ?_) (fun hc45=> ?_)
     ·refine rn ?_;refine rq 1 ?_
      exact ⟨rfl,congrArg bv (by rw [ycg hk];rw [okS,yqb hi zi (by simp at hc45;omega),Bool.and_false])⟩
     ·refine rn ?_;exact ⟨hi,ybh hi zi (by simp at hc45;omega),eA⟩
    ·have qi:=zaz hc39 li
     refine rn ?_;exact ⟨hk,fun j hj=>(Nat.lt_or_ge j k).elim (zk j) (fun q=>by
      obtain rfl:j=k:=by omega
      rw [okS,hlen,yqc qi zi];simp),eA⟩
  ·have qk:k=4:=by simp at hc14;omega
   subst qk
   refine rn ?_;refine rq 1 ?_
   exact ⟨rfl,congrArg bv (by rw [ym7 hs zk])⟩
theorem zso (h:Hist) (la:Lim 4611686018427387904 h):y7 Tryz.prog 65 [.agg (y9 h)] [] (fun r h'=>h'= []∧r=bv (zfz h)):=
 (yhh h la).mono fun _ _ q=>⟨q.1,by rw [q.2,ych]⟩
attribute [local irreducible] zd9 jch zfo
theorem zpv {l:List Ev} {t x:Int} {j:Nat} (h:j < l.length) (hw:zam t x l[j]=true):zc4 l t x (j+1)=some (l[j].v,j):=by
 rw [zc4,List.getElem?_eq_getElem h];simp only [hw,if_true]
theorem zg8 {l:List Ev} {t x:Int} {j:Nat} (h:j < l.length) (hw:zam t x l[j]=false):zc4 l t x (j+1)=zc4 l t x j:=by
 rw [zc4,List.getElem?_eq_getElem h];simp [hw]
theorem yhc {l:List Ev} {j:Nat} (h:j < l.length):(l.map evR)[(((j+1:Nat):Int) - 1).toNat]? =some (evR l[j]):=by
 rw [show (((j+1:Nat):Int) - 1).toNat=j by omega,List.getElem?_map,List.getElem?_eq_getElem h];rfl
theorem ylc (a b:Int):(decide (a ≥ 0) && decide (a < b))=decide (0≤a∧a < b):=by
 rw [Bool.eq_iff_iff];simp only [Bool.and_eq_true,decide_eq_true_eq,ge_iff_le]
theorem yg8 {l:List Ev} {a:Nat} {t x:Int} (ha:a < l.length):zc4 l t x a=zjc (l.take a) t x:=by
 rw [zjc,zpw (by rw [List.length_take];omega),List.length_take,Nat.min_eq_left (by omega)]
theorem zm8 {α:Type} {l:List α} {q:α→Bool} {k:Nat} (hk:k < l.length):(l.take (k+1)).all q=((l.take k).all q && q l[k]):=by
 rw [List.take_succ_eq_append_getElem hk,List.all_append,List.all_cons,List.all_nil,Bool.and_true]
theorem yhf (h:Hist) (la:Lim 4611686018427387904 h):y7 Tryz.prog 66 [.agg (y9 h)] [] (fun r h'=>h'= []∧r=bv (zar h)):=by
 refine z6 Tryz.func66 rfl rfl rfl ?_
 refine rn ?_;refine z8 rfl (w8 rfl rfl rfl fun b1=> ?_)
 refine rn ?_;refine qv rfl rfl (y0 rfl rfl (v8 (zso h la) (Sbs.refl _))) ?_
 refine rn ?_;refine z7 rfl (fun hc7=> ?_) (fun hc7=> ?_)
 ·have hm:zfz h=false:=by simpa using hc7
  refine rn ?_;refine rq 1 ?_
  exact ⟨rfl,congrArg bv (by rw [zar,hm];rfl)⟩
 ·have hm:zfz h=true:=by simpa using hc7
  refine rn ?_;refine qv rfl rfl (y0 rfl rfl (v8 (zzm h ((zrd hm).mono (by decide))) (Sbs.refl _))) ?_
  obtain ⟨bi,bj,be⟩:=yfg (za7 (ze3 h) rules10)
  rw [be]
  refine rn ?_;refine z8 rfl (y5 rfl fun b3=> ?_)
  refine rn ?_;refine rq 2 ?_
  exact ⟨rfl,congrArg bv (by rw [zar,hm,show zkn h=za7 (ze3 h) rules10 from zyd hm];cases za7 (ze3 h) rules10 <;> rfl)⟩
theorem zzo (h:Hist) (la:Lim 4611686018427387904 h):y7 Tryz.prog 16 [.agg (y9 h)] [] (fun r h'=>h'= []∧r=iv (v7 h)):=by
 refine z6 Tryz.func16 rfl rfl rfl ?_
 refine rn ?_;refine z8 rfl (w8 rfl rfl rfl fun b1=> ?_)
 refine rn ?_;refine qv rfl rfl (y0 rfl rfl (v8 (zso h la) (Sbs.refl _))) ?_
 refine rn ?_;refine z7 rfl (fun hc5=> ?_) (fun hc5=> ?_)
 ·have hm:zfz h=false:=by simpa using hc5
  refine rn ?_;refine rq 1 ?_
  exact ⟨rfl,by rw [v7,hm];rfl⟩
 ·have hm:zfz h=true:=by simpa using hc5
  refine rn ?_;refine qv rfl rfl (y0 rfl rfl (v8 (yhf h la) (Sbs.refl _))) ?_
  refine rn ?_;refine z7 rfl (fun hc8=> ?_) (fun hc8=> ?_)
  ·refine rn ?_;refine rq 1 ?_
   exact ⟨rfl,by rw [v7,hm,if_pos rfl,if_neg (by simpa using hc8)];rfl⟩
  ·refine rn ?_;refine rq 1 ?_
   exact ⟨rfl,by rw [v7,hm,if_pos rfl,if_pos (by simpa using hc8)];rfl⟩
theorem zla (h:Hist) (la:h.evs.length≤1000000) (t x:Int):y7 Tryz.prog 75 [.agg (y9 h),iv t,iv x] [] (fun r h'=>h'= []∧r= .tup [.agg (zy8 (zqs (zjc h.evs t x))),iv (atO (zjc h.evs t x)),bv (zjc h.evs t x).isSome]):=by
 refine z6 Tryz.func75 rfl rfl rfl ?_
 refine rn ?_;refine z8 rfl (w8 rfl rfl rfl fun b3=> ?_)
 refine z8 rfl (y5 rfl fun b6=> ?_)
 refine q1 ?_;refine q1 ?_;refine u3 (zag ?_)
 refine w9 ?_;refine w9 (y6 ?_)
 refine q1 ?_;refine q1 ?_;refine q1 ?_;refine qq rfl rfl (zc1 rfl rfl rfl (by rw [oM];omega)) ?_
 refine rn ?_;refine zkw (fun k:Nat=>k≤h.evs.length∧zc4 h.evs t x h.evs.length=zc4 h.evs t x k) (fun k=>⟨[(9,iv ((k:Int) - 1)),(1,iv t),(2,iv x),(3,pZ b3),(6,pZ b6),(7,iv 0),(8,bv false)],.box b6 57 [iv 0,iv 0]:: .box b3 28 (y9 h):: [],[]⟩) (fun k=>k) h.evs.length ⟨Nat.le_refl _,rfl⟩ (by rw [oM];exact es) ?_
 rintro k ⟨lk,zk⟩
 refine rn ?_;refine z7 rfl (fun hc16=> ?_) (fun hc16=> ?_)
 ·obtain ⟨j,rfl⟩:∃j,k=j+1:=⟨k - 1,by have:=oT hc16;omega⟩
  have hj:j < h.evs.length:=by omega
  refine za8 ?_;refine zag ?_;refine w9 ?_;refine zcn ?_;refine w9 (y6 ?_)
  refine q1 ?_;refine q1 ?_;refine q1 ?_;refine qq rfl rfl (zau rfl rfl (by omega) (yhc hj)) ?_
  refine rn ?_;refine z8 rfl (y5 rfl fun b10=> ?_)
  refine rn ?_;refine w7 (fun hg5_3=> ?_) (fun hg5_3=> ?_)
  ·refine rn ?_;refine w7 (fun hg5_9=> ?_) (fun hg5_9=> ?_)
   ·refine rn ?_;refine z7 rfl (fun hc38=> ?_) (fun hc38=> ?_)
    ·have hw:zam t x h.evs[j]=true:=by rw [zam];first|(rw [hg5_3,hg5_9,hc38];rfl)|(rw [hg5_3,hg5_9];rfl)|(rw [hg5_3];rfl)
     refine rn ?_;exact zej (.cons _ _ _ _ (.agg _ _ _ _ _ _ _ rfl inferInstance inferInstance inferInstance rfl) (.cons _ _ _ _ (.tmp _ _ rfl) (.cons _ _ _ _ (.tmp _ _ rfl) .nil))) (.drop [_,_,_] _ _) ⟨rfl,by rw [zjc,zk,zpv hj hw];simp only [zqs,atO];rw [show (((j+1:Nat):Int) - 1)=(j:Int) by omega];rfl⟩
    ·have hw:zam t x h.evs[j]=false:=by rw [zam];first|(rw [hg5_3,hg5_9,hc38];rfl)|(rw [hg5_3,hg5_9];rfl)|(rw [hg5_3];rfl)
     refine za8 ?_;refine zic ?_;refine zag ?_;refine y6 ?_;refine q1 ?_;refine qq rfl rfl (zc1 rfl rfl rfl (by omega)) ?_
     refine rn ?_;exact ⟨j,⟨by omega,by rw [zk,zg8 hj hw]⟩,by rw [show (((j+1:Nat):Int) - 1 - 1)=(j:Int) - 1 by omega];exact eA,by omega⟩
   ·refine rn ?_;refine zdo rfl ?_;have hw:zam t x h.evs[j]=false:=by rw [zam];first|(rw [hg5_3,hg5_9,hc38];rfl)|(rw [hg5_3,hg5_9];rfl)|(rw [hg5_3];rfl)
    refine za8 ?_;refine zic ?_;refine zag ?_;refine y6 ?_;refine q1 ?_;refine qq rfl rfl (zc1 rfl rfl rfl (by omega)) ?_
    refine rn ?_;exact ⟨j,⟨by omega,by rw [zk,zg8 hj hw]⟩,by rw [show (((j+1:Nat):Int) - 1 - 1)=(j:Int) - 1 by omega];exact eA,by omega⟩
  ·refine rn ?_;refine zdo rfl ?_;have hw:zam t x h.evs[j]=false:=by rw [zam];first|(rw [hg5_3,hg5_9,hc38];rfl)|(rw [hg5_3,hg5_9];rfl)|(rw [hg5_3];rfl)
   refine za8 ?_;refine zic ?_;refine zag ?_;refine y6 ?_;refine q1 ?_;refine qq rfl rfl (zc1 rfl rfl rfl (by omega)) ?_
   refine rn ?_;exact ⟨j,⟨by omega,by rw [zk,zg8 hj hw]⟩,by rw [show (((j+1:Nat):Int) - 1 - 1)=(j:Int) - 1 by omega];exact eA,by omega⟩
 ·have qk:k=0:=by have:=oF hc16;omega
  subst qk
  refine zhi ?_;refine zjj ?_;refine zjj ?_;refine zey ?_;refine zag ?_;refine w9 (y6 ?_)
  refine qq rfl rfl (j7 (out:= [iv 0,iv 0]) rfl (by rfl)) ?_
  refine rn ?_;exact zej (.cons _ _ _ _ (.agg _ _ _ _ _ _ _ rfl inferInstance inferInstance inferInstance rfl) (.cons _ _ _ _ (.tmp _ _ rfl) (.cons _ _ _ _ (.tmp _ _ rfl) .nil))) (.drop [_,_] _ _) ⟨rfl,by rw [zjc,zk];rfl⟩
theorem ywr {p:Int→Bool} {k:Nat} (h:p k=true):(upR (k+1)).filter p=(upR k).filter p++ [(k:Int)]:=by rw [zow,List.filter_append,List.filter_cons_of_pos h];rfl
theorem yws {p:Int→Bool} {k:Nat} (h:p k=false):(upR (k+1)).filter p=(upR k).filter p:=by rw [zow,List.filter_append,List.filter_cons_of_neg (by rw [h];decide)];simp
theorem yun (p:Int→Bool) (k:Nat):((upR k).filter p).length≤k:=Nat.le_trans (List.length_filter_le _ _) (by rw [upR,oM,List.length_range];exact Nat.le_refl _)
theorem yi3 {h:Hist} {x:Int} {k:Nat} (hk:k < h.ords.length) (hx:(h.ords[k].o==x)=true) (hz:((h.ords.take k).all fun o:Ord=> !(o.o==x))=true):zbz h x=h.ords[k].ts:=by
 have:h.ords.find? (fun o=>o.o==x)=some h.ords[k]:=by
  rw [List.find?_eq_some_iff_getElem]
  exact ⟨hx,k,hk,rfl,fun j hj=>by have:=List.all_eq_true.1 hz h.ords[j] (zg5 (by omega) hj);exact this⟩
 rw [zbz,this]
theorem yow {h:Hist} {x:Int} (hz:(h.ords.all fun o:Ord=> !(o.o==x))=true):zbz h x=zbj h x:=by
 have:h.ords.find? (fun o=>o.o==x)=none:=by
  rw [List.find?_eq_none];intro s hs q
  have:=List.all_eq_true.1 hz s hs
  rw [q] at this;cases this
 rw [zbz,this]
theorem zn7 {h:Hist} {N:Nat} (la:Lim N h) (x:Int):(zbz h x).length≤N:=by
 unfold zbz
 split
 ·rename_i o ho;exact la.ordts o (List.mem_of_find?_eq_some ho)
 ·exact Nat.le_trans (zgs _ _) la.ts
def rkQ (h:Hist) (x:Int) (v:Ver) (t:Int):Bool:=zqs (zjc h.evs t x)==v
def zhp (h:Hist) (x:Int) (v:Ver):Int×Bool:=if v=⟨0,0⟩ then (0,true) else if zbq (rkQ h x v) 0 (zbz h x) ≥ 0 then (zbq (rkQ h x v) 0 (zbz h x)+1,true) else (0,false)
theorem yqu {h:Hist} {x:Int} {v:Ver} {k:Nat} (hv:v≠⟨0,0⟩) (hk:k < (zbz h x).length) (hq:rkQ h x v (zbz h x)[k]=true) (hz:(((zbz h x).take k).all fun t=> !rkQ h x v t)=true):zhp h x v=((k:Int)+1,true):=by
 have:zbq (rkQ h x v) 0 (zbz h x)=(k:Int):=by
  have:=zv3 (p:=rkQ h x v) (l:=zbz h x) (i:=0) hk hq (fun j hj=>by
   have:=List.all_eq_true.1 hz (zbz h x)[j] (zg5 (by omega) hj)
   simpa using this)
  rw [this];congr 1;omega
 rw [zhp,if_neg hv,this,if_pos (by omega)]
theorem yuy {h:Hist} {x:Int} {v:Ver} (hv:v≠⟨0,0⟩) (hz:((zbz h x).all fun t=> !rkQ h x v t)=true):zhp h x v=(0,false):=by
 have:decide (zbq (rkQ h x v) 0 (zbz h x) ≥ 0)=false:=by
  rw [zeq,List.any_eq_false];intro t ht
  have:=List.all_eq_true.1 hz t ht
  simpa using this
 rw [zhp,if_neg hv,if_neg (oF this)]
theorem zsp (h:Hist) (la:Lim 1000000 h):y7 Tryz.prog 117 [.agg (y9 h)] [] (fun r h'=>h'= []∧r=zaq (zgo h)):=by
 refine z6 Tryz.func117 rfl rfl rfl ?_
 have bt:=la.ts
 refine rn ?_;refine z8 rfl (w8 rfl rfl rfl fun b1=> ?_)
 refine rn ?_;refine zc7 h.ts.length (fun k s=>⟨[(8,iv k),(3,.v s.v),(1,pZ b1),(7,iv (h.ts.map zdi).length)],.row s.v 1 3 (((upR k).filter (fun t:Int=>zfb h.evs t 5)).map zai):: .box b1 28 (y9 h):: [],[]⟩) ⟨none,0,0⟩ (v6 (zac 1 3) es) ?_
 intro k s lk
 refine rn ?_;refine z7 rfl (fun hc9=> ?_) (fun hc9=> ?_)
 ·have hk:=zay hc9
  have rk:=zae (f:=zdi) hk
  refine rn ?_;refine qv rfl rfl (y0 rfl rfl (v8 (yco h k (la.mono (by decide))) (Sbs.refl _))) ?_
  refine rn ?_;refine z7 rfl (fun hc13=> ?_) (fun hc13=> ?_)
  ·refine rn ?_;refine qv rfl rfl (q6 rfl rfl) ?_
   refine z8 rfl (u7 rfl rfl (by simp only [oM,List.length_cons,List.length_nil];have:=yun (fun t:Int=>zfb h.evs t 5) k;omega) rfl (fun s17=> ?_) (zg3 [(k:Int)]))
   refine k8 s17 fun sv hsv=> ?_
   subst hsv
   refine rn ?_;first|exact ⟨hk,sv,by rw [ywr (by exact hc13),List.map_append];exact eA⟩|exact ⟨hk,s,by rw [yws (by exact hc13)];exact eA⟩
  ·refine rn ?_;first|exact ⟨hk,sv,by rw [ywr (by exact hc13),List.map_append];exact eA⟩|exact ⟨hk,s,by rw [yws (by exact hc13)];exact eA⟩
 ·have qk:=zaz hc9 lk
  refine rn ?_;exact j6 rfl (.trans zbr (.drop [_] _ _)) ⟨rfl,by rw [qk];rfl⟩
theorem zh4 (h:Hist) (la:Lim 1000000 h) (x:Int):y7 Tryz.prog 74 [.agg (y9 h),iv x] [] (fun r h'=>h'= []∧r=zaq (zbz h x)):=by
 refine z6 Tryz.func74 rfl rfl rfl ?_
 have bo:=la.ords
 refine rn ?_;refine z8 rfl (w8 rfl rfl rfl fun b2=> ?_)
 refine rn ?_;refine zc8 (h.ords.length) (fun k:Nat=>((h.ords.take k).all fun o:Ord=> !(o.o==x))=true) (fun k=> [(10,iv k)]) [(1,_),(2,_),(8,_),(9,_)] rfl ?_
 intro k lk zk
 refine rn ?_;refine z7 rfl (fun hc11=> ?_) (fun hc11=> ?_)
 ·have hk:=zay hc11
  have rk:=zae (f:=zef) hk
  refine rn ?_;refine z8 rfl (y5 rfl fun b6=> ?_)
  refine rn ?_;refine z7 rfl (fun hc17=> ?_) (fun hc17=> ?_)
  ·refine rn ?_;refine rq 2 ?_
   exact ⟨rfl,by rw [yi3 hk hc17 zk];rfl⟩
  ·refine rn ?_;exact ⟨hk,by rw [zm8 hk,zk,hc17];rfl,eA⟩
 ·have qk:=zaz hc11 lk
  rw [qk,List.take_length] at zk
  refine rn ?_;refine qv rfl rfl (y0 rfl rfl (v8 (zit h x la) (Sbs.refl _))) ?_
  refine rn ?_;refine rq 1 ?_
  exact ⟨rfl,by rw [yow zk];rfl⟩
theorem ycl (h:Hist) (la:Lim 1000000 h) (x:Int) (v:Ver):y7 Tryz.prog 119 [.agg (y9 h),iv x,.agg (zy8 v)] [] (fun r h'=>h'= []∧r= .tup [iv (zhp h x v).1,bv (zhp h x v).2]):=by
 refine z6 Tryz.func119 rfl rfl rfl ?_
 have be:=la.evs
 have bi:=zn7 la x
 refine rn ?_;refine z8 rfl (w8 rfl rfl rfl fun b3=> ?_)
 refine z8 rfl (w8 rfl rfl rfl fun b5=> ?_)
 refine q1 ?_;refine q1 ?_;refine u3 (zag ?_)
 refine w9 ?_;refine w9 (y6 ?_)
 refine q1 ?_;refine qq rfl rfl (j7 (out:= [iv 0,iv 0]) rfl (by rfl)) ?_
 refine rn ?_;refine z7 rfl (fun hc15=> ?_) (fun hc15=> ?_)
 ·have hv:v=⟨0,0⟩:=eq_of_beq (by rw [←zci];exact hc15)
  refine rn ?_;refine rq 2 ?_
  exact ⟨rfl,by rw [zhp,if_pos hv];rfl⟩
 ·have hv:v≠⟨0,0⟩:=beq_eq_false_iff_ne.1 (by rw [←zci];exact hc15)
  refine rn ?_;refine qv rfl rfl (y0 rfl rfl (v8 (zh4 h la x) (Sbs.refl _))) ?_
  refine rn ?_;refine zc8 ((zbz h x).length) (fun k:Nat=>(((zbz h x).take k).all fun t=> !rkQ h x v t)=true) (fun k=> [(20,iv k)]) [(1,_),(3,_),(5,_),(18,_),(19,_)] rfl ?_
  intro k lk zk
  refine rn ?_;refine z7 rfl (fun hc21=> ?_) (fun hc21=> ?_)
  ·have hk:=zay hc21
   have rk:=zae (f:=zai) hk
   refine rn ?_;refine qv rfl rfl (y0 rfl rfl (v8 (zla h la.evs (zbz h x)[k] x) (Sbs.refl _))) ?_
   refine rn ?_;refine z8 rfl (y5 rfl fun b10=> ?_)
   refine rn ?_;refine z7 rfl (fun hc35=> ?_) (fun hc35=> ?_)
   ·have hq:(zqs (zjc h.evs (zbz h x)[k] x)==v)=true:=by rw [←zci];exact hc35
    refine w9 (y6 ?_)
    refine q1 ?_;refine qq rfl rfl (zc1 rfl rfl rfl (by omega)) ?_
    refine rn ?_;refine rq 3 ?_
    exact ⟨rfl,by rw [yqu hv hk hq zk];rfl⟩
   ·have hq:(zqs (zjc h.evs (zbz h x)[k] x)==v)=false:=by rw [←zci];exact hc35
    refine rn ?_;exact ⟨hk,by rw [zm8 hk,zk,rkQ,hq];rfl,eA⟩
  ·have qk:=zaz hc21 lk
   rw [qk,List.take_length] at zk
   refine rn ?_;refine rq 2 ?_
   exact ⟨rfl,by rw [yuy hv zk];rfl⟩
def wlM (l:List Ev):Nat→List ((Int×Int)×Int)
 |0=> []
 |k+1=>match l[k]? with
  |some e=>if (e.kind==2)=true then zdy (e.t,e.o) (k:Int) (wlM l k) else wlM l k
  |none=>wlM l k
theorem yl8 {l:List Ev} {k:Nat} (hk:k < l.length) (hw:(l[k].kind==2)=true):wlM l (k+1)=zdy (l[k].t,l[k].o) (k:Int) (wlM l k):=by
 rw [wlM,List.getElem?_eq_getElem hk];simp only [hw,if_true]
theorem yl9 {l:List Ev} {k:Nat} (hk:k < l.length) (hw:(l[k].kind==2)=false):wlM l (k+1)=wlM l k:=by
 rw [wlM,List.getElem?_eq_getElem hk];simp only [hw];rfl
theorem ybb (l:List Ev) (t x:Int):∀k,k≤l.length→(za6 (t,x) (wlM l k)).getD 0=atO (zc4 l t x k)
 |0,_=>rfl
 |k+1,hk=>by
  have ih:=ybb l t x k (by omega)
  have hk':k < l.length:=hk
  cases hw:l[k].kind==2 with
  |false=>
   have:zam t x l[k]=false:=by rw [zam,hw];rfl
   rw [yl9 hk' hw,zg8 hk' this,ih]
  |true=>
   rw [yl8 hk' hw,zce]
   cases hq:zam t x l[k] with
   |true=>
    rw [zpv hk' hq,if_pos]
    ·rfl
    ·simp only [zam,Bool.and_eq_true,beq_iff_eq] at hq
     rw [hq.1.2,hq.2]
   |false=>
    rw [zg8 hk' hq,if_neg,ih]
    intro e
    rw [Prod.mk.injEq] at e
    simp [zam,hw,e.1,e.2] at hq
theorem zw1 (h:Hist) (t x:Int):(za6 (t,x) (wlM h.evs h.evs.length)).getD 0=zc5 h t x:=ybb _ _ _ _ (Nat.le_refl _)
abbrev yld (h:Hist):AV:= .list false 1 (((upR h.os.length).map (zax h)).map yhd)
abbrev zcg (h:Hist) (rm:Nat):Res:= .map rm (zal za1 (zbd iv (wlM h.evs h.evs.length)))
theorem zkl (h:Hist) {x:Int} (h0:0≤x) (h1:x < h.os.length):(((upR h.os.length).map (zax h)).map yhd)[x.toNat]? =some (yhd (zax h x)):=by
 have hx:(upR h.os.length)[x.toNat]? =some x:=by
  rw [upR,List.getElem?_map,List.getElem?_range (by omega)];simp [Int.toNat_of_nonneg h0]
 rw [List.getElem?_map,List.getElem?_map,hx];rfl
theorem yk9 (h:Hist) (la:Lim 4611686018427387904 h) (hc:v7 h=0) (x:Int) (h0:0≤x) (h1:x < h.os.length):y7 Tryz.prog 101 [.agg (y9 h),iv x] (.glob 2 156 y3:: .glob 4 305 y4:: .glob 5 308 y2:: .glob 3 246 q7:: []) (fun r h'=>h'= .glob 2 156 y3:: .glob 4 305 y4:: .glob 5 308 y2:: .glob 3 246 q7:: []∧r= .tup [zaq (zax h x),iv 0]):=(yk8 h la x).mono fun _ _ q=>⟨q.1,by rw [q.2,zwn hc ⟨h0,h1⟩];rfl⟩
theorem zl3 {h:Hist} (hc:v7 h=0) {x:Int} (h0:0≤x) (h1:x < h.os.length):(zax h x).length≤3000:=by
 rw [(zjq (za4.1 hc) h0 h1).2.1]
 exact Nat.le_trans (zk0 h.evs x) (zb9 hc).evs
end Go.Proofs
namespace Go.H
open Go Go.Ab
def yd1 (k:Int):Int:=if k=3 then 3 else if k=4 then 4 else 0
def KO (o:Obj):Prop:=∃(ents:Array MapEntry) (clock:Nat) (m:List (Int×Int)),o= .map ents clock∧ents.toList.map (·.key)=(m.map (·.1)).map intK∧(∀i (h1:i < m.length) (h2:i < ents.size),ents[i].val= .int .i64 m[i].2)∧m.length=ents.size∧∀k,(za6 k m).getD 0=yd1 k
section
variable {P:Program} {dst:Option Tmp} {ty:TypeId} {pos:String} {after:Array Edge} {guard:Option (Nat×Bool)} {x y:Operand} {h:List Res} {f:Operand→Option AV} {kt et T:TypeId} {r i:Nat} {k:Int}
theorem yhw {kv:AV} {o:Obj} {z:Value} (ho:KO o) (hx:f x=some (.v (.map (some r)))) (hy:f y=some kv) [hkv:KeyV kv (intK k)] [hm:HasObj h r i o] [hu:Und P T (.map kt et)] [hkt:KeyT P kt intK] [hz:ZerV P et z] [hd:ZV z (iv 0)]:
 QR P h f ⟨dst,.lookup T x y false,ty,pos,after,guard⟩ (iv (yd1 k)):=by
 obtain ⟨ents,clock,m,rfl,hks,hv,hl,hk⟩:=ho
 rw [←hk]
 refine zg2 (b:=iv ((za6 k m).getD 0)) (a:=(zdz k (zbd iv m)).getD (.v z)) (fun w O v hr=>zmu hr) fun X ρ w hev=> ?_
 have hob:=(hev.heap.holds _ (List.mem_of_getElem? hm.h)).1
 have hl':(zbd iv m).length=ents.toList.length:=by simpa [zbd] using hl
 have hks':ents.toList.map (·.key)=((zbd iv m).map (·.1)).map intK:=by rw [hks];simp [zbd]
 have hfind:=hkt.find w k ents.toList ((zbd iv m).map (·.1)) hks'
 have hkey:=hkv.h w _ _ (hev.rel y _ hy)
 rcases zlo k (zbd iv m) ents.toList 0 hl' with ⟨a,b,c⟩|⟨j,g1,g2,a,b,c,d⟩
 ·refine ⟨z,run_v _ ?_,by rw [b];exact .v _⟩
  rw [(hev.rel x _ hx).v_eq,hkey]
  simp only [Instr.lookup,Sem.run_bind,Go.Ab.run_underlying (h:=hu),Result.andThen_ok,MapKept.run_getObj_map hob,Sem.run_pure,hkt.chk,hfind]
  rw [a]
  simp [run_zeroValue hz.h]
 ·have g3:j < m.length:=by simpa [zbd] using g1
  refine ⟨(ents[j]'(by simpa using g2)).val,run_v _ ?_,?_⟩
  ·rw [(hev.rel x _ hx).v_eq,hkey]
   simp only [Instr.lookup,Sem.run_bind,Go.Ab.run_underlying (h:=hu),Result.andThen_ok,MapKept.run_getObj_map hob,Sem.run_pure,hkt.chk,hfind]
   rw [a]
   simp
  ·rw [b,hv j g3 (by omega)]
   simp only [zbd,List.getElem_map,Option.getD_some]
   exact .v _
end
end Go.H
set_option maxRecDepth 10000
namespace Go.Proofs
open Go Go.Ab
attribute [local irreducible] QR QV OE zch aw zc6 zdc zbg zb8 thn zfa zd9 jch zfo
open Go.H
abbrev rcR (h:Hist) (rc:Nat):Res:= .map rc (zal intK (zbd bv (dnM (zdb h.evs))))
abbrev rkS (h:Hist) (rk:Nat):Res:= .map rk (zal zdt (zbd iv (rkM h h.os.length)))
abbrev rgR (rg:Nat) (M:List ((Int×Int)×List Int)):Res:= .map rg (zal za1 (zbd zaq M))
abbrev rwP (h:Hist) (rc rl rk rg:Nat):List AV:=y9 h++ [mpv rc,yld h,mpv rl,mpv rk,mpv rg]
instance:ZV (.slice none 0 0) (zaq []):=⟨fun w O u h=>by rw [h.v_eq];exact .lnil _ _ _ _ (fun q=>by cases q)⟩
theorem yqy (h:Hist) (n:Nat):rkM h (n+1)=zh2 h n 0 (zax h n) (zdy (zr5 n ⟨0,0⟩) 0 (rkM h n)):=rfl
def zf6 (h:Hist) (M:List ((Int×Int)×List Int)):Prop:=∀p l,za6 p M=some l→l=chL h p.1 p.2
theorem zm5 (h:Hist):zf6 h []:=fun p l e=>by cases e
theorem zm4 {h:Hist} {M:List ((Int×Int)×List Int)} (hM:zf6 h M) (p x:Int):zf6 h (zdy (p,x) (chL h p x) M):=fun q l e=>by
 rw [zce] at e
 split at e
 ·rename_i z;injection e with e;rw [←e,←z]
 ·exact hM q l e
theorem zm6 {h:Hist} {M:List ((Int×Int)×List Int)} (hM:zf6 h M) {p x:Int} (hs:(!(za6 (p,x) M).isSome)=false):(za6 (p,x) M).getD []=chL h p x:=by
 cases hq:za6 (p,x) M with
 |none=>rw [hq] at hs;simp at hs
 |some v=>exact hM (p,x) v hq
theorem zyp {h:Hist} {M:List ((Int×Int)×List Int)} (p x:Int):(za6 (p,x) (zdy (p,x) (chL h p x) M)).getD []=chL h p x:=by rw [zce,if_pos rfl];rfl
instance:Chk3 Tryz.prog 170:=⟨fun e w a b c=>by kernel_rfl⟩
theorem yxb (h:Hist) (la:Lim 4611686018427387904 h):y7 Tryz.prog 87 [.agg (y9 h)] (.glob 2 156 y3:: .glob 4 305 y4:: .glob 5 308 y2:: .glob 3 246 q7:: []) (fun r h'=>(v7 h=0∧∃rc rl rk rg,h'=rgR rg []::rkS h rk::zcg h rl::rcR h rc:: .glob 2 156 y3:: .glob 4 305 y4:: .glob 5 308 y2:: .glob 3 246 q7:: []∧r= .tup [.agg (rwP h rc rl rk rg),iv 0])∨(v7 h≠0∧h'= .glob 2 156 y3:: .glob 4 305 y4:: .glob 5 308 y2:: .glob 3 246 q7:: []∧r= .tup [.agg (zo7++ [nmp,.v (.slice none 0 0),nmp,nmp,nmp]),iv (v7 h)])):=by
 refine z6 Tryz.func87 rfl rfl rfl ?_
 refine rn ?_;refine z8 rfl (w8 rfl rfl rfl fun b1=> ?_)
 refine z8 rfl (y5 rfl fun b2=> ?_)
 refine rn ?_;refine qv rfl rfl (y0 rfl rfl (y1.qt (y1.of_fun (yd3 h la)) ((pt2 _ _ _ _).trans (.cons _ ((pt2 _ _ _ _).trans (.cons _ ((pt2 _ _ _ _).trans (.cons _ (pt2 _ _ _ _))))))))) ?_
 refine rn ?_;refine z7 rfl (fun hc22=> ?_) (fun hc22=> ?_)
 ·have hc:=nzT hc22
  refine rn ?_;exact zej (.cons _ _ _ _ (.agg _ _ _ _ _ _ _ rfl inferInstance inferInstance inferInstance rfl) (.cons _ _ _ _ (.tmp _ _ rfl) .nil)) (.drop [_,_] _ _) (.inr ⟨hc,rfl,rfl⟩)
 ·have hc:=nzF hc22
  have hts:onE (v7 h) (zdb h.evs)=(zdb h.evs):=by rw [hc,onE,if_pos rfl]
  rw [hts]
  have hs:=za4.1 hc
  have lA:=zb9 hc
  have lO:=lA.os
  have lE:=lA.evs
  have bC:=Nat.le_trans (zwf h.evs) lA.evs
  refine rn ?_;refine z8 rfl (zaw (enc:=intK) rfl fun b26=> ?_)
  refine z8 rfl (zaw (enc:=za1) rfl fun b27=> ?_)
  refine z8 rfl (zaw (enc:=zdt) rfl fun b28=> ?_)
  refine z8 rfl (zaw (enc:=za1) rfl fun b29=> ?_)
  refine qq rfl rfl (j7 (out:=y9 h++ [mpv b26,.v (.slice none 0 0),mpv b27,mpv b28,mpv b29]) rfl (by rfl)) ?_
  refine z8 rfl (y5 rfl fun b6=> ?_)
  refine rn ?_;refine zbn (zdb h.evs).length (fun _=>True) (fun k=>⟨[(33,iv k),(1,pZ b1),(2,pZ b2),(6,pZ b6),(31,zaq (zdb h.evs)),(32,iv ((zdb h.evs).map zai).length)],.box b6 119 (y9 h++ [mpv b26,.v (.slice none 0 0),mpv b27,mpv b28,mpv b29]):: .map b29 (zal za1 (zbd zaq [])):: .map b28 (zal zdt (zbd iv [])):: .map b27 (zal za1 (zbd iv (wlM h.evs 0))):: .map b26 (zal intK (zbd bv (dnM ((zdb h.evs).take k)))):: .box b2 119 (zo7++ [nmp,.v (.slice none 0 0),nmp,nmp,nmp]):: .box b1 28 (y9 h):: .glob 2 156 y3:: .glob 4 305 y4:: .glob 5 308 y2:: .glob 3 246 q7:: [],[]⟩) trivial es ?_
  intro k lk _
  refine rn ?_;refine z7 rfl (fun hc34=> ?_) (fun hc34=> ?_)
  ·have hk:=zay hc34
   have rk:=zae (f:=zai) hk
   refine rn ?_;refine z8 rfl (zan (g:=bv) (enc:=intK) (k:=(zdb h.evs)[k]) (v:=true) rfl rfl rfl ?_)
   refine rn ?_;exact ⟨hk,trivial,by rw [yta hk];exact eA⟩
  ·have qk:=zaz hc34 lk
   rw [qk,List.take_length]
   refine rn ?_;refine zbn h.evs.length (fun _=>True) (fun j=>⟨[(44,iv j),(1,pZ b1),(2,pZ b2),(6,pZ b6),(42,zoc h.evs),(43,iv (h.evs.map evR).length)],.box b6 119 (y9 h++ [mpv b26,.v (.slice none 0 0),mpv b27,mpv b28,mpv b29]):: .map b29 (zal za1 (zbd zaq [])):: .map b28 (zal zdt (zbd iv [])):: .map b27 (zal za1 (zbd iv (wlM h.evs j))):: .map b26 (zal intK (zbd bv (dnM (zdb h.evs)))):: .box b2 119 (zo7++ [nmp,.v (.slice none 0 0),nmp,nmp,nmp]):: .box b1 28 (y9 h):: .glob 2 156 y3:: .glob 4 305 y4:: .glob 5 308 y2:: .glob 3 246 q7:: [],[]⟩) trivial es ?_
   intro j lj _
   refine rn ?_;refine z7 rfl (fun hc45=> ?_) (fun hc45=> ?_)
   ·have hj:=zay hc45
    have rj:=zae (f:=evR) hj
    refine rn ?_;refine z8 rfl (y5 rfl fun b10=> ?_)
    refine rn ?_;refine z7 rfl (fun hc51=> ?_) (fun hc51=> ?_)
    ·have hw:(h.evs[j].kind==2)=true:=by simpa using hc51
     refine y6 ?_;refine q1 ?_;refine q1 ?_;refine q1 ?_;refine q1 ?_;refine q1 ?_;refine q1 ?_;refine qq rfl rfl (zbt (out:= [iv h.evs[j].t,iv h.evs[j].o]) rfl (by rfl)) ?_
     refine rn ?_;refine z8 rfl (zan (g:=iv) (enc:=za1) (k:=(h.evs[j].t,h.evs[j].o)) (v:=(j:Int)) rfl rfl rfl ?_)
     refine rn ?_;first|exact ⟨hj,trivial,by rw [yl8 hj hw];exact eA⟩|exact ⟨hj,trivial,by rw [yl9 hj hw];exact eA⟩
    ·have hw:(h.evs[j].kind==2)=false:=by simpa using hc51
     refine rn ?_;first|exact ⟨hj,trivial,by rw [yl8 hj hw];exact eA⟩|exact ⟨hj,trivial,by rw [yl9 hj hw];exact eA⟩
   ·have qj:=zaz hc45 lj
    subst qj
    refine rn ?_;refine zc7 h.os.length (fun k s=>⟨[(64,iv k),(1,pZ b1),(2,pZ b2),(6,pZ b6),(63,iv (h.os.map zdi).length)],.row s.v 1 29 (((upR k).map (zax h)).map yhd):: .box b6 119 (y9 h++ [mpv b26,.v s.v,mpv b27,mpv b28,mpv b29]):: .map b29 (zal za1 (zbd zaq [])):: .map b28 (zal zdt (zbd iv (rkM h k))):: .map b27 (zal za1 (zbd iv (wlM h.evs h.evs.length))):: .map b26 (zal intK (zbd bv (dnM (zdb h.evs)))):: .box b2 119 (zo7++ [nmp,.v (.slice none 0 0),nmp,nmp,nmp]):: .box b1 28 (y9 h):: .glob 2 156 y3:: .glob 4 305 y4:: .glob 5 308 y2:: .glob 3 246 q7:: [],[]⟩) ⟨none,0,0⟩ (v6 (zac 1 29) es) ?_
    intro k s lk
    refine rn ?_;refine z7 rfl (fun hc65=> ?_) (fun hc65=> ?_)
    ·have hk:k < h.os.length:=by have q:=oT hc65;rw [oM] at q;omega
     have k0:(0:Int)≤(k:Int):=by omega
     have k1:(k:Int) < h.os.length:=by omega
     have hb:=zl3 hc k0 k1
     refine rn ?_;refine qv rfl rfl (y0 rfl rfl (y1.qt (y1.of_fun (yk9 h la hc k k0 k1)) ((pt8 _ _ _ _ _ _ _ _ _ _).trans (.cons _ ((pt8 _ _ _ _ _ _ _ _ _ _).trans (.cons _ ((pt8 _ _ _ _ _ _ _ _ _ _).trans (.cons _ (pt8 _ _ _ _ _ _ _ _ _ _))))))))) ?_
     refine rn ?_;refine qv rfl rfl (q6 rfl rfl) ?_
     refine z8 rfl (u7 rfl rfl (by simp only [oM,upR,List.length_range,List.length_cons,List.length_nil];omega) rfl (fun s77=> ?_) (fun r hr=>by rw [List.mem_singleton.1 hr];rfl))
     refine k8 s77 fun sv hsv=> ?_
     subst hsv
     refine q1 ?_;first|refine z8 rfl (j5 rfl rfl rfl ?_)|refine z8 rfl (zak rfl rfl rfl rfl (Nat.le_of_ble_eq_true rfl) ?_)
     refine u3 (zag ?_)
     refine w9 (y6 ?_)
     refine q1 ?_;refine q1 ?_;refine q1 ?_;refine qq rfl rfl (j7 (out:= [iv k,iv 0,iv 0]) rfl (by rfl)) ?_
     refine z8 rfl (zan (g:=iv) (enc:=zdt) (k:=((k:Int),(0:Int),(0:Int))) (v:=(0:Int)) rfl rfl rfl ?_)
     refine rn ?_;refine zbn (zax h k).length (fun _=>True) (fun j=>⟨[(85,iv j),(1,pZ b1),(2,pZ b2),(6,pZ b6),(11,iv k),(63,iv (h.os.map zdi).length),(64,iv k),(83,zaq (zax h k)),(84,iv ((zax h k).map zai).length)],.row sv.v 1 29 (((upR k).map (zax h)).map yhd++ [yhd (zax h k)]):: .box b6 119 (y9 h++ [mpv b26,.v sv.v,mpv b27,mpv b28,mpv b29]):: .map b29 (zal za1 (zbd zaq [])):: .map b28 (zal zdt (zbd iv (zh2 h k 0 ((zax h k).take j) (zdy (zr5 k ⟨0,0⟩) 0 (rkM h k))))):: .map b27 (zal za1 (zbd iv (wlM h.evs h.evs.length))):: .map b26 (zal intK (zbd bv (dnM (zdb h.evs)))):: .box b2 119 (zo7++ [nmp,.v (.slice none 0 0),nmp,nmp,nmp]):: .box b1 28 (y9 h):: .glob 2 156 y3:: .glob 4 305 y4:: .glob 5 308 y2:: .glob 3 246 q7:: [],[]⟩) trivial es ?_
     intro j lj _
     refine rn ?_;refine z7 rfl (fun hc86=> ?_) (fun hc86=> ?_)
     ·have hj:=zay hc86
      have rj:=zae (f:=zai) hj
      obtain ⟨i,hi,a1,a2, -⟩:=yi0 hs k0 k1 hj
      have ri:=zae (f:=evR) hi
      have hfv:zhr h k (zax h k)[j]=h.evs[i].v:=by rw [zhr,a1];rfl
      refine rn ?_;refine u4 17 rfl ?_
      refine dq rfl rfl qrA ?_;refine dq rfl rfl qrA ?_;refine dq rfl rfl qrA ?_;refine dq rfl rfl qrA ?_;refine dq rfl rfl qrA ?_;refine dq rfl rfl qrA ?_;refine dq rfl rfl qrA ?_;refine dq rfl rfl qrA ?_;refine dq rfl rfl qrA ?_;refine dq rfl rfl (zbt (out:= [iv (zax h k)[j],iv k]) rfl (by rfl)) ?_
      refine dq rfl rfl (zsz (zbl (enc:=za1) (k:=((zax h k)[j],(k:Int))) 0 rfl rfl) (show iv _=iv (i:Nat) from congrArg iv (by rw [zw1,a2]))) ?_
      refine dq rfl rfl (zc9 rfl rfl ri) ?_
      refine dq rfl rfl qrA ?_;refine dq rfl rfl qrA ?_;refine dq rfl rfl (j7 (out:= [iv k,iv h.evs[i].v.t,iv h.evs[i].v.k]) rfl (by rfl)) ?_
      refine dq rfl rfl qrA ?_;refine dq rfl rfl (zc1 rfl rfl rfl (by omega)) ?_
      refine rn ?_;refine z8 rfl (zan (g:=iv) (enc:=zdt) (k:=((k:Int),h.evs[i].v.t,h.evs[i].v.k)) (v:=(j:Int)+1) rfl rfl rfl ?_)
      refine rn ?_;exact ⟨hj,trivial,by rw [yce hj,hfv];exact eA⟩
     ·have qj:=zaz hc86 lj
      rw [qj,List.take_length]
      refine rn ?_;exact ⟨hk,sv,by rw [zow,List.map_append,List.map_append,yqy];exact eA⟩
    ·have qk:k=h.os.length:=by have q:=oF hc65;rw [oM] at q;omega
     refine zhi ?_;refine zjj ?_;refine zjj ?_;refine zey ?_;refine zag ?_;refine w9 (y6 ?_)
     refine zix (zjd (y9 h++ [mpv b26]) [mpv b27,mpv b28,mpv b29]) ?_
     refine rn ?_;exact zej (.cons _ _ _ _ (.agg _ _ _ _ _ _ _ rfl inferInstance inferInstance inferInstance rfl) (.cons _ _ _ _ (.tmp _ _ rfl) .nil)) (.trans (.perm (.cons _ ((pt4 _ _ _ _ _ _).trans (.cons _ (pt4 _ _ _ _ _ _)))) _) (.drop [_,_,_] _ _)) (.inl ⟨hc,b26,b27,b28,b29,by rw [qk],by rw [qk];rfl⟩)
theorem yt6 {a:Int} (h:(a !=0)=true):a≠0:=by simpa using h
theorem yvf {a:Int} (h:(a !=0)=false):a=0:=by simpa using h
theorem ywp {p:Prop} [Decidable p] (h:(!decide p)=true):¬p:=by simpa using h
theorem ywq {p:Prop} [Decidable p] (h:(!decide p)=false):p:=by simpa using h
theorem yss {l:List Mat} {q:Mat→Bool} (hc:decide (zbq q 0 l < 0)=false):∃k,∃hk:k < l.length,zbq q 0 l=(k:Int)∧l.find? q=some l[k]:=by
 have:=zfp q l 0
 cases hf:l.find? q with
 |none=>rw [hf] at this;simp only at this;rw [this] at hc;exact absurd hc (by decide)
 |some o=>
  rw [hf] at this
  obtain ⟨k,hk,e,eo,_⟩:=this
  exact ⟨k,hk,by rw [e,Nat.zero_add],by rw [eo]⟩
theorem yvw {l:List Mat} {q:Mat→Bool} (hc:decide (zbq q 0 l < 0)=true):l.find? q=none:=by
 have:=zfp q l 0
 cases hf:l.find? q with
 |none=>rfl
 |some o=>
  rw [hf] at this
  obtain ⟨k,hk,e,eo,_⟩:=this
  rw [e] at hc
  have:=oT hc
  omega
theorem yik {h:Hist} {N:Nat} (la:Lim N h) (p x:Int):(yf9 h p x).ts.length≤N:=by
 rw [yf9,yk4]
 cases hf:h.mats.find? (zre p x) with
 |none=>exact Nat.zero_le _
 |some m=>exact la.matts m (List.mem_of_find?_eq_some hf)
def ymo (h:Hist) (p o:Int):List Bool:=if zj6 h p o=0 then zxa h p o else []
theorem yr8 (a b:Int):y7 Tryz.prog 145 [iv a,iv b] [] (fun r h'=>h'= []∧r=bv (decide (0≤a∧a < b))):=by
 refine z6 Tryz.func145 rfl rfl rfl ?_
 refine rn ?_;refine w7 (fun hg1_2=> ?_) (fun hg1_2=> ?_)
 ·refine rn ?_;refine rq 0 ?_
  exact ⟨rfl,by rw [←ylc,hg1_2];rfl⟩
 ·refine rn ?_;refine rq 0 ?_
  exact ⟨rfl,by rw [←ylc,hg1_2];rfl⟩
theorem yvj (m:Mat) (p x:Int) (b2 b3:Nat) (G:List Res):y7 Tryz.prog 147 [.agg (zd8 m),pZ b2,pZ b3] (.box b2 3 [iv p]:: .box b3 3 [iv x]::G) (fun r h'=>h'=(.box b2 3 [iv p]:: .box b3 3 [iv x]::G)∧r=bv (zre p x m)):=by
 refine z6 Tryz.func147 rfl rfl rfl ?_
 refine rn ?_;refine z8 rfl (w8 rfl rfl rfl fun b3=> ?_)
 refine rn ?_;refine w7 (fun hg1_4=> ?_) (fun hg1_4=> ?_)
 ·refine rn ?_;refine rq 1 ?_
  exact ⟨rfl,congrArg bv (by unfold zre;first|rfl|(simp_all;done))⟩
 ·refine rn ?_;refine rq 1 ?_
  exact ⟨rfl,congrArg bv (by unfold zre;first|rfl|(simp_all;done))⟩
theorem yoc (l:List Mat) (fv:AV) (q:Mat→Bool) (G:List Res) (hp:∀a∈l,y1 Tryz.prog fv [.agg (zd8 a)] G (fun r h'=>h'=G∧r=bv (q a))) (hl:l.length≤4611686018427387904):y7 Tryz.prog 146 [zvm l,fv] G (fun r h'=>h'=G∧r= .tup [.agg (zd8 ((l.find? q).getD yp0)),bv (l.find? q).isSome]):=by
 refine z6 Tryz.func146 rfl rfl rfl ?_
 refine rn ?_;refine z8 rfl (y5 rfl fun b4=> ?_)
 refine rn ?_;refine qv rfl rfl (y0 rfl rfl (y1.qt (h2:= [_]) (y1.of_fun (zl6 l _ q G hp hl)) (zdm [_] _))) ?_
 refine rn ?_;refine z7 rfl (fun hc11=> ?_) (fun hc11=> ?_)
 ·have hn:=yvw hc11
  refine w9 (y6 ?_)
  refine qq rfl rfl (zg2 (fun w O v hr=>Sb.rel (Sb.aggs (bs:=zd8 yp0) (by exact ⟨.refl _,.refl _,.refl _,.nil _ _,trivial⟩)) hr) (zjo rfl rfl)) ?_
  refine rn ?_;exact zej (.cons _ _ _ _ (.agg _ _ _ _ _ _ _ rfl inferInstance inferInstance inferInstance rfl) (.cons _ _ _ _ (.tmp _ _ rfl) .nil)) (.drop [_] _ _) ⟨rfl,by rw [hn];rfl⟩
 ·obtain ⟨k,hk,ek,hx⟩:=yss hc11
  have rk:=zae (f:=zd8) hk
  rw [ek]
  refine rn ?_;exact zej (.cons _ _ _ _ (.agg _ _ _ _ _ _ _ rfl inferInstance inferInstance inferInstance rfl) (.cons _ _ _ _ (.tmp _ _ rfl) .nil)) (.drop [_] _ _) ⟨rfl,by rw [hx];rfl⟩
theorem yw4 {h:Hist} {p x:Int} (he:ygc h x≠0):zj6 h p x=ygc h x∧zj6 h p x≠0:=by
 have:zj6 h p x=ygc h x:=by rw [zj6,if_neg he]
 exact ⟨this,by rw [this];exact he⟩
theorem yw3 {h:Hist} {p x:Int} (hi:ygc h x=0) (hp:¬(0≤p∧p < ((h.ps.map zdi).length:Int))):zj6 h p x=2∧zj6 h p x≠0:=by
 rw [oM] at hp
 have:zj6 h p x=2:=by rw [zj6,if_pos hi,if_neg hp]
 exact ⟨this,by rw [this];decide⟩
theorem yw2 {h:Hist} {p x:Int} (hi:ygc h x=0) (hp:0≤p∧p < ((h.ps.map zdi).length:Int)):zj6 h p x=0:=by
 rw [oM] at hp
 rw [zj6,if_pos hi,if_pos hp]
theorem ygx {b:Bool} {l:List Int} {q:Int→Bool} {k:Nat} (hk:k < l.length):(b::(l.take (k+1)).map q).map zop=(b::(l.take k).map q).map zop++ [[bv (q l[k])]]:=by
 rw [List.take_succ_eq_append_getElem hk,List.map_append,←List.cons_append,List.map_append];rfl
theorem yoa (h:Hist) (la:Lim 4611686018427387904 h) (p x:Int):y7 Tryz.prog 98 [.agg (y9 h),iv p,iv x] (.glob 2 156 y3:: .glob 4 305 y4:: .glob 5 308 y2:: .glob 3 246 q7:: []) (fun r h'=>∃s:SV,h'= .row s.v 1 4 ((ymo h p x).map zop):: .glob 2 156 y3:: .glob 4 305 y4:: .glob 5 308 y2:: .glob 3 246 q7:: []∧r= .tup [.v s.v,iv (zj6 h p x)]):=by
 refine z6 Tryz.func98 rfl rfl rfl ?_
 refine rn ?_;refine z8 rfl (w8 rfl rfl rfl fun b3=> ?_)
 refine z8 rfl (w8 rfl rfl rfl fun b4=> ?_)
 refine z8 rfl (w8 rfl rfl rfl fun b5=> ?_)
 refine rn ?_;refine qv rfl rfl (y0 rfl rfl (y1.qt (y1.of_fun (yk8 h la x)) ((pt3 _ _ _ _ _).trans (.cons _ ((pt3 _ _ _ _ _).trans (.cons _ ((pt3 _ _ _ _ _).trans (.cons _ (pt3 _ _ _ _ _))))))))) ?_
 refine rn ?_;refine z7 rfl (fun hc21=> ?_) (fun hc21=> ?_)
 ·have he:=yw4 (p:=p) (yt6 hc21)
  refine rn ?_;exact zb0 rfl rfl (.trans (.drop [_,_,_] _ _) (zat 1 4 _)) ⟨⟨none,0,0⟩,by rw [ymo,if_neg (he.2)];rfl,by rw [he.1];rfl⟩
 ·have hi:ygc h x=0:=yvf hc21
  refine rn ?_;refine qv rfl rfl (y0 rfl rfl (v8 (yr8 p (h.ps.map zdi).length) (Sbs.refl _))) ?_
  refine rn ?_;refine z7 rfl (fun hc25=> ?_) (fun hc25=> ?_)
  ·have he:=yw3 (p:=p) hi (ywp hc25)
   refine rn ?_;exact zb0 rfl rfl (.trans (.drop [_,_,_] _ _) (zat 1 4 _)) ⟨⟨none,0,0⟩,by rw [ymo,if_neg (he.2)];rfl,by rw [he.1];rfl⟩
  ·have he:zj6 h p x=0:=yw2 hi (ywq hc25)
   have lA:=zb9 (ybm.1 he).1
   have lM:=yik la p x
   have lI:(zax h x).length≤3000:=by rw [zuo he];exact zn7 lA x
   refine rn ?_;refine qv rfl rfl (y0 rfl rfl (y1.of_fun (yoc h.mats _ (zre p x) _ (fun a _=>y1.qt (y1.of_acall (fs:= []) (cs:= [pZ b4,pZ b5]) (yvj a p x b4 b5 (.box b3 28 (y9 h):: .glob 2 156 y3:: .glob 4 305 y4:: .glob 5 308 y2:: .glob 3 246 q7:: []))) (pt1 _ _ _)) la.mats))) ?_
   refine rn ?_;refine z8 rfl (y5 rfl fun b10=> ?_)
   refine rn ?_;refine z8 rfl (zfn (rows:=(((yf9 h p x).first::((zax h x).take 0).map (fun t=>(yf9 h p x).ts.contains t)).map zop)) rfl rfl rfl fun s41=> ?_)
   refine k8 s41 fun sv0 hsv0=> ?_
   subst hsv0
   refine rn ?_;have hii:onE (zhn h x h.os.length) (zax h x)=zax h x:=by rw [show zhn h x h.os.length=0 from hi];rfl
   rw [hii]
   refine rn ?_;refine zc7 (zax h x).length (fun k s=>⟨[(44,iv k),(12,.v s.v),(10,pZ b10),(42,zaq (zax h x)),(43,iv ((zax h x).map zai).length)],.row s.v 1 4 (((yf9 h p x).first::((zax h x).take k).map (fun t=>(yf9 h p x).ts.contains t)).map zop):: .box b10 109 (zd8 (yf9 h p x)):: .box b5 3 [iv x]:: .box b4 3 [iv p]:: .box b3 28 (y9 h):: .glob 2 156 y3:: .glob 4 305 y4:: .glob 5 308 y2:: .glob 3 246 q7:: [],[]⟩) sv0 es ?_
   intro k s lk
   refine rn ?_;refine z7 rfl (fun hc45=> ?_) (fun hc45=> ?_)
   ·have hk:=zay hc45
    have rk:=zae (f:=zai) hk
    refine rn ?_;refine qv rfl rfl (y0 rfl rfl (v8 (ztw (yf9 h p x).ts (zax h x)[k] lM) (Sbs.refl _))) ?_
    refine qv rfl rfl (q6 rfl rfl) ?_
    refine z8 rfl (u7 rfl rfl (by simp only [oM,List.length_cons,List.length_nil];have:=List.length_take_le k (zax h x);omega) rfl (fun s54=> ?_) (yia [(yf9 h p x).ts.contains (zax h x)[k]]))
    refine k8 s54 fun sv hsv=> ?_
    subst hsv
    refine rn ?_;exact ⟨hk,sv,by rw [ygx hk];exact eA⟩
   ·have qk:=zaz hc45 lk
    refine rn ?_;exact zb0 rfl rfl (.trans (.perm ((pt1 _ _ _).trans (.cons _ ((pt1 _ _ _).trans (.cons _ ((pt1 _ _ _).trans (.cons _ (pt1 _ _ _))))))) _) (.drop [_,_,_,_] _ _)) ⟨s,by rw [ymo,if_pos he,zxa,ykj,qk,List.take_length],by rw [he];rfl⟩
theorem yr7 (h:Hist) (la:Lim 4611686018427387904 h) (p x:Int):y7 Tryz.prog 98 [.agg (y9 h),iv p,iv x] (.glob 2 156 y3:: .glob 4 305 y4:: .glob 5 308 y2:: .glob 3 246 q7:: []) (fun r h'=>h'= .glob 2 156 y3:: .glob 4 305 y4:: .glob 5 308 y2:: .glob 3 246 q7:: []∧r= .tup [zoo (ymo h p x),iv (zj6 h p x)]):=
 (yoa h la p x).ventR (by rintro _ _ ⟨s,rfl,rfl⟩;exact ⟨_,_,zbe [] [_],rfl,rfl⟩)
def zpz {α:Type} (d:Nat→Option α):Nat→List α
 |0=> []
 |k+1=>zpz d k++(d k).toList
theorem yso {α:Type} {d:Nat→Option α} {k:Nat} (h:d k=none):zpz d (k+1)=zpz d k:=by rw [zpz,h];simp
theorem ysn {α:Type} {d:Nat→Option α} {k:Nat} {a:α} (h:d k=some a):zpz d (k+1)=zpz d k++ [a]:=by rw [zpz,h];rfl
theorem zx8 {α:Type} (d:Nat→Option α):∀n,(zpz d n).length≤n
 |0=>by simp [zpz]
 |n+1=>by
  have:=zx8 d n
  rw [zpz,List.length_append]
  cases d n <;> simp <;> omega
def chD (l:List Bool) (k:Nat):Option Int:=if 0 < k∧l[k]? ≠l[k - 1]? then some (k:Int) else none
theorem yfc (l:List Bool):∀n,zpz (chD l) n=zt3 l n
 |0=>rfl
 |n+1=>by
  rw [zpz,zt3,yfc l n,chD]
  split <;> rfl
theorem yph {l:List Bool} {k:Nat} (h:decide ((k:Int) > 0)=false):chD l k=none:=by
 have:=oF h
 rw [chD,if_neg (by omega)]
theorem yv6 {l:List Bool} {k:Nat} (h:decide ((k:Int) > 0)=true) (hk:k < l.length) (hb:(l[k] !=l[k - 1]'(by omega))=true):chD l k=some (k:Int):=by
 have:=oT h
 rw [chD,if_pos ⟨by omega,by rw [List.getElem?_eq_getElem hk,List.getElem?_eq_getElem (by omega)];intro e;injection e with e;rw [e] at hb;simp at hb⟩]
theorem ypg {l:List Bool} {k:Nat} (hk:k < l.length) (hb:(l[k] !=l[k - 1]'(by omega))=false):chD l k=none:=by
 rw [chD,if_neg (by rintro ⟨_,q⟩;apply q;rw [List.getElem?_eq_getElem hk,List.getElem?_eq_getElem (by omega)];congr 1;simpa using hb)]
theorem ylq {k:Nat} (h:decide ((k:Int) > 0)=true):((k:Int) - 1).toNat=k - 1∧0≤(k:Int) - 1:=by
 have:=oT h
 omega
theorem ym6 {l:List Bool} {k:Nat} (h:decide ((k:Int) > 0)=true) (hk:k < l.length):(l.map zop)[((k:Int) - 1).toNat]? =some (zop (l[k - 1]'(by omega))):=by
 rw [(ylq h).1,List.getElem?_map,List.getElem?_eq_getElem (by omega)];rfl
theorem yrz (l:List Bool) (hl:l.length≤1000000) (b1:Nat) (y:AV) (I:Nat→SV→List Res) (x0:SV) (hy:∀k x a,k < l.length→chD l k=some a→y1 Tryz.prog y [iv a] (.box b1 130 [zoo l]::I k x) (fun r h'=>∃x',r=bv true∧h'= .box b1 130 [zoo l]::I (k+1) x')) (hs:∀k x,k < l.length→chD l k=none→I (k+1) x=I k x):y7 Tryz.prog 149 [y,pZ b1] (.box b1 130 [zoo l]::I 0 x0) (fun r h'=>∃x,h'=I l.length x):=by
 refine z6 Tryz.func149 rfl rfl rfl ?_
 refine rn ?_;refine zhh l.length (fun _ _=>True) (fun k (x:SV)=>⟨[(6,iv k),(0,y),(1,pZ b1),(5,iv (l.map zop).length)],.box b1 130 [zoo l]::I k x,[]⟩) x0 trivial es ?_
 intro k x lk _
 refine rn ?_;refine z7 rfl (fun hc7=> ?_) (fun hc7=> ?_)
 ·have hk:=zay hc7
  have rk:=zae (f:=zop) hk
  refine rn ?_;refine u4 17 rfl ?_
  refine rn ?_;refine zcv (fun hg3_2=> ?_) (fun hg3_2=> ?_)
  ·refine dq rfl rfl qrA ?_;refine dq rfl rfl qrA ?_;refine dq rfl rfl qrA ?_;refine dq rfl rfl qrA ?_;refine dq rfl rfl qrA ?_;refine dq rfl rfl qrA ?_;refine dq rfl rfl (zc1 rfl rfl rfl (by omega)) ?_
   refine dq rfl rfl (zau rfl rfl (ylq hg3_2).2 (ym6 hg3_2 hk)) ?_
   refine dq rfl rfl qrA ?_;refine dq rfl rfl (yrj (c:=l[k] !=l[k - 1]'(by omega)) (znt rfl rfl) rfl) ?_
   refine rn ?_;refine zcv (fun hg3_14=> ?_) (fun hg3_14=> ?_)
   ·refine rn ?_;refine z8 rfl (v2 rfl rfl (hy k x _ hk (yv6 hg3_2 hk (by exact hg3_14))) rfl ?_)
    rintro _ _ ⟨x',rfl,rfl⟩
    refine rn ?_;refine z7 rfl (fun hc28=> ?_) (fun hc28=> ?_)
    ·refine rn ?_;exact absurd hc28 (by simp)
    ·refine rn ?_;first|exact ⟨hk,x',trivial,eA⟩|exact ⟨hk,x,trivial,by rw [hs k x hk (ypg hk (by exact hg3_14))];exact eA⟩|exact ⟨hk,x,trivial,by rw [hs k x hk (yph hg3_2)];exact eA⟩
   ·refine rn ?_;refine zdo rfl ?_;refine rn ?_;first|exact ⟨hk,x',trivial,eA⟩|exact ⟨hk,x,trivial,by rw [hs k x hk (ypg hk (by exact hg3_14))];exact eA⟩|exact ⟨hk,x,trivial,by rw [hs k x hk (yph hg3_2)];exact eA⟩
  ·refine rn ?_;refine zdo rfl ?_;refine rn ?_;first|exact ⟨hk,x',trivial,eA⟩|exact ⟨hk,x,trivial,by rw [hs k x hk (ypg hk (by exact hg3_14))];exact eA⟩|exact ⟨hk,x,trivial,by rw [hs k x hk (yph hg3_2)];exact eA⟩
 ·have qk:=zaz hc7 lk
  subst qk
  refine rn ?_;exact zd4 .nil (.drop [_] _ _) ⟨x,rfl⟩
theorem yvh (l:List Bool) (W:List Res):y7 Tryz.prog 100 [zoo l] W (fun r h'=>∃b1,h'= .box b1 130 [zoo l]::W∧r= .fn (.func 149) [] [pZ b1]):=by
 refine z6 Tryz.func100 rfl rfl rfl ?_
 refine rn ?_;refine z8 rfl (w8 rfl rfl rfl fun b1=> ?_)
 refine rn ?_;exact j6 rfl (.refl _ _) ⟨_,rfl,rfl⟩
theorem ypq (f:FuncId) [Go.Ab.Enters Tryz.prog f] (cs:List AV) (w1:Res) (n:Nat) (hn:n≤1000000) (d:Nat→Option (Int)) (W:List Res) (hseq:∀(y:AV) (I:Nat→SV→List Res) (x0:SV),(∀k x a,k < n→d k=some a→y1 Tryz.prog y [iv a] (w1::I k x) (fun r h'=>∃x',r=bv true∧h'=w1::I (k+1) x'))→(∀k x,k < n→d k=none→I (k+1) x=I k x)→y7 Tryz.prog f (y::cs) (w1::I 0 x0) (fun _ h'=>∃x,h'=I n x)):y7 Tryz.prog 148 [.v (.slice none 0 0),.fn (.func f) [] cs] (w1::W) (fun r h'=>∃s:SV,h'= .row s.v 1 3 ((zpz d n).map zai)::W∧r= .v s.v):=by
 refine z6 Tryz.func148 rfl rfl rfl ?_
 refine rn ?_;refine z8 rfl (w8 rfl rfl rfl fun b2=> ?_)
 refine rn ?_;refine zf3 (s':=⟨[(6,.fn (.func f) [] cs),(2,pZ b2)],w1:: .box b2 29 [.v (⟨none,0,0⟩:SV).v]:: .row (⟨none,0,0⟩:SV).v 1 3 ((zpz d 0).map zai)::W,[]⟩) (v6 (v6 (zac 1 3) (zbb ((pt2 _ _ _ _).trans (.cons _ (pt1 _ _ _))))) es) ?_
 refine zmh (fun pend h''=>pend=none∧∃s:SV,h''= .box b2 29 [.v s.v]:: .row s.v 1 3 ((zpz d n).map zai)::W) rfl (fun fn l q lp hlp=> ?_) (fun q h'' hK=> ?_) (fun q h'' c hK=> ?_)
 ·suffices hy:∀k (s:SV) a,k < n→d k=some a→y1 Tryz.prog (yv l) [iv a] (w1::lp .ready none:: .defs q:: .box b2 29 [.v s.v]:: .row s.v 1 3 ((zpz d k).map zai)::W) (fun r h'=>∃s':SV,r=bv true∧h'=w1::lp .ready none:: .defs q:: .box b2 29 [.v s'.v]:: .row s'.v 1 3 ((zpz d (k+1)).map zai)::W) by
   refine y7.mono (y7.perm (pt2 _ _ _ _) (hseq (yv l) (fun k (s:SV)=>lp .ready none:: .defs q:: .box b2 29 [.v s.v]:: .row s.v 1 3 ((zpz d k).map zai)::W) ⟨none,0,0⟩ hy (fun k s hk hn=>by rw [yso hn]))) ?_
   rintro _ _ ⟨s,rfl⟩
   exact ⟨none,.ready,_,.refl _,by simp,rfl,s,rfl⟩
  intro k s a hk hd
  refine y1.perm (pt1 _ _ _) (y1.ventE ?_)
  refine zdn hlp rfl rfl ?_
  refine rn ?_;refine ⟨[(5,iv a),(2,pZ b2)],w1:: .defs q:: .box b2 29 [.v s.v]:: .row s.v 1 3 ((zpz d k).map zai)::W,es,?_⟩
  refine rn ?_;refine qv rfl rfl (q6 rfl rfl) ?_
  refine z8 rfl (u7 rfl rfl (by simp only [oM,List.length_cons,List.length_nil];have:=zx8 d k;omega) rfl (fun s11=> ?_) (zg3 [a]))
  refine k8 s11 fun sv hsv=> ?_
  subst hsv
  refine rn ?_;exact zdf (.refl _) ⟨_,_,.perm (pt1 _ _ _) _,sv,rfl,by rw [ysn hd,List.map_append];rfl⟩
 ·obtain ⟨_,s,rfl⟩:=hK
  refine rn ?_;exact zh3 (.refl _) (.cons _ _ _ _ (.tmp _ _ rfl) .nil) (.drop1 _ _ _) ⟨s,rfl,rfl⟩
 ·obtain ⟨hc,_⟩:=hK
  exact absurd hc (by simp)
theorem yjs (f:FuncId) [Go.Ab.Enters Tryz.prog f] (cs:List AV) (w1:Res) (n:Nat) (hn:n≤1000000) (d:Nat→Option (Int)) (W:List Res) (hseq:∀(y:AV) (I:Nat→SV→List Res) (x0:SV),(∀k x a,k < n→d k=some a→y1 Tryz.prog y [iv a] (w1::I k x) (fun r h'=>∃x',r=bv true∧h'=w1::I (k+1) x'))→(∀k x,k < n→d k=none→I (k+1) x=I k x)→y7 Tryz.prog f (y::cs) (w1::I 0 x0) (fun _ h'=>∃x,h'=I n x)):y7 Tryz.prog 99 [.fn (.func f) [] cs] (w1::W) (fun r h'=>∃s:SV,h'= .row s.v 1 3 ((zpz d n).map zai)::W∧r= .v s.v):=by
 refine z6 Tryz.func99 rfl rfl rfl ?_
 refine rn ?_;refine z8 rfl (v2 rfl rfl (y1.of_fun (ypq f cs w1 n hn d W hseq)) rfl ?_)
 rintro _ _ ⟨s,rfl,rfl⟩
 refine rn ?_;exact j6 rfl (.refl _ _) ⟨s,rfl,rfl⟩
theorem ymn {h:Hist} {N:Nat} (la:Lim N h) {p x:Int} (he:zj6 h p x=0):(zxa h p x).length≤1000000:=by
 have lA:=zb9 (ybm.1 he).1
 have:=zn7 lA x
 rw [znh,zuo he];omega
theorem yoe (h:Hist) (la:Lim 4611686018427387904 h) (p x:Int):y7 Tryz.prog 42 [.agg (y9 h),iv p,iv x] (.glob 2 156 y3:: .glob 4 305 y4:: .glob 5 308 y2:: .glob 3 246 q7:: []) (fun r h'=>∃s:SV,h'= .row s.v 1 3 ((chL h p x).map zai):: .glob 2 156 y3:: .glob 4 305 y4:: .glob 5 308 y2:: .glob 3 246 q7:: []∧r= .tup [.v s.v,iv (zj6 h p x)]):=by
 refine z6 Tryz.func42 rfl rfl rfl ?_
 refine rn ?_;refine z8 rfl (w8 rfl rfl rfl fun b3=> ?_)
 refine rn ?_;refine qv rfl rfl (y0 rfl rfl (y1.qt (y1.of_fun (yr7 h la p x)) ((pt1 _ _ _).trans (.cons _ ((pt1 _ _ _).trans (.cons _ ((pt1 _ _ _).trans (.cons _ (pt1 _ _ _))))))))) ?_
 refine rn ?_;refine z7 rfl (fun hc18=> ?_) (fun hc18=> ?_)
 ·have he:=yxq (h:=h) (p:=p) (x:=x) (r:=0) (yt6 hc18)
  refine rn ?_;exact zb0 rfl rfl (.trans (.drop [_] _ _) (zat 1 3 _)) ⟨⟨none,0,0⟩,by rw [he.2.2];rfl,rfl⟩
 ·have he:zj6 h p x=0:=yvf hc18
  have hl:ymo h p x=zxa h p x:=by rw [ymo,if_pos he]
  have lt:=ymn la he
  rw [hl]
  refine rn ?_;refine z8 rfl (v2 rfl rfl (y1.of_fun (yvh (zxa h p x) _)) rfl ?_)
  rintro _ _ ⟨b1,rfl,rfl⟩
  refine z8 rfl (v2 rfl rfl (y1.of_fun (yjs 149 [pZ b1] _ (zxa h p x).length lt (chD (zxa h p x)) _ (fun y I x0 hy hs=>yrz (zxa h p x) lt b1 y I x0 hy hs))) rfl ?_)
  rintro _ _ ⟨s,rfl,rfl⟩
  refine rn ?_;exact zb0 rfl rfl (.trans (.perm (pt1 _ _ _) _) (.drop [_] _ _)) ⟨s,by rw [chL,if_pos he,yp3,yfc],by rw [he];rfl⟩
theorem yk5 (h:Hist) (la:Lim 4611686018427387904 h) (p x:Int):y7 Tryz.prog 42 [.agg (y9 h),iv p,iv x] (.glob 2 156 y3:: .glob 4 305 y4:: .glob 5 308 y2:: .glob 3 246 q7:: []) (fun r h'=>h'= .glob 2 156 y3:: .glob 4 305 y4:: .glob 5 308 y2:: .glob 3 246 q7:: []∧r= .tup [zaq (chL h p x),iv (zj6 h p x)]):=
 (yoe h la p x).ventR (by rintro _ _ ⟨s,rfl,rfl⟩;exact ⟨_,_,zbe [] [_],rfl,rfl⟩)
def ev0:Ev:=⟨0,0,0,0,0,⟨0,0⟩,0,[]⟩
def evA (h:Hist) (n:Int):Ev:=if zhn h n h.evs.length=0 then evD h.evs n else ev0
def ykn (h:Hist) (n:Int):List Seen:=if zeh h n=0 then j9 h (evD h.evs n) n.toNat else []
theorem yup {p:Prop} (c d:Prop) [Decidable c] [Decidable d] (x:c→d→p) (y:c→¬d→p) (z:¬c→p):p:=if h:c then (if k:d then x h k else y h k) else z h
theorem yah {h:Hist} {n:Int} (he:zhn h n h.evs.length=0):∃a:Nat,∃ha:a < h.evs.length,n=a∧evA h n=h.evs[a]∧v7 h=0:=by
 obtain ⟨hs,n0,n1⟩:=ypp he
 obtain ⟨a,rfl⟩:=Int.eq_ofNat_of_zero_le n0
 exact ⟨a,by omega,rfl,by rw [evA,if_pos he,ztm (by omega)],za4.2 hs⟩
theorem ys5 {h:Hist} {n:Int} (he:zhn h n h.evs.length≠0):evA h n=ev0:=by rw [evA,if_neg he]
theorem yt1 {h:Hist} {a:Nat} (ha:a < h.evs.length) (hc:v7 h=0) (h4:h.evs[a].kind=4):zeh h a=0∧ykn h a=j9 h h.evs[a] a:=by
 have:=(yw7 hc ha h4).1
 exact ⟨this,by rw [ykn,this,if_pos rfl,ztm ha,Int.toNat_natCast]⟩
theorem ypy {h:Hist} {n:Int} (hc:v7 h=0) (hn:¬(0≤n∧n < h.evs.length∧(evD h.evs n).kind=4)):zeh h n=2∧ykn h n= []:=by
 have:=(yw8 hc hn).1
 exact ⟨this,by rw [ykn,this];rfl⟩
theorem yt0 {h:Hist} {n:Int} (he:zhn h n h.evs.length≠0):zeh h n=zhn h n h.evs.length∧ykn h n= []:=by
 by_cases hc:v7 h=0
 ·have hn:¬(0≤n∧n < (h.evs.length:Int)):=fun q=>he (zwn hc q)
  obtain ⟨a,b⟩:=ypy (h:=h) (n:=n) hc (fun q=>hn ⟨q.1,q.2.1⟩)
  exact ⟨by rw [a,yan hc hn],b⟩
 ·have:=(yw9 (n:=n) hc).1
  exact ⟨by rw [this,ask_c hc],by rw [ykn,this,if_neg hc]⟩
theorem yt8 {h:Hist} {n:Int} (he:zhn h n h.evs.length=0):evA h n=evD h.evs n:=by rw [evA,if_pos he]
theorem yii (h:Hist) (la:Lim 4611686018427387904 h) (n:Int):y7 Tryz.prog 97 [.agg (y9 h),iv n] (.glob 2 156 y3:: .glob 4 305 y4:: .glob 5 308 y2:: .glob 3 246 q7:: []) (fun r h'=>h'= .glob 2 156 y3:: .glob 4 305 y4:: .glob 5 308 y2:: .glob 3 246 q7:: []∧r= .tup [.agg (evR (evA h n)),iv (zhn h n h.evs.length)]):=by
 refine z6 Tryz.func97 rfl rfl rfl ?_
 refine rn ?_;refine z8 rfl (w8 rfl rfl rfl fun b2=> ?_)
 refine z8 rfl (y5 rfl fun b4=> ?_)
 refine rn ?_;refine qv rfl rfl (y0 rfl rfl (y1.qt (y1.of_fun (yd3 h la)) ((pt2 _ _ _ _).trans (.cons _ ((pt2 _ _ _ _).trans (.cons _ ((pt2 _ _ _ _).trans (.cons _ (pt2 _ _ _ _))))))))) ?_
 refine rn ?_;refine z7 rfl (fun hc14=> ?_) (fun hc14=> ?_)
 ·have he:zhn h n h.evs.length=v7 h:=ask_c (yt6 hc14)
  have hn:zhn h n h.evs.length≠0:=by rw [he];exact yt6 hc14
  refine w9 (y6 ?_)
  refine qq rfl rfl (zg2 (fun w O v hr=>Sb.rel (Sb.aggs (bs:=evR ev0) (by exact ⟨.refl _,.refl _,.refl _,.refl _,.refl _,.refl _,.refl _,.refl _,.nil _ _,trivial⟩)) hr) (j7 (out:= [iv 0,iv 0,iv 0,iv 0,iv 0,iv 0,iv 0,iv 0,.v (.slice none 0 0)]) rfl (by rfl))) ?_
  refine rn ?_;exact zej (.cons _ _ _ _ (.agg _ _ _ _ _ _ _ rfl inferInstance inferInstance inferInstance rfl) (.cons _ _ _ _ (.tmp _ _ rfl) .nil)) (.drop [_,_] _ _) ⟨rfl,by rw [ys5 hn,he];rfl⟩
 ·have hc:=yvf hc14
  refine rn ?_;refine qv rfl rfl (y0 rfl rfl (v8 (yr8 n (h.evs.map evR).length) (Sbs.refl _))) ?_
  refine rn ?_;refine z7 rfl (fun hc22=> ?_) (fun hc22=> ?_)
  ·have he:zhn h n h.evs.length=2:=yan hc (by have q:=ywp hc22;rw [oM] at q;exact q)
   have hn:zhn h n h.evs.length≠0:=by rw [he];decide
   refine w9 (y6 ?_)
   refine qq rfl rfl (zg2 (fun w O v hr=>Sb.rel (Sb.aggs (bs:=evR ev0) (by exact ⟨.refl _,.refl _,.refl _,.refl _,.refl _,.refl _,.refl _,.refl _,.nil _ _,trivial⟩)) hr) (j7 (out:= [iv 0,iv 0,iv 0,iv 0,iv 0,iv 0,iv 0,iv 0,.v (.slice none 0 0)]) rfl (by rfl))) ?_
   refine rn ?_;exact zej (.cons _ _ _ _ (.agg _ _ _ _ _ _ _ rfl inferInstance inferInstance inferInstance rfl) (.cons _ _ _ _ (.tmp _ _ rfl) .nil)) (.drop [_,_] _ _) ⟨rfl,by rw [ys5 hn,he];rfl⟩
  ·have q:=ywq hc22
   rw [oM] at q
   have he:=zwn hc q
   obtain ⟨a,ha,rfl,ea,_⟩:=yah he
   have ra:=zae (f:=evR) ha
   refine za8 ?_;refine zag ?_;refine w9 (y6 ?_)
   refine q1 ?_;refine q1 ?_;refine q1 ?_;refine qq rfl rfl (zau rfl rfl q.1 ra) ?_
   refine rn ?_;exact zej (.cons _ _ _ _ (.agg _ _ _ _ _ _ _ rfl inferInstance inferInstance inferInstance rfl) (.cons _ _ _ _ (.tmp _ _ rfl) .nil)) (.drop [_,_] _ _) ⟨rfl,by rw [ea,he];rfl⟩
theorem yob (h:Hist) (la:Lim 4611686018427387904 h) (n:Int):y7 Tryz.prog 41 [.agg (y9 h),iv n] (.glob 2 156 y3:: .glob 4 305 y4:: .glob 5 308 y2:: .glob 3 246 q7:: []) (fun r h'=>∃s:SV,h'= .row s.v 3 70 ((ykn h n).map zaj):: .glob 2 156 y3:: .glob 4 305 y4:: .glob 5 308 y2:: .glob 3 246 q7:: []∧r= .tup [.v s.v,iv (zeh h n)]):=by
 refine z6 Tryz.func41 rfl rfl rfl ?_
 refine rn ?_;refine z8 rfl (w8 rfl rfl rfl fun b2=> ?_)
 refine rn ?_;refine zkx ?_;refine rn ?_;refine qv rfl rfl (y0 rfl rfl (y1.qt (y1.of_fun (yii h la n)) ((pt1 _ _ _).trans (.cons _ ((pt1 _ _ _).trans (.cons _ ((pt1 _ _ _).trans (.cons _ (pt1 _ _ _))))))))) ?_
 refine rn ?_;refine z8 rfl (y5 rfl fun b6=> ?_)
 first|refine z8 rfl (j5 rfl rfl rfl ?_)|refine z8 rfl (zak rfl rfl rfl rfl (Nat.le_of_ble_eq_true rfl) ?_)
 refine q1 ?_;refine u3 (zag ?_)
 refine w9 ?_;refine w9 (y6 ?_)
 refine q1 ?_;refine yup (zhn h n h.evs.length=0) ((evA h n).kind=4) (fun hc h4=>qq rfl rfl (zd5 (c:=true) rfl rfl (congrArg some (by rw [hc];rfl))) ?_) (fun hc h4=>qq rfl rfl (zd5 (c:=true) rfl rfl (congrArg some (by rw [hc];rfl))) ?_) (fun hc=>qq rfl rfl (zd5 (c:=false) rfl rfl (congrArg some (by simpa using hc))) ?_)
 ·refine q1 ?_;refine q1 ?_;refine q1 ?_;refine qq rfl rfl (by first|exact zd5 (c:=false) rfl rfl (congrArg some (by rw [h4];rfl))|exact zd5 (c:=true) rfl rfl (congrArg some (by simpa using h4))) ?_
  refine rn ?_;refine z7 rfl (fun hc29=> ?_) (fun hc29=> ?_)
  ·first|cases hc29|exact absurd hc29 (by decide)|(exfalso;simp_all;done)
  ·refine za8 ?_;refine zag ?_;refine w9 ?_;refine w9 (y6 ?_)
   refine q1 ?_;refine qq rfl rfl (by first|exact zd5 (c:=false) rfl rfl (congrArg some (by rw [hc];rfl))|exact zd5 (c:=true) rfl rfl rfl|exact zd5 (c:=true) rfl rfl (congrArg some (by simpa using hc))) ?_
   refine rn ?_;refine z7 rfl (fun hc31=> ?_) (fun hc31=> ?_)
   ·first|cases hc31|exact absurd hc31 (by decide)|(exfalso;simp_all;done)
   ·refine za8 ?_;refine rn0 ?_;refine w9 ?_;obtain ⟨a,ha,rfl,ea,hk0⟩:=yah hc
    rw [ea] at h4
    rw [ea]
    obtain ⟨hse,hsl⟩:=yt1 ha hk0 h4
    have lA:=zb9 hk0
    have be:=lA.evs
    have bs:=lA.scans h.evs[a] (List.getElem_mem ha)
    refine rn ?_;refine z8 rfl (zaw (enc:=intK) rfl fun rm=> ?_)
    refine rn ?_;refine zbn h.evs.length (fun k=>k≤a) (fun k=>⟨[(37,iv k),(1,iv (a:Int)),(2,pZ b2),(6,pZ b6),(8,mpv rm),(35,zoc h.evs),(36,iv (h.evs.map evR).length)],.map rm (zal intK (zbd ybg (yar (h.evs.take k) h.evs[a].t))):: .box b6 60 (evR h.evs[a]):: .box b2 28 (y9 h):: .glob 2 156 y3:: .glob 4 305 y4:: .glob 5 308 y2:: .glob 3 246 q7:: [],[]⟩) (Nat.zero_le _) es ?_
    intro k lk ka
    refine rn ?_;refine z7 rfl (fun hc38=> ?_) (fun hc38=> ?_)
    ·have hk:=zay hc38
     have rk:=zae (f:=evR) hk
     refine rn ?_;refine z8 rfl (y5 rfl fun b10=> ?_)
     refine rn ?_;refine z7 rfl (fun hc42=> ?_) (fun hc42=> ?_)
     ·obtain rfl:a=k:=by have:=eq_of_beq hc42;omega
      refine rn ?_;refine zbn h.evs[a].scan.length (fun _=>True) (fun j=>⟨[(66,iv j),(2,pZ b2),(8,mpv rm),(64,zei h.evs[a].scan),(65,iv (h.evs[a].scan.map zaj).length)],.map rm (zal intK (zbd ybg (ymz (yar (h.evs.take a) h.evs[a].t) (h.evs[a].scan.take j)))):: .box b6 60 (evR h.evs[a]):: .box b2 28 (y9 h):: .glob 2 156 y3:: .glob 4 305 y4:: .glob 5 308 y2:: .glob 3 246 q7:: [],[]⟩) trivial eA ?_
      intro j lj _
      refine rn ?_;refine z7 rfl (fun hc67=> ?_) (fun hc67=> ?_)
      ·have hj:=zay hc67
       have rj:=zae (f:=zaj) hj
       refine rn ?_;refine z8 rfl (y5 rfl fun b12=> ?_)
       refine rn ?_;refine z8 rfl (zan (g:=ybg) (enc:=intK) (k:=h.evs[a].scan[j].o) (v:=h.evs[a].scan[j].v) rfl rfl rfl ?_)
       refine rn ?_;exact ⟨hj,trivial,by rw [yqm hj];exact eA⟩
      ·have qj:=zaz hc67 lj
       subst qj
       rw [List.take_length]
       refine rn ?_;refine zc7 h.os.length (fun k s=>⟨[(79,iv k),(13,.v s.v),(8,mpv rm),(78,iv (h.os.map zdi).length)],.row s.v 3 70 (((upR k).map fun x:Int=>(⟨x,yf5 h.evs h.evs[a].t a h.evs[a].scan x⟩:Seen)).map zaj):: .map rm (zal intK (zbd ybg (ymz (yar (h.evs.take a) h.evs[a].t) h.evs[a].scan))):: .box b6 60 (evR h.evs[a]):: .box b2 28 (y9 h):: .glob 2 156 y3:: .glob 4 305 y4:: .glob 5 308 y2:: .glob 3 246 q7:: [],[]⟩) ⟨none,0,0⟩ (v6 (zac 3 70) es) ?_
       intro k s lk
       refine rn ?_;refine z7 rfl (fun hc80=> ?_) (fun hc80=> ?_)
       ·have hk:k < h.os.length:=by have q:=oT hc80;rw [oM] at q;omega
        have bo:=lA.os
        have hv:=ynu (l:=h.evs) (t:=h.evs[a].t) (x:=(k:Int)) h.evs[a].scan (Nat.le_of_lt ha)
        refine za8 ?_;refine zag ?_;refine w9 ?_;refine zcn ?_;refine w9 (y6 ?_)
        refine q1 ?_;refine q1 ?_;refine u3 (zag ?_)
        refine w9 (y6 ?_)
        refine q1 ?_;refine qq rfl rfl (j7 (out:= [iv (k:Int),iv 0,iv 0]) rfl (by rfl)) ?_
        refine z8 rfl (y5 rfl fun b15=> ?_)
        first|refine z8 rfl (j5 rfl rfl rfl ?_)|refine z8 rfl (zak rfl rfl rfl rfl (Nat.le_of_ble_eq_true rfl) ?_)
        refine u3 (zag ?_)
        refine w9 ?_;refine w9 (y6 ?_)
        refine q1 ?_;refine q1 ?_;refine qq rfl rfl (zbl (g:=ybg) (enc:=intK) (k:=(k:Int)) (⟨0,0⟩:Ver) rfl rfl) ?_
        rw [hv]
        generalize hV:yf5 h.evs h.evs[a].t a h.evs[a].scan (k:Int)=V
        refine z8 rfl (y5 rfl fun b16=> ?_)
        first|refine z8 rfl (j5 rfl rfl rfl ?_)|refine z8 rfl (zak rfl rfl rfl rfl (Nat.le_of_ble_eq_true rfl) ?_)
        refine u3 (zag ?_)
        refine w9 (y6 ?_)
        refine q1 ?_;refine qq rfl rfl (j7 (out:= [iv 0,iv 0]) rfl (by rfl)) ?_
        refine rn ?_;refine z7 rfl (fun hc89=> ?_) (fun hc89=> ?_)
        ·refine rn ?_;refine qv rfl rfl (q6 rfl rfl) ?_
         refine z8 rfl (u7 rfl rfl (by simp only [oM,upR,List.length_range,List.length_cons,List.length_nil];omega) rfl (fun s95=> ?_) (by first|exact zkf [(⟨(k:Int),V⟩:Seen)]|exact zkf [(⟨(k:Int),⟨0,0⟩⟩:Seen)]))
         refine k8 s95 fun sv hsv=> ?_
         subst hsv
         refine rn ?_;exact ⟨hk,sv,by rw [zow,List.map_append,List.map_append,List.map_singleton,List.map_singleton,hV];exact eA⟩
        ·have hv0:V=⟨0,0⟩:=eq_of_beq (by rw [←zci];simpa using hc89)
         subst hv0
         refine rn ?_;refine qv rfl rfl (q6 rfl rfl) ?_
         refine z8 rfl (u7 rfl rfl (by simp only [oM,upR,List.length_range,List.length_cons,List.length_nil];omega) rfl (fun s95=> ?_) (by first|exact zkf [(⟨(k:Int),V⟩:Seen)]|exact zkf [(⟨(k:Int),⟨0,0⟩⟩:Seen)]))
         refine k8 s95 fun sv hsv=> ?_
         subst hsv
         refine rn ?_;exact ⟨hk,sv,by rw [zow,List.map_append,List.map_append,List.map_singleton,List.map_singleton,hV];exact eA⟩
       ·have qk:k=h.os.length:=by have q:=oF hc80;rw [oM] at q;omega
        subst qk
        refine rn ?_;refine ⟨fun l h=>(by cases h),?_⟩
        exact zb0 rfl rfl (.trans (.perm ((pt1 _ _ _).trans (.cons _ ((pt1 _ _ _).trans (.cons _ (pt1 _ _ _))))) _) (.drop [_,_,_] _ _)) ⟨s,by rw [hsl];rfl,by rw [hse];rfl⟩
     ·have hka:k < a:=by have:=beq_eq_false_iff_ne.1 hc42;omega
      refine rn ?_;refine w7 (fun hg11_5=> ?_) (fun hg11_5=> ?_)
      ·refine rn ?_;refine z7 rfl (fun hc46=> ?_) (fun hc46=> ?_)
       ·have hw:(h.evs[k].t==h.evs[a].t && h.evs[k].kind==2)=true:=by first|(rw [hg11_5];exact hc46)|(rw [Bool.and_eq_true];exact ⟨hg11_5,hc46⟩)
        refine rn ?_;refine z8 rfl (zan (g:=ybg) (enc:=intK) (k:=h.evs[k].o) (v:=h.evs[k].v) rfl rfl rfl ?_)
        refine rn ?_;first|exact ⟨hk,hka,by rw [yc6 hk hw];exact eA⟩|exact ⟨hk,hka,by rw [yc7 hk hw];exact eA⟩
       ·have hw:(h.evs[k].t==h.evs[a].t && h.evs[k].kind==2)=false:=by first|(rw [hg11_5,hc46];rfl)|(rw [hg11_5];rfl)
        refine rn ?_;first|exact ⟨hk,hka,by rw [yc6 hk hw];exact eA⟩|exact ⟨hk,hka,by rw [yc7 hk hw];exact eA⟩
      ·refine rn ?_;refine z7 rfl (fun hc46=> ?_) (fun hc46=> ?_)
       ·first|cases hc46|exact absurd hc46 (by decide)|(exfalso;simp_all;done)
       ·have hw:(h.evs[k].t==h.evs[a].t && h.evs[k].kind==2)=false:=by first|(rw [hg11_5,hc46];rfl)|(rw [hg11_5];rfl)
        refine rn ?_;first|exact ⟨hk,hka,by rw [yc6 hk hw];exact eA⟩|exact ⟨hk,hka,by rw [yc7 hk hw];exact eA⟩
    ·exfalso;have qk:=zaz hc38 lk;omega
 ·refine q1 ?_;refine q1 ?_;refine q1 ?_;refine qq rfl rfl (by first|exact zd5 (c:=false) rfl rfl (congrArg some (by rw [h4];rfl))|exact zd5 (c:=true) rfl rfl (congrArg some (by simpa using h4))) ?_
  refine rn ?_;refine z7 rfl (fun hc29=> ?_) (fun hc29=> ?_)
  ·refine y6 ?_;refine q1 ?_;refine u3 (zag ?_)
   refine w9 ?_;refine w9 (y6 ?_)
   refine q1 ?_;refine qq rfl rfl (by first|exact zd5 (c:=false) rfl rfl (congrArg some (by rw [hc];rfl))|exact zd5 (c:=true) rfl rfl rfl|exact zd5 (c:=true) rfl rfl (congrArg some (by simpa using hc))) ?_
   refine rn ?_;refine z7 rfl (fun hc31=> ?_) (fun hc31=> ?_)
   ·refine rn ?_;refine ⟨fun l h=>(by cases h),?_⟩
    exact zb0 rfl rfl (.trans (.drop [_,_] _ _) (zat 3 70 _)) ⟨⟨none,0,0⟩,by first|(rw [(yt0 hc).2];rfl)|(obtain ⟨a,ha,rfl,ea,hk0⟩:=yah hc;rw [(ypy hk0 (by rw [←yt8 hc];exact fun q=>h4 q.2.2)).2];rfl),by first|(rw [(yt0 hc).1];rfl)|(obtain ⟨a,ha,rfl,ea,hk0⟩:=yah hc;rw [(ypy hk0 (by rw [←yt8 hc];exact fun q=>h4 q.2.2)).1];rfl)⟩
   ·first|cases hc31|exact absurd hc31 (by decide)|(exfalso;simp_all;done)
  ·first|cases hc29|exact absurd hc29 (by decide)|(exfalso;simp_all;done)
 ·refine rn ?_;refine z7 rfl (fun hc29=> ?_) (fun hc29=> ?_)
  ·first|cases hc29|exact absurd hc29 (by decide)|(exfalso;simp_all;done)
  ·refine za8 ?_;refine zag ?_;refine w9 ?_;refine w9 (y6 ?_)
   refine q1 ?_;refine qq rfl rfl (by first|exact zd5 (c:=false) rfl rfl (congrArg some (by rw [hc];rfl))|exact zd5 (c:=true) rfl rfl rfl|exact zd5 (c:=true) rfl rfl (congrArg some (by simpa using hc))) ?_
   refine rn ?_;refine z7 rfl (fun hc31=> ?_) (fun hc31=> ?_)
   ·refine rn ?_;refine ⟨fun l h=>(by cases h),?_⟩
    exact zb0 rfl rfl (.trans (.drop [_,_] _ _) (zat 3 70 _)) ⟨⟨none,0,0⟩,by first|(rw [(yt0 hc).2];rfl)|(obtain ⟨a,ha,rfl,ea,hk0⟩:=yah hc;rw [(ypy hk0 (by rw [←yt8 hc];exact fun q=>h4 q.2.2)).2];rfl),by first|(rw [(yt0 hc).1];rfl)|(obtain ⟨a,ha,rfl,ea,hk0⟩:=yah hc;rw [(ypy hk0 (by rw [←yt8 hc];exact fun q=>h4 q.2.2)).1];rfl)⟩
   ·first|cases hc31|exact absurd hc31 (by decide)|(exfalso;simp_all;done)
theorem yk3 (h:Hist) (la:Lim 4611686018427387904 h) (n:Int):y7 Tryz.prog 41 [.agg (y9 h),iv n] (.glob 2 156 y3:: .glob 4 305 y4:: .glob 5 308 y2:: .glob 3 246 q7:: []) (fun r h'=>h'= .glob 2 156 y3:: .glob 4 305 y4:: .glob 5 308 y2:: .glob 3 246 q7:: []∧r= .tup [zei (ykn h n),iv (zeh h n)]):=
 (yob h la n).ventR (by rintro _ _ ⟨s,rfl,rfl⟩;exact ⟨_,_,zbe [] [_],rfl,rfl⟩)
def zq1 (p:Int×List Int):List AV:= [iv p.1,zaq p.2]
abbrev zjl (l:List (Int×List Int)):AV:= .list false 2 (l.map zq1)
theorem yrs (l:List (Int×List Int)):∀r∈l.map zq1,r.all AV.one=true:=by
 intro r hr;obtain ⟨a,_,rfl⟩:=List.mem_map.1 hr;rfl
theorem zyq {h:Hist} (hc:v7 h=0) (p x:Int):(chL h p x).length≤4000:=by
 rw [chL];split
 ·rename_i he
  have h1:=(ybm.1 he).2.1
  rw [yp3]
  refine Nat.le_trans (zym _ _) ?_
  have:=zl3 hc h1.1 h1.2
  rw [znh];omega
 ·exact Nat.zero_le _
theorem zro {α:Type} (p:α→Bool):∀(l:List α) (i:Nat), -1≤zbq p i l∧zbq p i l < (i+l.length:Nat)+1
 | [],i=>by simp only [zbq,List.length_nil];omega
 |a::r,i=>by
  have:=zro p r (i+1)
  simp only [zbq,List.length_cons]
  split <;> omega
theorem yqw {h:Hist} (hc:v7 h=0) {x:Int} (h0:0≤x) (h1:x < h.os.length) {v:Ver} {r:Int} (hr:zir h x v=some r):0≤r∧r≤4000:=by
 have hb:=zl3 hc h0 h1
 rw [zir,zno (za4.1 hc) v h0 h1 _ (Nat.le_refl _) h1] at hr
 split at hr
 ·injection hr with hr;omega
 ·split at hr
  ·injection hr with hr
   have:zmd h x v < ((0+(zax h x).length:Nat):Int)+1:=by rw [zmd];exact (zro _ _ _).2
   omega
  ·cases hr
theorem zzt {h:Hist} {e:Ev} (hn:(!(zir h e.o e.v).isSome)=true):zg0 h e= []:=by
 rw [zg0];cases hq:zir h e.o e.v with
 |none=>rfl
 |some r=>rw [hq] at hn;cases hn
theorem zzs {h:Hist} {e:Ev} {r:Int} (hr:zir h e.o e.v=some r):zg0 h e= [(e.o,[r+1])]:=by rw [zg0,hr]
theorem zyg {α:Type} (p:α→Bool):∀(l:List α) (i:Nat),zbq p i l= -1∨(i:Int)≤zbq p i l
 | [],i=>by simp [zbq]
 |a::r,i=>by
  have:=zyg p r (i+1)
  simp only [zbq]
  split
  ·right;omega
  ·omega
theorem yjn {l:List Int} {q:Int→Bool} {i n:Nat} (h:zbq q i l=((i+n:Nat):Int)):l.dropWhile (fun k=> !q k)=l.drop n:=by
 induction l generalizing i n with
 |nil=>simp [zbq] at h;omega
 |cons a r ih=>
  rw [zbq] at h
  by_cases hq:q a=true
  ·rw [if_pos hq] at h
   have:n=0:=by omega
   subst this
   simp [hq]
  ·rw [if_neg hq] at h
   have hf:q a=false:=by simpa using hq
   obtain ⟨m,rfl⟩:∃m,n=m+1:=⟨n - 1,by
    have:=zyg q r (i+1);omega⟩
   rw [List.dropWhile_cons,hf]
   simp only [Bool.not_false,if_true,List.drop_succ_cons]
   exact ih (i:=i+1) (n:=m) (by rw [h];congr 1;omega)
theorem yw6 {h:Hist} {e:Ev} {s:Seen} {r:Int} {n:Nat} (hr:zir h s.o s.v=some r) (hn:zbq (fun k=>decide (k > r)) 0 (chL h e.p s.o)=(n:Int)):zfk h e s=some (s.o,rwOver h e.p s.o r)∧rwOver h e.p s.o r=(chL h e.p s.o).drop n:=by
 have ha:(chL h e.p s.o).any (fun k=>decide (k > r))=true:=by rw [←zeq _ _ 0,hn];exact decide_eq_true (by omega)
 exact ⟨by rw [zfk,hr];simp only;rw [if_pos ha],by rw [rwOver];exact yjn (i:=0) (by rw [hn];congr 1;omega)⟩
theorem ywl {h:Hist} {e:Ev} {s:Seen} (hn:(zir h s.o s.v).isSome=false∨decide (zbq (fun k=>decide (k > (zir h s.o s.v).getD 0)) 0 (chL h e.p s.o) ≥ 0)=false):zfk h e s=none:=by
 rw [zfk]
 cases hr:zir h s.o s.v with
 |none=>rfl
 |some r=>
  rw [hr] at hn
  rcases hn with q|q
  ·cases q
  ·rw [Option.getD_some,zeq] at q
   simp only
   rw [if_neg (by rw [q];decide)]
theorem ysu {α β:Type} (f:α→Option β) (l:List α) (k:Nat):((l.take k).filterMap f).length≤k:=Nat.le_trans (List.length_filterMap_le _ _) (List.length_take_le _ _)
theorem ygd {α β:Type} {f:α→Option β} {l:List α} {k:Nat} {b:β} (hk:k < l.length) (h:f l[k]=some b):(l.take (k+1)).filterMap f=(l.take k).filterMap f++ [b]:=by
 rw [List.take_succ_eq_append_getElem hk,List.filterMap_append];simp [h]
theorem yge {α β:Type} {f:α→Option β} {l:List α} {k:Nat} (hk:k < l.length) (h:f l[k]=none):(l.take (k+1)).filterMap f=(l.take k).filterMap f:=by
 rw [List.take_succ_eq_append_getElem hk,List.filterMap_append];simp [h]
theorem yuv (h:Hist) (la:Lim 4611686018427387904 h) (hc:v7 h=0) (p x:Int) (rc rl rk rg:Nat) (M:List ((Int×Int)×List Int)) (hM:zf6 h M) (W:List Res):y7 Tryz.prog 305 [.agg (rwP h rc rl rk rg),iv p,iv x] (rgR rg M::rkS h rk::zcg h rl::rcR h rc:: .glob 2 156 y3:: .glob 4 305 y4:: .glob 5 308 y2:: .glob 3 246 q7::W) (fun r h'=>∃M',zf6 h M'∧h'=rgR rg M'::rkS h rk::zcg h rl::rcR h rc:: .glob 2 156 y3:: .glob 4 305 y4:: .glob 5 308 y2:: .glob 3 246 q7::W∧r=zaq (chL h p x)):=by
 refine z6 Tryz.func305 rfl rfl rfl ?_
 refine rn ?_;refine z8 rfl (w8 rfl rfl rfl fun b3=> ?_)
 refine q1 ?_;refine u3 (zag ?_)
 refine w9 (y6 ?_)
 refine q1 ?_;refine q1 ?_;refine qq rfl rfl (zbt (out:= [iv p,iv x]) rfl (by rfl)) ?_
 refine z8 rfl (y5 rfl fun b7=> ?_)
 first|refine z8 rfl (j5 rfl rfl rfl ?_)|refine z8 rfl (zak rfl rfl rfl rfl (Nat.le_of_ble_eq_true rfl) ?_)
 refine u3 (zag ?_)
 refine w9 ?_;refine w9 (y6 ?_)
 refine q1 ?_;refine q1 ?_;refine q1 ?_;refine qq rfl rfl (zfm (g:=zaq) (enc:=za1) (k:=(p,x)) ([]:List Int) rfl rfl rfl) ?_
 refine rn ?_;refine z7 rfl (fun hc21=> ?_) (fun hc21=> ?_)
 ·refine zf4 12 [11] [] (fun he=>∃M,he= .box b7 45 [iv p,iv x]:: .box b3 119 (rwP h rc rl rk rg)::rgR rg M::rkS h rk::zcg h rl::rcR h rc:: .glob 2 156 y3:: .glob 4 305 y4:: .glob 5 308 y2:: .glob 3 246 q7::W) rfl rfl ⟨_,rfl⟩ ?_
  refine jq rfl (fun he hC=>by obtain ⟨M,rfl⟩:=hC <;> exact qrA) ?_
  refine jq rfl (fun he hC=>by obtain ⟨M,rfl⟩:=hC <;> exact qrA) ?_
  refine jq rfl (fun he hC=>by obtain ⟨M,rfl⟩:=hC <;> exact qrA) ?_
  refine jq rfl (fun he hC=>by obtain ⟨M,rfl⟩:=hC <;> exact qrA) ?_
  refine jq rfl (fun he hC=>by obtain ⟨M,rfl⟩:=hC <;> exact qrA) ?_
  refine jq rfl (fun he hC=>by obtain ⟨M,rfl⟩:=hC <;> exact qrA) ?_
  refine jq rfl (fun he hC=>by obtain ⟨M,rfl⟩:=hC <;> exact qrA) ?_
  refine jv rfl (fun he hC=>by obtain ⟨M,rfl⟩:=hC <;> exact (by exact y0 rfl rfl (y1.qt (y1.of_fun (yk5 h la p x)) ((pt6 _ _ _ _ _ _ _ _).trans (.cons _ ((pt6 _ _ _ _ _ _ _ _).trans (.cons _ ((pt6 _ _ _ _ _ _ _ _).trans (.cons _ (pt6 _ _ _ _ _ _ _ _)))))))))) ?_
  refine jq rfl (fun he hC=>by obtain ⟨M,rfl⟩:=hC <;> exact qrA) ?_
  refine jq rfl (fun he hC=>by obtain ⟨M,rfl⟩:=hC <;> exact qrA) ?_
  refine jq rfl (fun he hC=>by obtain ⟨M,rfl⟩:=hC <;> exact qrA) ?_
  refine je rfl ?_;refine yix ?_;refine jce rfl fun u=> ?_
  refine zan (g:=zaq) (enc:=za1) (k:=(p,x)) (v:=chL h p x) rfl rfl rfl ⟨.any,_,rfl,⟨_,rfl⟩,?_⟩
  refine jcn ?_;refine ln ?_;refine u3 (zag ?_)
  refine w9 (y6 ?_)
  refine q1 ?_;refine q1 ?_;refine q1 ?_;refine qq rfl rfl (zbl (g:=zaq) (enc:=za1) (k:=(p,x)) ([]:List Int) rfl rfl) ?_
  refine rn ?_;first|exact j6 rfl (.drop [_,_] _ _) ⟨_,zm4 hM p x,rfl,congrArg zaq (zyp p x)⟩|exact j6 rfl (.drop [_,_] _ _) ⟨_,hM,rfl,congrArg zaq (zm6 hM hc21)⟩
 ·refine za8 ?_;refine zag ?_;refine w9 (y6 ?_)
  refine q1 ?_;refine q1 ?_;refine q1 ?_;refine qq rfl rfl (zbl (g:=zaq) (enc:=za1) (k:=(p,x)) ([]:List Int) rfl rfl) ?_
  refine rn ?_;first|exact j6 rfl (.drop [_,_] _ _) ⟨_,zm4 hM p x,rfl,congrArg zaq (zyp p x)⟩|exact j6 rfl (.drop [_,_] _ _) ⟨_,hM,rfl,congrArg zaq (zm6 hM hc21)⟩
theorem yb7 (h:Hist) (rc rl rk rg:Nat) (n:Int) (W:List Res):y7 Tryz.prog 302 [.agg (rwP h rc rl rk rg),iv n] W (fun r h'=>h'=W∧r=zjl []):=by
 refine z6 Tryz.func302 rfl rfl rfl ?_
 refine rn ?_;refine z8 rfl (w8 rfl rfl rfl fun b2=> ?_)
 refine rn ?_;exact j6 rfl (.trans (.drop [_] _ _) (.le (Sb.nil false 2).le)) ⟨rfl,rfl⟩
theorem yqr (h:Hist) (la:Lim 4611686018427387904 h) (hc:v7 h=0) (a:Nat) (ha:a < h.evs.length) (h3:h.evs[a].kind=3) (rc rl rk rg:Nat) (M:List ((Int×Int)×List Int)) (W:List Res):y7 Tryz.prog 303 [.agg (rwP h rc rl rk rg),iv (a:Int)] (rgR rg M::rkS h rk::zcg h rl::rcR h rc:: .glob 2 156 y3:: .glob 4 305 y4:: .glob 5 308 y2:: .glob 3 246 q7::W) (fun r h'=>h'=rgR rg M::rkS h rk::zcg h rl::rcR h rc:: .glob 2 156 y3:: .glob 4 305 y4:: .glob 5 308 y2:: .glob 3 246 q7::W∧r=zjl (zg0 h h.evs[a])):=by
 refine z6 Tryz.func303 rfl rfl rfl ?_
 have ra:=zae (f:=evR) ha
 refine rn ?_;refine z8 rfl (w8 rfl rfl rfl fun b2=> ?_)
 refine q1 ?_;refine u3 (zag ?_)
 refine w9 (y6 ?_)
 refine q1 ?_;refine q1 ?_;refine q1 ?_;refine q1 ?_;refine qq rfl rfl (zc9 rfl rfl ra) ?_
 refine rn ?_;refine z8 rfl (y5 rfl fun b5=> ?_)
 first|refine z8 rfl (j5 rfl rfl rfl ?_)|refine z8 rfl (zak rfl rfl rfl rfl (Nat.le_of_ble_eq_true rfl) ?_)
 refine u3 (zag ?_)
 refine w9 (y6 ?_)
 refine q1 ?_;refine q1 ?_;refine q1 ?_;refine q1 ?_;refine q1 ?_;refine q1 ?_;refine qq rfl rfl (j7 (out:= [iv h.evs[a].o,iv h.evs[a].v.t,iv h.evs[a].v.k]) rfl (by rfl)) ?_
 refine qq rfl rfl (zfm (g:=iv) (enc:=zdt) (k:=(h.evs[a].o,h.evs[a].v.t,h.evs[a].v.k)) (0:Int) rfl rfl rfl) ?_
 refine rn ?_;refine z7 rfl (fun hc26=> ?_) (fun hc26=> ?_)
 ·have hn:(!(zir h h.evs[a].o h.evs[a].v).isSome)=true:=hc26
  refine rn ?_;exact j6 rfl (.trans (.drop [_,_] _ _) (.le (Sb.nil false 2).le)) ⟨rfl,by rw [zzt hn];rfl⟩
 ·obtain ⟨r0,hr⟩:∃r,(za6 (h.evs[a].o,h.evs[a].v.t,h.evs[a].v.k) (rkM h h.os.length))=some r:=Option.isSome_iff_exists.1 (by simpa using hc26)
  have hr':zir h h.evs[a].o h.evs[a].v=some r0:=hr
  have hb:=yqw hc (zpq (ze6 (za4.1 hc) _ (List.getElem_mem ha)) h3).1.1 (zpq (ze6 (za4.1 hc) _ (List.getElem_mem ha)) h3).1.2 hr'
  rw [hr,Option.getD_some]
  refine rn ?_;refine qv rfl rfl (q6 rfl rfl) ?_
  refine qq rfl rfl (j7 (out:= [iv h.evs[a].o,.list true 1 [[iv (r0+1)]]]) rfl (by rfl)) ?_
  refine qv rfl rfl (q6 rfl rfl) ?_
  refine rn ?_;exact j6 rfl (.trans (.drop [_,_] _ _) (.le (Sb.lists (rows:= [[iv h.evs[a].o,.list true 1 [[iv (r0+1)]]]]) (rows':= [[iv h.evs[a].o,.list false 1 [[iv (r0+1)]]]]) (by simp) ⟨⟨.refl _,.unfull,trivial⟩,trivial⟩).le)) ⟨rfl,by rw [zzs hr'];rfl⟩
theorem ym2 (k r0:Int) (b:Nat) (W:List Res):y7 Tryz.prog 306 [iv k,pZ b] (.box b 3 [iv r0]::W) (fun r h'=>h'= .box b 3 [iv r0]::W∧r=bv (decide (k > r0))):=by
 refine z6 Tryz.func306 rfl rfl rfl ?_
 refine rn ?_;refine rq 0 ?_
 exact ⟨rfl,rfl⟩
theorem yqq (h:Hist) (la:Lim 4611686018427387904 h) (hc:v7 h=0) (a:Nat) (ha:a < h.evs.length) (h4:h.evs[a].kind=4) (rc rl rk rg:Nat) (M:List ((Int×Int)×List Int)) (hM:zf6 h M) (W:List Res):y7 Tryz.prog 304 [.agg (rwP h rc rl rk rg),iv (a:Int)] (rgR rg M::rkS h rk::zcg h rl::rcR h rc:: .glob 2 156 y3:: .glob 4 305 y4:: .glob 5 308 y2:: .glob 3 246 q7::W) (fun r h'=>∃M',zf6 h M'∧h'=rgR rg M'::rkS h rk::zcg h rl::rcR h rc:: .glob 2 156 y3:: .glob 4 305 y4:: .glob 5 308 y2:: .glob 3 246 q7::W∧r=zjl (zq0 h h.evs[a] a)):=by
 refine z6 Tryz.func304 rfl rfl rfl ?_
 have ra:=zae (f:=evR) ha
 have hse:=yt1 ha hc h4
 have lA:=zb9 hc
 have lO:=lA.os
 have lS:(j9 h h.evs[a] a).length=h.os.length:=zjk h h.evs[a] a
 refine rn ?_;refine z8 rfl (w8 rfl rfl rfl fun b2=> ?_)
 refine rn ?_;refine qv rfl rfl (y0 rfl rfl (y1.qt (y1.of_fun (yk3 h la (a:Int))) ((pt5 _ _ _ _ _ _ _).trans (.cons _ ((pt5 _ _ _ _ _ _ _).trans (.cons _ ((pt5 _ _ _ _ _ _ _).trans (.cons _ (pt5 _ _ _ _ _ _ _))))))))) ?_
 rw [hse.1,hse.2]
 refine rn ?_;refine zhh (j9 h h.evs[a] a).length (fun j (z:SV×List ((Int×Int)×List Int))=>zf6 h z.2) (fun j z=>⟨[(23,iv j),(5,.v z.1.v),(1,iv (a:Int)),(2,pZ b2),(21,zei (j9 h h.evs[a] a)),(22,iv ((j9 h h.evs[a] a).map zaj).length)],.row z.1.v 2 177 ((((j9 h h.evs[a] a).take j).filterMap (zfk h h.evs[a])).map zq1):: .box b2 119 (rwP h rc rl rk rg)::rgR rg z.2::rkS h rk::zcg h rl::rcR h rc:: .glob 2 156 y3:: .glob 4 305 y4:: .glob 5 308 y2:: .glob 3 246 q7::W,[]⟩) (⟨none,0,0⟩,M) hM (v6 (zac 2 177) es) ?_
 intro j z lj hz
 refine rn ?_;refine z7 rfl (fun hc24=> ?_) (fun hc24=> ?_)
 ·have hj:=zay hc24
  have rj:=zae (f:=zaj) hj
  have bl:=ysu (zfk h h.evs[a]) (j9 h h.evs[a] a) j
  have bc:=zyq hc h.evs[a].p (j9 h h.evs[a] a)[j].o
  refine rn ?_;refine z8 rfl (y5 rfl fun b9=> ?_)
  first|refine z8 rfl (j5 rfl rfl rfl ?_)|refine z8 rfl (zak rfl rfl rfl rfl (Nat.le_of_ble_eq_true rfl) ?_)
  refine u3 (zag ?_)
  refine w9 (y6 ?_)
  refine q1 ?_;refine q1 ?_;refine q1 ?_;refine q1 ?_;refine q1 ?_;refine q1 ?_;refine qq rfl rfl (j7 (out:= [iv (j9 h h.evs[a] a)[j].o,iv (j9 h h.evs[a] a)[j].v.t,iv (j9 h h.evs[a] a)[j].v.k]) rfl (by rfl)) ?_
  refine qq rfl rfl (zfm (g:=iv) (enc:=zdt) (k:=((j9 h h.evs[a] a)[j].o,(j9 h h.evs[a] a)[j].v.t,(j9 h h.evs[a] a)[j].v.k)) (0:Int) rfl rfl rfl) ?_
  refine rn ?_;refine z8 rfl (y5 rfl fun b10=> ?_)
  refine rn ?_;refine u4 10 rfl ?_
  refine dq rfl rfl qrA ?_;refine dq rfl rfl qrA ?_;refine dq rfl rfl qrA ?_;refine dq rfl rfl qrA ?_;refine dq rfl rfl qrA ?_;refine dq rfl rfl (zc9 rfl rfl ra) ?_
  refine rn ?_;refine z8 rfl (v2 rfl rfl (y1.fr4 (y1.of_fun (yuv h la hc h.evs[a].p (j9 h h.evs[a] a)[j].o rc rl rk rg z.2 hz W))) rfl ?_)
  rintro _ _ ⟨_,rfl,M2,hM2,rfl,rfl⟩
  refine rn ?_;refine qv rfl rfl (y0 rfl rfl (y1.of_fun (zl7 (chL h h.evs[a].p (j9 h h.evs[a] a)[j].o) _ (fun k=>decide (k > ((za6 ((j9 h h.evs[a] a)[j].o,(j9 h h.evs[a] a)[j].v.t,(j9 h h.evs[a] a)[j].v.k) (rkM h h.os.length)).getD 0))) (.box b10 3 [iv ((za6 ((j9 h h.evs[a] a)[j].o,(j9 h h.evs[a] a)[j].v.t,(j9 h h.evs[a] a)[j].v.k) (rkM h h.os.length)).getD 0)]:: .box b9 70 (zaj (j9 h h.evs[a] a)[j]):: .row z.1.v 2 177 ((((j9 h h.evs[a] a).take j).filterMap (zfk h h.evs[a])).map zq1):: .box b2 119 (rwP h rc rl rk rg)::rgR rg M2::rkS h rk::zcg h rl::rcR h rc:: .glob 2 156 y3:: .glob 4 305 y4:: .glob 5 308 y2:: .glob 3 246 q7::W) (fun k _=>y1.of_acall (fs:= []) (cs:= [pZ b10]) (ym2 k ((za6 ((j9 h h.evs[a] a)[j].o,(j9 h h.evs[a] a)[j].v.t,(j9 h h.evs[a] a)[j].v.k) (rkM h h.os.length)).getD 0) b10 _)) (by omega)))) ?_
  refine rn ?_;refine w7 (fun hg9_1=> ?_) (fun hg9_1=> ?_)
  ·refine rn ?_;refine z7 rfl (fun hc56=> ?_) (fun hc56=> ?_)
   ·have q9:decide ((zbq (fun k=>decide (k > ((za6 ((j9 h h.evs[a] a)[j].o,(j9 h h.evs[a] a)[j].v.t,(j9 h h.evs[a] a)[j].v.k) (rkM h h.os.length)).getD 0))) 0 (chL h h.evs[a].p (j9 h h.evs[a] a)[j].o)) ≥ 0)=true:=by first|exact hc56|(have q:=hc56;rw [hg9_1] at q;simpa using q)
    have q8:=oT q9
    obtain ⟨n,hn⟩:∃n:Nat,(zbq (fun k=>decide (k > ((za6 ((j9 h h.evs[a] a)[j].o,(j9 h h.evs[a] a)[j].v.t,(j9 h h.evs[a] a)[j].v.k) (rkM h h.os.length)).getD 0))) 0 (chL h h.evs[a].p (j9 h h.evs[a] a)[j].o))=n:=⟨(zbq (fun k=>decide (k > ((za6 ((j9 h h.evs[a] a)[j].o,(j9 h h.evs[a] a)[j].v.t,(j9 h h.evs[a] a)[j].v.k) (rkM h h.os.length)).getD 0))) 0 (chL h h.evs[a].p (j9 h h.evs[a] a)[j].o)).toNat,by omega⟩
    obtain ⟨r0,hr⟩:∃r,zir h (j9 h h.evs[a] a)[j].o (j9 h h.evs[a] a)[j].v=some r:=Option.isSome_iff_exists.1 hg9_1
    obtain ⟨hsr,hov⟩:=yw6 (e:=h.evs[a]) (n:=n) hr (by rw [←hn];show _=zbq (fun k=>decide (k > (zir h (j9 h h.evs[a] a)[j].o (j9 h h.evs[a] a)[j].v).getD 0)) 0 _;rw [hr];rfl)
    rw [hn]
    have hnl:n≤(chL h h.evs[a].p (j9 h h.evs[a] a)[j].o).length:=by have:=(zro (fun k=>decide (k > ((za6 ((j9 h h.evs[a] a)[j].o,(j9 h h.evs[a] a)[j].v.t,(j9 h h.evs[a] a)[j].v.k) (rkM h h.os.length)).getD 0))) (chL h h.evs[a].p (j9 h h.evs[a] a)[j].o) 0).2;omega
    refine u4 8 rfl ?_
    refine dq rfl rfl qrA ?_;refine dq rfl rfl qrA ?_;refine dq rfl rfl qrA ?_;refine dq rfl rfl qrA ?_;refine dq rfl rfl qrA ?_;refine dq rfl rfl (zsz (zpr (l:=n) rfl rfl (by rw [oM];exact hnl)) (show AV.list false 1 _=zaq (rwOver h h.evs[a].p (j9 h h.evs[a] a)[j].o r0) by rw [←List.map_drop,←hov];rfl)) ?_
    refine dq rfl rfl (j7 (out:=zq1 ((j9 h h.evs[a] a)[j].o,rwOver h h.evs[a].p (j9 h h.evs[a] a)[j].o r0)) rfl (by rfl)) ?_
    refine dv rfl rfl (q6 rfl rfl) ?_
    refine rn ?_;refine z8 rfl (u7 rfl rfl (by simp only [oM,List.length_cons,List.length_nil];omega) rfl (fun s65=> ?_) (yrs [((j9 h h.evs[a] a)[j].o,rwOver h h.evs[a].p (j9 h h.evs[a] a)[j].o r0)]))
    refine k8 s65 fun sv hsv=> ?_
    subst hsv
    refine rn ?_;first|exact ⟨hj,(sv,M2),hM2,by rw [ygd hj hsr,List.map_append];exact eA⟩|exact ⟨hj,(z.1,M2),hM2,by rw [yge hj hsr];exact eA⟩
   ·have hsr:zfk h h.evs[a] (j9 h h.evs[a] a)[j]=none:=ywl (by first|exact .inr hc56|exact .inl hg9_1)
    refine rn ?_;first|exact ⟨hj,(sv,M2),hM2,by rw [ygd hj hsr,List.map_append];exact eA⟩|exact ⟨hj,(z.1,M2),hM2,by rw [yge hj hsr];exact eA⟩
  ·refine rn ?_;refine zdo rfl ?_;have hsr:zfk h h.evs[a] (j9 h h.evs[a] a)[j]=none:=ywl (by first|exact .inr hc56|exact .inl hg9_1)
   refine rn ?_;first|exact ⟨hj,(sv,M2),hM2,by rw [ygd hj hsr,List.map_append];exact eA⟩|exact ⟨hj,(z.1,M2),hM2,by rw [yge hj hsr];exact eA⟩
 ·have qj:=zaz hc24 lj
  refine rn ?_;exact j6 rfl (.trans zbr (.drop [_] _ _)) ⟨_,hz,rfl,by rw [qj,List.take_length];rfl⟩
def zkp (h:Hist) (x:Int) (l:List Int) (m:List ((Int×Int)×Int)):List ((Int×Int)×Int):=l.foldl (fun m t=>zdy (t,x) (zc5 h t x) m) m
theorem yjh {h:Hist} {x:Int} {l:List Int} {k:Nat} {m:List ((Int×Int)×Int)} (hk:k < l.length):zkp h x (l.take (k+1)) m=zdy (l[k],x) (zc5 h l[k] x) (zkp h x (l.take k) m):=by
 rw [zkp,List.take_succ_eq_append_getElem hk,List.foldl_append];rfl
def ygf (h:Hist):Nat→List ((Int×Int)×Int)
 |0=> []
 |n+1=>zkp h n (zax h n) (ygf h n)
theorem ysw (h:Hist) (n:Nat):ygf h (n+1)=zkp h n ((zax h n).take (zax h n).length) (ygf h n):=by rw [List.take_length];rfl
theorem zp4 {h:Hist} {x:Int}:∀(l:List Int) (m:List ((Int×Int)×Int)),(∀p v,za6 p m=some v→v=zc5 h p.1 p.2)→∀p v,za6 p (zkp h x l m)=some v→v=zc5 h p.1 p.2
 | [],_,hm=>hm
 |t::l,m,hm=>zp4 l (zdy (t,x) (zc5 h t x) m) fun p v e=>by
  rw [zce] at e
  split at e
  ·rename_i q;injection e with e;rw [←e,←q]
  ·exact hm p v e
theorem zyf (h:Hist):∀n p v,za6 p (ygf h n)=some v→v=zc5 h p.1 p.2
 |0,p,v,e=>by cases e
 |n+1,p,v,e=>zp4 _ _ (zyf h n) p v e
theorem zjs {h:Hist} {x:Int} {p:Int×Int}:∀(l:List Int) (m:List ((Int×Int)×Int)),(za6 p m).isSome=true→(za6 p (zkp h x l m)).isSome=true
 | [],_,hm=>hm
 |t::l,m,hm=>zjs l _ (by
  rw [zce]
  by_cases q:(t,x)=p
  ·rw [if_pos q];rfl
  ·rw [if_neg q];exact hm)
theorem zp5 {h:Hist} {x t:Int}:∀(l:List Int) (m:List ((Int×Int)×Int)),t∈l→(za6 (t,x) (zkp h x l m)).isSome=true
 | [],_,hm=>by cases hm
 |a::l,m,hm=>by
  rcases List.mem_cons.1 hm with rfl|hm
  ·exact zjs l _ (by rw [zce,if_pos rfl];rfl)
  ·exact zp5 l _ hm
theorem zti {h:Hist} {x:Nat} {t:Int} (ht:t∈zax h x):∀n,x < n→(za6 (t,(x:Int)) (ygf h n)).isSome=true
 |n+1,hx=>by
  by_cases e:x=n
  ·subst e;exact zp5 _ _ ht
  ·exact zjs _ _ (zti ht n (by omega))
theorem yo9 {h:Hist} {x t:Int} (h0:0≤x) (h1:x < h.os.length) (ht:t∈zax h x):(za6 (t,x) (ygf h h.os.length)).getD 0=zc5 h t x:=by
 obtain ⟨n,rfl⟩:∃n:Nat,x=(n:Int):=⟨x.toNat,by omega⟩
 have:=zti ht h.os.length (by omega)
 cases hq:za6 (t,(n:Int)) (ygf h h.os.length) with
 |none=>rw [hq] at this;cases this
 |some v=>exact zyf h _ _ _ hq
abbrev zd0 (h:Hist) (rf:Nat):Res:= .map rf (zal za1 (zbd iv (ygf h h.os.length)))
abbrev wrP (h:Hist) (rd rf rk rg:Nat):List AV:=y9 h++ [mpv rd,yld h,mpv rf,mpv rk,mpv rg]
instance:Chk3 Tryz.prog 70:=⟨fun e w a b c=>by kernel_rfl⟩
theorem yiz (h:Hist) (la:Lim 4611686018427387904 h) (hc:v7 h=0) (t x:Int):y7 Tryz.prog 121 [.agg (y9 h),iv t,iv x] (.glob 2 156 y3:: .glob 4 305 y4:: .glob 5 308 y2:: .glob 3 246 q7:: []) (fun r h'=>h'= .glob 2 156 y3:: .glob 4 305 y4:: .glob 5 308 y2:: .glob 3 246 q7:: []∧r= .tup [.agg (zy8 (zhr h x t)),iv (zc5 h t x),bv (zjc h.evs t x).isSome]):=(yoq h la t x).mono fun _ _ q=>⟨q.1,by rw [q.2,yp2,if_pos hc];rfl⟩
theorem yud (h:Hist) (la:Lim 4611686018427387904 h):y7 Tryz.prog 111 [.agg (y9 h)] (.glob 2 156 y3:: .glob 4 305 y4:: .glob 5 308 y2:: .glob 3 246 q7:: []) (fun r h'=>(v7 h=0∧∃bl rd rf rk rg,h'= .box bl 202 (wrP h rd rf rk rg)::rgR rg []::rkS h rk::zd0 h rf::rcR h rd:: .glob 2 156 y3:: .glob 4 305 y4:: .glob 5 308 y2:: .glob 3 246 q7:: []∧r= .tup [pZ bl,iv 0])∨(v7 h≠0∧h'= .glob 2 156 y3:: .glob 4 305 y4:: .glob 5 308 y2:: .glob 3 246 q7:: []∧r= .tup [.v (.pointer none),iv (v7 h)])):=by
 refine z6 Tryz.func111 rfl rfl rfl ?_
 refine rn ?_;refine z8 rfl (w8 rfl rfl rfl fun b1=> ?_)
 refine rn ?_;refine qv rfl rfl (y0 rfl rfl (y1.qt (y1.of_fun (yd3 h la)) ((pt1 _ _ _).trans (.cons _ ((pt1 _ _ _).trans (.cons _ ((pt1 _ _ _).trans (.cons _ (pt1 _ _ _))))))))) ?_
 refine rn ?_;refine z7 rfl (fun hc23=> ?_) (fun hc23=> ?_)
 ·have hc:=nzT hc23
  refine rn ?_;exact zb0 rfl rfl (.drop [_] _ _) (.inr ⟨hc,rfl,rfl⟩)
 ·have hc:=nzF hc23
  have hts:onE (v7 h) (zdb h.evs)=(zdb h.evs):=by rw [hc,onE,if_pos rfl]
  rw [hts]
  have hs:=za4.1 hc
  have lA:=zb9 hc
  have lO:=lA.os
  have lE:=lA.evs
  have bC:=Nat.le_trans (zwf h.evs) lA.evs
  refine rn ?_;refine z8 rfl (zaw (enc:=intK) rfl fun b26=> ?_)
  refine z8 rfl (zaw (enc:=za1) rfl fun b27=> ?_)
  refine z8 rfl (zaw (enc:=zdt) rfl fun b28=> ?_)
  refine z8 rfl (zaw (enc:=za1) rfl fun b29=> ?_)
  refine qq rfl rfl (j7 (out:=y9 h++ [mpv b26,.v (.slice none 0 0),mpv b27,mpv b28,mpv b29]) rfl (by rfl)) ?_
  refine z8 rfl (w8 rfl rfl rfl fun b31=> ?_)
  refine rn ?_;refine zbn (zdb h.evs).length (fun _=>True) (fun k=>⟨[(34,iv k),(1,pZ b1),(6,pZ b31),(32,zaq (zdb h.evs)),(33,iv ((zdb h.evs).map zai).length)],.box b31 202 (y9 h++ [mpv b26,.v (.slice none 0 0),mpv b27,mpv b28,mpv b29]):: .map b29 (zal za1 (zbd zaq [])):: .map b28 (zal zdt (zbd iv [])):: .map b27 (zal za1 (zbd iv [])):: .map b26 (zal intK (zbd bv (dnM ((zdb h.evs).take k)))):: .box b1 28 (y9 h):: .glob 2 156 y3:: .glob 4 305 y4:: .glob 5 308 y2:: .glob 3 246 q7:: [],[]⟩) trivial es ?_
  intro k lk _
  refine rn ?_;refine z7 rfl (fun hc35=> ?_) (fun hc35=> ?_)
  ·have hk:=zay hc35
   have rk:=zae (f:=zai) hk
   refine rn ?_;refine z8 rfl (zan (g:=bv) (enc:=intK) (k:=(zdb h.evs)[k]) (v:=true) rfl rfl rfl ?_)
   refine rn ?_;exact ⟨hk,trivial,by rw [yta hk];exact eA⟩
  ·have qk:=zaz hc35 lk
   rw [qk,List.take_length]
   refine rn ?_;refine zc7 h.os.length (fun k s=>⟨[(47,iv k),(1,pZ b1),(6,pZ b31),(46,iv (h.os.map zdi).length)],.row s.v 1 29 (((upR k).map (zax h)).map yhd):: .box b31 202 (y9 h++ [mpv b26,.v s.v,mpv b27,mpv b28,mpv b29]):: .map b29 (zal za1 (zbd zaq [])):: .map b28 (zal zdt (zbd iv (rkM h k))):: .map b27 (zal za1 (zbd iv (ygf h k))):: .map b26 (zal intK (zbd bv (dnM (zdb h.evs)))):: .box b1 28 (y9 h):: .glob 2 156 y3:: .glob 4 305 y4:: .glob 5 308 y2:: .glob 3 246 q7:: [],[]⟩) ⟨none,0,0⟩ (v6 (zac 1 29) es) ?_
   intro k s lk
   refine rn ?_;refine z7 rfl (fun hc48=> ?_) (fun hc48=> ?_)
   ·have hk:k < h.os.length:=by have q:=oT hc48;rw [oM] at q;omega
    have k0:(0:Int)≤(k:Int):=by omega
    have k1:(k:Int) < h.os.length:=by omega
    have hb:=zl3 hc k0 k1
    refine rn ?_;refine qv rfl rfl (y0 rfl rfl (y1.qt (y1.of_fun (yk9 h la hc k k0 k1)) ((pt7 _ _ _ _ _ _ _ _ _).trans (.cons _ ((pt7 _ _ _ _ _ _ _ _ _).trans (.cons _ ((pt7 _ _ _ _ _ _ _ _ _).trans (.cons _ (pt7 _ _ _ _ _ _ _ _ _))))))))) ?_
    refine rn ?_;refine qv rfl rfl (q6 rfl rfl) ?_
    refine z8 rfl (u7 rfl rfl (by simp only [oM,upR,List.length_range,List.length_cons,List.length_nil];omega) rfl (fun s63=> ?_) (fun r hr=>by rw [List.mem_singleton.1 hr];rfl))
    refine k8 s63 fun sv hsv=> ?_
    subst hsv
    refine q1 ?_;refine q1 ?_;first|refine z8 rfl (j5 rfl rfl rfl ?_)|refine z8 rfl (zak rfl rfl rfl rfl (Nat.le_of_ble_eq_true rfl) ?_)
    refine u3 (zag ?_)
    refine w9 (y6 ?_)
    refine q1 ?_;refine q1 ?_;refine q1 ?_;refine q1 ?_;refine q1 ?_;refine qq rfl rfl (j7 (out:= [iv k,iv 0,iv 0]) rfl (by rfl)) ?_
    refine z8 rfl (zan (g:=iv) (enc:=zdt) (k:=((k:Int),(0:Int),(0:Int))) (v:=(0:Int)) rfl rfl rfl ?_)
    refine rn ?_;refine zbn (zax h k).length (fun _=>True) (fun j=>⟨[(74,iv j),(1,pZ b1),(6,pZ b31),(9,iv k),(46,iv (h.os.map zdi).length),(47,iv k),(72,zaq (zax h k)),(73,iv ((zax h k).map zai).length)],.row sv.v 1 29 (((upR k).map (zax h)).map yhd++ [yhd (zax h k)]):: .box b31 202 (y9 h++ [mpv b26,.v sv.v,mpv b27,mpv b28,mpv b29]):: .map b29 (zal za1 (zbd zaq [])):: .map b28 (zal zdt (zbd iv (zh2 h k 0 ((zax h k).take j) (zdy (zr5 k ⟨0,0⟩) 0 (rkM h k))))):: .map b27 (zal za1 (zbd iv (zkp h k ((zax h k).take j) (ygf h k)))):: .map b26 (zal intK (zbd bv (dnM (zdb h.evs)))):: .box b1 28 (y9 h):: .glob 2 156 y3:: .glob 4 305 y4:: .glob 5 308 y2:: .glob 3 246 q7:: [],[]⟩) trivial es ?_
    intro j lj _
    refine rn ?_;refine z7 rfl (fun hc75=> ?_) (fun hc75=> ?_)
    ·have hj:=zay hc75
     have rj:=zae (f:=zai) hj
     refine rn ?_;refine qv rfl rfl (y0 rfl rfl (y1.qt (y1.of_fun (yiz h la hc (zax h k)[j] k)) ((pt7 _ _ _ _ _ _ _ _ _).trans (.cons _ ((pt7 _ _ _ _ _ _ _ _ _).trans (.cons _ ((pt7 _ _ _ _ _ _ _ _ _).trans (.cons _ (pt7 _ _ _ _ _ _ _ _ _))))))))) ?_
     refine rn ?_;refine z8 rfl (y5 rfl fun b14=> ?_)
     first|refine z8 rfl (j5 rfl rfl rfl ?_)|refine z8 rfl (zak rfl rfl rfl rfl (Nat.le_of_ble_eq_true rfl) ?_)
     refine q1 ?_;refine q1 ?_;refine u3 (zag ?_)
     refine w9 (y6 ?_)
     refine q1 ?_;refine q1 ?_;refine q1 ?_;refine q1 ?_;refine q1 ?_;refine q1 ?_;refine qq rfl rfl (zbt (out:= [iv (zax h k)[j],iv k]) rfl (by rfl)) ?_
     refine rn ?_;refine z8 rfl (zan (g:=iv) (enc:=za1) (k:=((zax h k)[j],(k:Int))) (v:=zc5 h (zax h k)[j] k) rfl rfl rfl ?_)
     refine rn ?_;refine u4 9 rfl ?_
     refine dq rfl rfl qrA ?_;refine dq rfl rfl qrA ?_;refine dq rfl rfl qrA ?_;refine dq rfl rfl qrA ?_;refine dq rfl rfl qrA ?_;refine dq rfl rfl qrA ?_;refine dq rfl rfl (j7 (out:= [iv k,iv (zhr h k (zax h k)[j]).t,iv (zhr h k (zax h k)[j]).k]) rfl (by rfl)) ?_
     refine dq rfl rfl qrA ?_;refine dq rfl rfl (zc1 rfl rfl rfl (by omega)) ?_
     refine rn ?_;refine z8 rfl (zan (g:=iv) (enc:=zdt) (k:=((k:Int),(zhr h k (zax h k)[j]).t,(zhr h k (zax h k)[j]).k)) (v:=(j:Int)+1) rfl rfl rfl ?_)
     refine rn ?_;exact ⟨hj,trivial,by rw [yce hj,yjh hj];exact eA⟩
    ·have qj:=zaz hc75 lj
     refine rn ?_;exact ⟨hk,sv,by rw [zow,List.map_append,List.map_append,yqy,ysw];rw [qj,List.take_length];exact eA⟩
   ·have qk:k=h.os.length:=by have q:=oF hc48;rw [oM] at q;omega
    refine zhi ?_;refine zjj ?_;refine zjj ?_;refine zey ?_;refine zag ?_;refine w9 (y6 ?_)
    refine zix (zjd (y9 h++ [mpv b26]) [mpv b27,mpv b28,mpv b29]) ?_
    refine rn ?_;exact zb0 rfl rfl (.trans (.perm (pt5 _ _ _ _ _ _ _) _) (.drop [_] _ _)) (.inl ⟨hc,b31,b26,b27,b28,b29,by rw [qk];rfl,rfl⟩)
theorem yuh (h:Hist) (la:Lim 4611686018427387904 h) (hc:v7 h=0) (p x:Int) (bl rd rf rk rg:Nat) (M:List ((Int×Int)×List Int)) (hM:zf6 h M) (W:List Res):y7 Tryz.prog 161 [pZ bl,iv p,iv x] (.box bl 202 (wrP h rd rf rk rg)::rgR rg M::rkS h rk::zd0 h rf::rcR h rd:: .glob 2 156 y3:: .glob 4 305 y4:: .glob 5 308 y2:: .glob 3 246 q7::W) (fun r h'=>∃M',zf6 h M'∧h'= .box bl 202 (wrP h rd rf rk rg)::rgR rg M'::rkS h rk::zd0 h rf::rcR h rd:: .glob 2 156 y3:: .glob 4 305 y4:: .glob 5 308 y2:: .glob 3 246 q7::W∧r=zaq (chL h p x)):=by
 refine z6 Tryz.func161 rfl rfl rfl ?_
 refine w9 (y6 ?_)
 refine q1 ?_;refine u3 (zag ?_)
 refine w9 (y6 ?_)
 refine q1 ?_;refine q1 ?_;refine qq rfl rfl (zbt (out:= [iv p,iv x]) rfl (by rfl)) ?_
 refine z8 rfl (y5 rfl fun b7=> ?_)
 refine rn ?_;refine u4 10 rfl ?_
 refine dq rfl rfl qrA ?_;refine dq rfl rfl qrA ?_;refine dq rfl rfl qrA ?_;refine dq rfl rfl qrA ?_;refine dq rfl rfl qrA ?_;refine dq rfl rfl (zfm (g:=zaq) (enc:=za1) (k:=(p,x)) ([]:List Int) rfl rfl rfl) ?_
 refine rn ?_;refine z7 rfl (fun hc23=> ?_) (fun hc23=> ?_)
 ·refine rn ?_;refine qv rfl rfl (y0 rfl rfl (y1.qt (y1.of_fun (yk5 h la p x)) ((pt6 _ _ _ _ _ _ _ _).trans (.cons _ ((pt6 _ _ _ _ _ _ _ _).trans (.cons _ ((pt6 _ _ _ _ _ _ _ _).trans (.cons _ (pt6 _ _ _ _ _ _ _ _))))))))) ?_
  refine rn ?_;refine u4 6 rfl ?_
  refine rn ?_;refine z8 rfl (zan (g:=zaq) (enc:=za1) (k:=(p,x)) (v:=chL h p x) rfl rfl rfl ?_)
  refine rn ?_;first|exact j6 rfl (.drop [_] _ _) ⟨_,zm4 hM p x,rfl,rfl⟩|exact j6 rfl (.drop [_] _ _) ⟨_,hM,rfl,congrArg zaq (zm6 hM hc23)⟩
 ·refine rn ?_;first|exact j6 rfl (.drop [_] _ _) ⟨_,zm4 hM p x,rfl,rfl⟩|exact j6 rfl (.drop [_] _ _) ⟨_,hM,rfl,congrArg zaq (zm6 hM hc23)⟩
theorem ykb (h:Hist) (f x:Int) (a:Nat) (ha:a < h.evs.length) (h0:0≤x) (h1:x < h.os.length) (hf:f∈zax h x) (bl rd rf rk rg:Nat) (M:List ((Int×Int)×List Int)) (W:List Res):y7 Tryz.prog 159 [pZ bl,iv f,iv (a:Int),iv x] (.box bl 202 (wrP h rd rf rk rg)::rgR rg M::rkS h rk::zd0 h rf::rcR h rd:: .glob 2 156 y3:: .glob 4 305 y4:: .glob 5 308 y2:: .glob 3 246 q7::W) (fun r h'=>h'= .box bl 202 (wrP h rd rf rk rg)::rgR rg M::rkS h rk::zd0 h rf::rcR h rd:: .glob 2 156 y3:: .glob 4 305 y4:: .glob 5 308 y2:: .glob 3 246 q7::W∧r= .agg (j3 ⟨f,h.evs[a].t,0,zc5 h f x,a,x,0⟩)):=by
 refine z6 Tryz.func159 rfl rfl rfl ?_
 have ra:=zae (f:=evR) ha
 refine rn ?_;refine z8 rfl (y5 rfl fun b8=> ?_)
 refine rn ?_;refine u4 20 rfl ?_
 refine dq rfl rfl qrA ?_;refine dq rfl rfl qrA ?_;refine dq rfl rfl qrA ?_;refine dq rfl rfl qrA ?_;refine dq rfl rfl qrA ?_;refine dq rfl rfl qrA ?_;refine dq rfl rfl qrA ?_;refine dq rfl rfl qrA ?_;refine dq rfl rfl qrA ?_;refine dq rfl rfl qrA ?_;refine dq rfl rfl qrA ?_;refine dq rfl rfl qrA ?_;refine dq rfl rfl qrA ?_;refine dq rfl rfl qrA ?_;refine dq rfl rfl qrA ?_;refine dq rfl rfl qrA ?_;refine dq rfl rfl (zbt (out:= [iv f,iv x]) rfl (by rfl)) ?_
 refine dq rfl rfl (zsz (zbl (enc:=za1) (k:=(f,x)) 0 rfl rfl) (show iv _=iv (zc5 h f x) from congrArg iv (yo9 h0 h1 hf))) ?_
 refine rn2 ?_;refine qq rfl rfl (j7 (out:=j3 ⟨f,h.evs[a].t,0,zc5 h f x,a,x,0⟩) rfl (by rfl)) ?_
 refine rn ?_;exact zej (.cons _ _ _ _ (.agg _ _ _ _ _ _ _ rfl inferInstance inferInstance inferInstance rfl) .nil) (.drop [_] _ _) ⟨rfl,rfl⟩
theorem ygn (a bl:Nat) (W:List Res):y7 Tryz.prog 114 [pZ bl,iv (a:Int)] W (fun r h'=>∃ba bp,h'= .box ba 3 [iv (a:Int)]:: .box bp 147 [pZ bl]::W∧r= .fn (.func 158) [] [pZ bp,pZ ba]):=by
 refine z6 Tryz.func114 rfl rfl rfl ?_
 refine rn ?_;refine z8 rfl (w8 rfl rfl rfl fun b2=> ?_)
 refine z8 rfl (w8 rfl rfl rfl fun b3=> ?_)
 refine rn ?_;exact j6 rfl (.refl _ _) ⟨_,_,rfl,rfl⟩
theorem ygl (a bl:Nat) (W:List Res):y7 Tryz.prog 115 [pZ bl,iv (a:Int)] W (fun r h'=>∃ba bp,h'= .box ba 3 [iv (a:Int)]:: .box bp 147 [pZ bl]::W∧r= .fn (.func 160) [] [pZ bp,pZ ba]):=by
 refine z6 Tryz.func115 rfl rfl rfl ?_
 refine rn ?_;refine z8 rfl (w8 rfl rfl rfl fun b2=> ?_)
 refine z8 rfl (w8 rfl rfl rfl fun b3=> ?_)
 refine rn ?_;exact j6 rfl (.refl _ _) ⟨_,_,rfl,rfl⟩
end Go.Proofs
