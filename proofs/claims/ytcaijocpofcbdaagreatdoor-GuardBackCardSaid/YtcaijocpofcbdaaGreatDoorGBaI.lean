/- The walks of small functions. Conditions: none. -/
import Derived.Test.YtcaijocpofcbdaaGreatDoorGBaH
set_option maxHeartbeats 4000000
set_option linter.unusedSectionVars false
set_option linter.unusedSimpArgs false
set_option linter.unusedVariables false
set_option maxRecDepth 10000
namespace Go.Proofs
open Go Go.Ab
attribute [local irreducible] QR QV OE zca aw zcu zbh za3 zam thn ze6
open Go.H
theorem zuk (l:Int):y9 Tryz.prog 176 [iv l] [] (fun r h'=>h'= []∧r=iv (yi3 l)):=by
 refine z6 Tryz.func176 rfl rfl rfl ?_
 refine rn ?_;refine q8 (fun hg1_2=> ?_) (fun hg1_2=> ?_)
 ·refine rn ?_;refine zry rfl ?_;refine rn ?_;exact j6 rfl (.refl _ _) ⟨rfl,congrArg iv (by simp_all [yi3])⟩
 ·refine rn ?_;refine z8 rfl (fun hc8=> ?_) (fun hc8=> ?_)
  ·refine rn ?_;exact j6 rfl (.refl _ _) ⟨rfl,congrArg iv (by simp_all [yi3])⟩
  ·refine rn ?_;exact j6 rfl (.refl _ _) ⟨rfl,congrArg iv (by simp_all [yi3])⟩
theorem zo4 (c:Int):y9 Tryz.prog 168 [.v (.int .i32 c)] [] (fun r h'=>h'= []∧r=bv (zwh c)):=by
 refine z6 Tryz.func168 rfl rfl rfl ?_
 refine rn ?_;refine q8 (fun hg1_2=> ?_) (fun hg1_2=> ?_)
 ·refine rn ?_;exact j6 rfl (.refl _ _) ⟨rfl,congrArg bv (by first|(simp only [zwh, *,Bool.true_and,Bool.false_and,Bool.and_false,Bool.and_true,Bool.true_or,Bool.or_false,Bool.false_or,Bool.or_true,if_true,if_false,Bool.false_eq_true,Bool.not_true,Bool.not_false];done)|(simp_all [zwh];done)|(simp_all [zwh] <;> omega))⟩
 ·refine rn ?_;exact j6 rfl (.refl _ _) ⟨rfl,congrArg bv (by first|(simp only [zwh, *,Bool.true_and,Bool.false_and,Bool.and_false,Bool.and_true,Bool.true_or,Bool.or_false,Bool.false_or,Bool.or_true,if_true,if_false,Bool.false_eq_true,Bool.not_true,Bool.not_false];done)|(simp_all [zwh];done)|(simp_all [zwh] <;> omega))⟩
theorem bvz0_1402 {a b:Bool} (h:a=b:=by first|(simp only [ye5, *,Bool.true_and,Bool.false_and,Bool.and_false,Bool.and_true,Bool.true_or,Bool.or_false,Bool.false_or,Bool.or_true,if_true,if_false,Bool.false_eq_true,Bool.not_true,Bool.not_false];done)|(simp_all [ye5];done)|(simp_all [ye5] <;> omega)):bv a=bv b:=congrArg bv h
theorem zwz (c:Int):y9 Tryz.prog 201 [.v (.int .i32 c)] [] (fun r h'=>h'= []∧r=bv (ye5 c)):=by
 refine z6 Tryz.func201 rfl rfl rfl ?_
 refine rn ?_;refine q8 (fun hg1_2=> ?_) (fun hg1_2=> ?_)
 ·refine rn ?_;exact j6 rfl (.refl _ _) ⟨rfl,bvz0_1402⟩
 ·refine rn ?_;refine q8 (fun hg1_5=> ?_) (fun hg1_5=> ?_)
  ·refine rn ?_;refine q8 (fun hg1_10=> ?_) (fun hg1_10=> ?_)
   ·refine rn ?_;exact j6 rfl (.refl _ _) ⟨rfl,bvz0_1402⟩
   ·refine rn ?_;refine q8 (fun hg1_13=> ?_) (fun hg1_13=> ?_)
    ·refine rn ?_;refine q8 (fun hg1_18=> ?_) (fun hg1_18=> ?_)
     ·refine rn ?_;exact j6 rfl (.refl _ _) ⟨rfl,bvz0_1402⟩
     ·refine rn ?_;exact j6 rfl (.refl _ _) ⟨rfl,bvz0_1402⟩
    ·refine rn ?_;exact j6 rfl (.refl _ _) ⟨rfl,bvz0_1402⟩
  ·refine rn ?_;refine q8 (fun hg1_13=> ?_) (fun hg1_13=> ?_)
   ·refine rn ?_;refine q8 (fun hg1_18=> ?_) (fun hg1_18=> ?_)
    ·refine rn ?_;exact j6 rfl (.refl _ _) ⟨rfl,bvz0_1402⟩
    ·refine rn ?_;exact j6 rfl (.refl _ _) ⟨rfl,bvz0_1402⟩
   ·refine rn ?_;exact j6 rfl (.refl _ _) ⟨rfl,bvz0_1402⟩
theorem zw0 (c:Int):y9 Tryz.prog 170 [.v (.int .i32 c)] [] (fun r h'=>h'= []∧r=bv (ye5 c||zwh c)):=by
 refine z6 Tryz.func170 rfl rfl rfl ?_
 refine rn ?_;refine qv rfl rfl (y4 rfl rfl (zaf (zwz _) (Sbs.refl _))) ?_
 refine rn ?_;refine q8 (fun hg1_2=> ?_) (fun hg1_2=> ?_)
 ·refine rn ?_;exact j6 rfl (.refl _ _) ⟨rfl,congrArg bv (by first|(simp only [*,Bool.true_and,Bool.false_and,Bool.and_false,Bool.and_true,Bool.true_or,Bool.or_false,Bool.false_or,Bool.or_true,if_true,if_false,Bool.false_eq_true,Bool.not_true,Bool.not_false];done)|(simp_all;done)|(simp_all <;> omega))⟩
 ·refine rn ?_;refine qv rfl rfl (y4 rfl rfl (zaf (zo4 _) (Sbs.refl _))) ?_
  refine rn ?_;exact j6 rfl (.refl _ _) ⟨rfl,congrArg bv (by first|(simp only [*,Bool.true_and,Bool.false_and,Bool.and_false,Bool.and_true,Bool.true_or,Bool.or_false,Bool.false_or,Bool.or_true,if_true,if_false,Bool.false_eq_true,Bool.not_true,Bool.not_false];done)|(simp_all;done)|(simp_all <;> omega))⟩
theorem zwk (h:Hist):y9 Tryz.prog 93 [.agg (x4 h)] [] (fun r h'=>h'= []∧r= .agg (zgl h)):=by
 refine z6 Tryz.func93 rfl rfl rfl ?_
 refine rn ?_;refine z7 rfl (x9 rfl rfl rfl fun b1=> ?_)
 refine z7 rfl (x5 rfl fun b2=> ?_)
 refine rn ?_;exact zd7 (.cons _ _ _ _ (.agg _ _ _ _ _ _ _ rfl inferInstance inferInstance inferInstance rfl) .nil) (.drop [_,_] _ _) ⟨rfl,rfl⟩
theorem zu3 (h:Hist) (sort:Nat) (n:Int) (l:List ByteArray) (hs:(zgl h)[sort]? =some (zbv l)) (hs4:sort < 4):y9 Tryz.prog 134 [.agg (x4 h),iv sort,iv n] [] (fun r h'=>h'= []∧r=bv (zdf l n)):=by
 refine z6 Tryz.func134 rfl rfl rfl ?_
 refine rn ?_;refine z7 rfl (x9 rfl rfl rfl fun b3=> ?_)
 refine rn ?_;refine q8 (fun hg1_2=> ?_) (fun hg1_2=> ?_)
 ·refine rn ?_;refine qv rfl rfl (y4 rfl rfl (zaf (zwk _) (Sbs.refl _))) ?_
  refine q1 ?_;refine qq rfl rfl (zcn rfl rfl (by omega) (by simpa using hs)) ?_
  refine rn ?_;exact j6 rfl (.drop1 _ _ _) ⟨rfl,congrArg bv (by first|(simp only [zdf, *,Bool.true_and,Bool.false_and,Bool.and_false,Bool.and_true,Bool.true_or,Bool.or_false,Bool.false_or,Bool.or_true,if_true,if_false,Bool.false_eq_true,Bool.not_true,Bool.not_false];done)|(simp_all [zdf];done)|(simp_all [zdf] <;> omega))⟩
 ·refine rn ?_;exact j6 rfl (.drop1 _ _ _) ⟨rfl,congrArg bv (by first|(simp only [zdf, *,Bool.true_and,Bool.false_and,Bool.and_false,Bool.and_true,Bool.true_or,Bool.or_false,Bool.false_or,Bool.or_true,if_true,if_false,Bool.false_eq_true,Bool.not_true,Bool.not_false];done)|(simp_all [zdf];done)|(simp_all [zdf] <;> omega))⟩
theorem bvz1_9608 {a b:Bool} (h:a=b:=by first|(simp only [zy4, *,Bool.true_and,Bool.false_and,Bool.and_false,Bool.and_true,Bool.true_or,Bool.or_false,Bool.false_or,Bool.or_true,if_true,if_false,Bool.false_eq_true,Bool.not_true,Bool.not_false];done)|(simp_all [zy4];done)|(simp_all [zy4] <;> omega)):bv a=bv b:=congrArg bv h
theorem zqf (h:Hist) (v:Ver):y9 Tryz.prog 178 [.agg (x4 h),.agg (yg8 v)] [] (fun r h'=>h'= []∧r=bv (zy4 h.ts v)):=by
 refine z6 Tryz.func178 rfl rfl rfl ?_
 refine rn ?_;refine z7 rfl (x9 rfl rfl rfl fun b2=> ?_)
 refine z7 rfl (x9 rfl rfl rfl fun b3=> ?_)
 refine rn ?_;refine z8 rfl (fun hc7=> ?_) (fun hc7=> ?_)
 ·refine rn ?_;exact j6 rfl (.drop [_,_] _ _) ⟨rfl,bvz1_9608⟩
 ·refine rn ?_;refine qv rfl rfl (y4 rfl rfl (zaf (zu3 _ 0 _ _ rfl (by decide)) (Sbs.refl _))) ?_
  refine rn ?_;refine q8 (fun hg3_4=> ?_) (fun hg3_4=> ?_)
  ·refine rn ?_;refine q8 (fun hg3_9=> ?_) (fun hg3_9=> ?_)
   ·refine rn ?_;exact j6 rfl (.drop [_,_] _ _) ⟨rfl,bvz1_9608⟩
   ·refine rn ?_;exact j6 rfl (.drop [_,_] _ _) ⟨rfl,bvz1_9608⟩
  ·refine rn ?_;exact j6 rfl (.drop [_,_] _ _) ⟨rfl,bvz1_9608⟩
theorem bvz2_887 {a b:Bool} (h:a=b:=by first|(simp only [ybc, *,Bool.true_and,Bool.false_and,Bool.and_false,Bool.and_true,Bool.true_or,Bool.or_false,Bool.false_or,Bool.or_true,if_true,if_false,Bool.false_eq_true,Bool.not_true,Bool.not_false];done)|(simp_all [ybc];done)|(simp_all [ybc] <;> omega)):bv a=bv b:=congrArg bv h
theorem zoj (a b:Ev) (ha:a.scan.length≤4611686018427387904) (hb:b.scan.length≤4611686018427387904):y9 Tryz.prog 101 [.agg (evR a),.agg (evR b)] [] (fun r h'=>h'= []∧r=bv (ybc a b)):=by
 refine z6 Tryz.func101 rfl rfl rfl ?_
 refine rn ?_;refine z7 rfl (x9 rfl rfl rfl fun b2=> ?_)
 refine z7 rfl (x9 rfl rfl rfl fun b3=> ?_)
 refine rn ?_;refine q8 (fun hg1_5=> ?_) (fun hg1_5=> ?_)
 ·refine rn ?_;refine q8 (fun hg1_12=> ?_) (fun hg1_12=> ?_)
  ·refine rn ?_;refine q8 (fun hg1_19=> ?_) (fun hg1_19=> ?_)
   ·refine rn ?_;refine q8 (fun hg2_1=> ?_) (fun hg2_1=> ?_)
    ·refine rn ?_;refine q8 (fun hg2_8=> ?_) (fun hg2_8=> ?_)
     ·refine rn ?_;refine q8 (fun hg2_15=> ?_) (fun hg2_15=> ?_)
      ·refine rn ?_;refine q8 (fun hg2_22=> ?_) (fun hg2_22=> ?_)
       ·refine rn ?_;refine qv rfl rfl (y4 rfl rfl (zaf (zxp _ _ ha hb) (Sbs.refl _))) ?_
        refine rn ?_;exact j6 rfl (.drop [_,_] _ _) ⟨rfl,bvz2_887⟩
       ·refine rn ?_;exact j6 rfl (.drop [_,_] _ _) ⟨rfl,bvz2_887⟩
      ·refine rn ?_;exact j6 rfl (.drop [_,_] _ _) ⟨rfl,bvz2_887⟩
     ·refine rn ?_;exact j6 rfl (.drop [_,_] _ _) ⟨rfl,bvz2_887⟩
    ·refine rn ?_;exact j6 rfl (.drop [_,_] _ _) ⟨rfl,bvz2_887⟩
   ·refine rn ?_;exact j6 rfl (.drop [_,_] _ _) ⟨rfl,bvz2_887⟩
  ·refine rn ?_;exact j6 rfl (.drop [_,_] _ _) ⟨rfl,bvz2_887⟩
 ·refine rn ?_;exact j6 rfl (.drop [_,_] _ _) ⟨rfl,bvz2_887⟩
theorem yd3 (a b:H.Ord) (ha:a.ts.length≤4611686018427387904) (hb:b.ts.length≤4611686018427387904):y9 Tryz.prog 96 [.agg (zb7 a),.agg (zb7 b)] [] (fun r h'=>h'= []∧r=bv (zkf a b)):=by
 refine z6 Tryz.func96 rfl rfl rfl ?_
 refine rn ?_;refine z7 rfl (x9 rfl rfl rfl fun b2=> ?_)
 refine z7 rfl (x9 rfl rfl rfl fun b3=> ?_)
 refine rn ?_;refine q8 (fun hg1_5=> ?_) (fun hg1_5=> ?_)
 ·refine rn ?_;refine qv rfl rfl (y4 rfl rfl (zaf (znr _ _ ha hb) (Sbs.refl _))) ?_
  refine rn ?_;exact j6 rfl (.drop [_,_] _ _) ⟨rfl,congrArg bv (by first|(simp only [zkf, *,Bool.true_and,Bool.false_and,Bool.and_false,Bool.and_true,Bool.true_or,Bool.or_false,Bool.false_or,Bool.or_true,if_true,if_false,Bool.false_eq_true,Bool.not_true,Bool.not_false];done)|(simp_all [zkf];done)|(simp_all [zkf] <;> omega))⟩
 ·refine rn ?_;exact j6 rfl (.drop [_,_] _ _) ⟨rfl,congrArg bv (by first|(simp only [zkf, *,Bool.true_and,Bool.false_and,Bool.and_false,Bool.and_true,Bool.true_or,Bool.or_false,Bool.false_or,Bool.or_true,if_true,if_false,Bool.false_eq_true,Bool.not_true,Bool.not_false];done)|(simp_all [zkf];done)|(simp_all [zkf] <;> omega))⟩
theorem bvz3_6233 {a b:Bool} (h:a=b:=by first|(simp only [zoz, *,Bool.true_and,Bool.false_and,Bool.and_false,Bool.and_true,Bool.true_or,Bool.or_false,Bool.false_or,Bool.or_true,if_true,if_false,Bool.false_eq_true,Bool.not_true,Bool.not_false];done)|(simp_all [zoz];done)|(simp_all [zoz] <;> omega)):bv a=bv b:=congrArg bv h
theorem yd4 (a b:Mat) (ha:a.ts.length≤4611686018427387904) (hb:b.ts.length≤4611686018427387904):y9 Tryz.prog 98 [.agg (zcc a),.agg (zcc b)] [] (fun r h'=>h'= []∧r=bv (zoz a b)):=by
 refine z6 Tryz.func98 rfl rfl rfl ?_
 refine rn ?_;refine z7 rfl (x9 rfl rfl rfl fun b2=> ?_)
 refine z7 rfl (x9 rfl rfl rfl fun b3=> ?_)
 refine rn ?_;refine q8 (fun hg1_5=> ?_) (fun hg1_5=> ?_)
 ·refine rn ?_;refine q8 (fun hg1_12=> ?_) (fun hg1_12=> ?_)
  ·refine rn ?_;refine q8 (fun hg1_19=> ?_) (fun hg1_19=> ?_)
   ·refine rn ?_;refine qv rfl rfl (y4 rfl rfl (zaf (znr _ _ ha hb) (Sbs.refl _))) ?_
    refine rn ?_;exact j6 rfl (.drop [_,_] _ _) ⟨rfl,bvz3_6233⟩
   ·refine rn ?_;exact j6 rfl (.drop [_,_] _ _) ⟨rfl,bvz3_6233⟩
  ·refine rn ?_;exact j6 rfl (.drop [_,_] _ _) ⟨rfl,bvz3_6233⟩
 ·refine rn ?_;exact j6 rfl (.drop [_,_] _ _) ⟨rfl,bvz3_6233⟩
theorem zzp (s:ByteArray) (i:Nat) (c:Int) (bs bi bc:Nat) (hi:i≤s.size):y9 Tryz.prog 220 [pZ bs,pZ bi,pZ bc] [.box bs 9 [sv s],.box bi 3 [iv (i:Nat)],.box bc 21 [.v (.int .i32 c)],.glob 5 276 x3,.glob 6 279 y5] (fun r h'=>h'= [.box bs 9 [sv s],.box bi 3 [iv (i:Nat)],.box bc 21 [.v (.int .i32 c)],.glob 5 276 x3,.glob 6 279 y5]∧r= .tup [.v (.int .i32 c),bv (zqh s i c)]):=by
 refine z6 Tryz.func220 rfl rfl rfl ?_
 refine w6 (y6 ?_)
 refine q1 ?_;refine q1 ?_;refine u3 (k6 ?_)
 refine w6 (y6 ?_)
 refine q1 ?_;refine q1 ?_;refine qq rfl rfl (zeq rfl rfl hi) ?_
 refine qv rfl rfl (y4 rfl rfl (y3.quiet (R:=fun x=>x=_) (h2:= [_,_,_]) (List.perm_append_comm (l₁:= [_,_,_])) (y3.of_fun (zuv (s.extract i s.size))))) ?_
 refine rn ?_;refine q8 (fun hg2_3=> ?_) (fun hg2_3=> ?_)
 ·refine rn ?_;exact zbl rfl rfl (.refl _ _) ⟨rfl,congrArg (fun b=>AV.tup [.v (.int .i32 c),bv b]) (by first|(simp only [zqh, *,Bool.true_and,Bool.false_and,Bool.and_false,Bool.and_true,Bool.true_or,Bool.or_false,Bool.false_or,Bool.or_true,if_true,if_false,Bool.false_eq_true,Bool.not_true,Bool.not_false];done)|(simp_all [zqh];done))⟩
 ·refine rn ?_;exact zbl rfl rfl (.refl _ _) ⟨rfl,congrArg (fun b=>AV.tup [.v (.int .i32 c),bv b]) (by first|(simp only [zqh, *,Bool.true_and,Bool.false_and,Bool.and_false,Bool.and_true,Bool.true_or,Bool.or_false,Bool.false_or,Bool.or_true,if_true,if_false,Bool.false_eq_true,Bool.not_true,Bool.not_false];done)|(simp_all [zqh];done))⟩
theorem zv0 (s:ByteArray) (bs:Nat) (y:AV) (p:Nat→Int→Bool) (I:List Res→Prop) (J:Nat→List Res→Prop) (hy:∀(i bi bc it:Nat) (L:List Res),i < s.size→I L→y3 Tryz.prog y [iv i,.fn (.func 220) [] [pZ bs,pZ bi,pZ bc]] (.box bc 21 [.v (.int .i32 (Utf8.decode s i).1)]:: .box bi 3 [iv (i:Nat)]:: .obj it (.stringIter s (i+(Utf8.decode s i).2)):: .box bs 9 [sv s]::L) (fun r h'=>∃L',h'= .box bc 21 [.v (.int .i32 (Utf8.decode s i).1)]:: .box bi 3 [iv (i:Nat)]:: .obj it (.stringIter s (i+(Utf8.decode s i).2)):: .box bs 9 [sv s]::L'∧((p i (Utf8.decode s i).1=true∧r=bv true∧I L')∨(p i (Utf8.decode s i).1=false∧r=bv false∧J i L')))) (L0:List Res) (h0:I L0):y9 Tryz.prog 219 [y,pZ bs] (.box bs 9 [sv s]::L0) (fun r h'=>∃L',h'= .box bs 9 [sv s]::L'∧((zde s p 0=s.size∧I L')∨(zde s p 0 < s.size∧J (zde s p 0) L'))):=by
 refine z6 Tryz.func219 rfl rfl rfl ?_
 refine rn ?_;refine z7 rfl (zou rfl rfl fun b7=> ?_)
 refine rn ?_;refine u5 (fun x:Nat×List Res=>zde s p 0=zde s p x.1∧I x.2) (fun x=>⟨[(7,pZ b7),(0,y),(1,pZ bs)],.obj b7 (.stringIter s x.1):: .box bs 9 [sv s]::x.2,[]⟩) (fun x=>s.size - x.1) (0,L0) ⟨rfl,h0⟩
  (x7 (.cons _ _ _ rfl (.cons _ _ _ rfl (.cons _ _ _ rfl (.nil))))) ?_
 rintro ⟨k,L⟩ ⟨hw,hI⟩
 simp only at hw hI
 refine w6 (y6 ?_)
 refine z7 rfl (zq4 rfl rfl (fun hp=> ?_) (fun hp=> ?_))
 ·refine rn ?_;refine z8 rfl (fun hc9=> ?_) (fun hc9=> ?_)
  ·first|cases hc9|exact absurd hc9 (by decide)|(exfalso;simp_all;done)
  ·refine rn ?_;exact zdw .nil (.drop1 _ _ _) ⟨_,rfl,.inl ⟨by rw [hw,zlu hp],hI⟩⟩
 ·refine rn ?_;refine z8 rfl (fun hc9=> ?_) (fun hc9=> ?_)
  ·refine rn ?_;refine z7 rfl (x5 rfl fun b3=> ?_)
   refine z7 rfl (x5 rfl fun b4=> ?_)
   first|refine z7 rfl (za2 rfl rfl rfl ?_)|refine z7 rfl (zby rfl rfl rfl rfl (Nat.le_of_ble_eq_true rfl) ?_)
   first|refine z7 rfl (za2 rfl rfl rfl ?_)|refine z7 rfl (zby rfl rfl rfl rfl (Nat.le_of_ble_eq_true rfl) ?_)
   refine u3 (k6 ?_)
   refine w6 (y6 ?_)
   refine q1 ?_;refine q1 ?_;refine u3 (k6 ?_)
   refine w6 (y6 ?_)
   refine q1 ?_;refine q1 ?_;refine q1 ?_;refine z7 rfl (w8 rfl rfl (hy k b3 b4 b7 L hp hI) rfl ?_)
   rintro av h' ⟨L',rfl,⟨hp1,rfl,hI2⟩|⟨hp1,rfl,hJ⟩⟩
   ·refine rn ?_;refine z8 rfl (fun hc17=> ?_) (fun hc17=> ?_)
    ·first|cases hc17|exact absurd hc17 (by decide)|(exfalso;simp_all;done)
    ·refine rn ?_;exact ⟨(k+(Utf8.decode s k).2,L'),⟨hw.trans (zod hp hp1),hI2⟩,(w7 (zas (h1:= [_,_])) (x7 (.cons _ _ _ rfl (.cons _ _ _ rfl (.cons _ _ _ rfl (.nil)))))),by have:=zoc s k;simp only at hp ⊢;omega⟩
   ·refine rn ?_;refine z8 rfl (fun hc17=> ?_) (fun hc17=> ?_)
    ·refine rn ?_;exact zd7 .nil (.drop [_,_,_] _ _) ⟨_,rfl,.inr (by rw [hw,zqd hp hp1];exact ⟨hp,hJ⟩)⟩
    ·first|cases hc17|exact absurd hc17 (by decide)|(exfalso;simp_all;done)
  ·first|cases hc9|exact absurd hc9 (by decide)|(exfalso;simp_all;done)
theorem yly (s:ByteArray) (h:List Res):y9 Tryz.prog 200 [sv s] h (fun r h'=>∃bs,h'= .box bs 9 [sv s]::h∧r= .fn (.func 219) [] [pZ bs]):=by
 refine z6 Tryz.func200 rfl rfl rfl ?_
 refine rn ?_;refine z7 rfl (x9 rfl rfl rfl fun b1=> ?_)
 refine rn ?_;exact j6 rfl (.refl _ _) ⟨_,rfl,rfl⟩
theorem yav (s:ByteArray) (fv:AV) (g:Int→Bool) (hone:fv.cellsOf=some [fv]) (hgo:∀c h,y3 Tryz.prog fv [.v (.int .i32 c)] h (fun r h'=>h'=h∧r=bv (g c))):y9 Tryz.prog 169 [sv s,fv] [.glob 5 276 x3,.glob 6 279 y5] (fun r h'=>h'= [.glob 5 276 x3,.glob 6 279 y5]∧r=iv (zde s (zfg s g) 0:Nat)):=by
 refine z6 Tryz.func169 rfl rfl rfl ?_
 refine rn ?_;refine z7 rfl (x9 rfl hone rfl fun b3=> ?_)
 refine rn ?_;refine zht ?_;refine rn ?_;refine z7 rfl (x5 rfl fun b5=> ?_)
 refine rn ?_;refine z7 rfl (w8 rfl rfl (y3.of_fun (yly s _)) rfl ?_)
 rintro _ _ ⟨bs,rfl,rfl⟩
 refine rn ?_;refine zlo (fun pend h''=>(pend=none∨pend=some (.exit 0))∧h''= .box bs 9 [sv s]:: .box b5 3 [iv (zde s (zfg s g) 0:Nat)]:: .box b3 243 [fv]:: [.glob 5 276 x3,.glob 6 279 y5]) rfl (fun fn l q lp hlp=> ?_) (fun q h'' hK=> ?_) (fun q h'' c hK=> ?_)
 ·suffices hy:∀(i bi bc it:Nat) (L:List Res),i < s.size→L=lp .ready none:: .defs q:: .box b5 3 [iv s.size]:: .box b3 243 [fv]:: [.glob 5 276 x3,.glob 6 279 y5]→y3 Tryz.prog (yv l) [iv i,.fn (.func 220) [] [pZ bs,pZ bi,pZ bc]] (.box bc 21 [.v (.int .i32 (Utf8.decode s i).1)]:: .box bi 3 [iv (i:Nat)]:: .obj it (.stringIter s (i+(Utf8.decode s i).2)):: .box bs 9 [sv s]::L)
   (fun r h'=>∃L',h'= .box bc 21 [.v (.int .i32 (Utf8.decode s i).1)]:: .box bi 3 [iv (i:Nat)]:: .obj it (.stringIter s (i+(Utf8.decode s i).2)):: .box bs 9 [sv s]::L'∧((zfg s g i (Utf8.decode s i).1=true∧r=bv true∧L'=lp .ready none:: .defs q:: .box b5 3 [iv s.size]:: .box b3 243 [fv]:: [.glob 5 276 x3,.glob 6 279 y5])∨(zfg s g i (Utf8.decode s i).1=false∧r=bv false∧L'=lp .done (some (.exit 0)):: .defs q:: .box b5 3 [iv (i:Nat)]:: .box b3 243 [fv]:: [.glob 5 276 x3,.glob 6 279 y5]))) by
   refine y9.mono (y9.perm (pt2 _ _ _ _) (zv0 s bs (yv l) (zfg s g) _ (fun i L=>L=lp .done (some (.exit 0)):: .defs q:: .box b5 3 [iv (i:Nat)]:: .box b3 243 [fv]:: [.glob 5 276 x3,.glob 6 279 y5]) hy _ rfl)) ?_
   rintro _ _ ⟨L',rfl,⟨hw,rfl⟩|⟨hw,rfl⟩⟩
   ·exact ⟨_,_,_,(pt2 _ _ _ _).symm,by simp,.inl rfl,by rw [hw]⟩
   ·exact ⟨_,_,_,(pt2 _ _ _ _).symm,by simp,.inr rfl,rfl⟩
  rintro i bi bc it _ hi rfl
  refine y3.perm (pt4 _ _ _ _ _ _) (y3.permR (ztd hlp rfl rfl ?_))
  refine rn ?_;refine ⟨[(6,iv (i:Nat)),(7,.fn (.func 220) [] [pZ bs,pZ bi,pZ bc]),(5,pZ b5),(3,pZ b3)],x7 (.cons _ _ _ rfl (.cons _ _ _ rfl (.cons _ _ _ rfl (.cons _ _ _ rfl .nil)))),?_⟩
  refine rn ?_;refine qv rfl rfl (y4 rfl rfl (y3.qt (y3.of_acall (fs:= []) (cs:= [pZ bs,pZ bi,pZ bc]) (zzp s i (Utf8.decode s i).1 bs bi bc (by omega))) ((pt4 _ _ _ _ _ _).trans (.cons _ ((pt2 _ _ _ _).trans (.cons _ ((pt1 _ _ _).trans (.cons _ ((pt5 _ _ _ _ _ _ _).trans (.cons _ (pt5 _ _ _ _ _ _ _))))))))))) ?_
  refine rn ?_;refine q8 (fun hg6_2=> ?_) (fun hg6_2=> ?_)
  ·refine rn ?_;refine zry rfl ?_;refine rn ?_;exact zj8 (.refl _) ⟨_,((pt1 _ _ _).trans (.cons _ ((pt1 _ _ _).trans (.cons _ ((pt1 _ _ _).trans (.cons _ (pt1 _ _ _))))))),_,rfl,.inr ⟨by simp_all [zfg],rfl,rfl⟩⟩
  ·refine rn ?_;refine qv rfl rfl (y4 rfl rfl (hgo _ _)) ?_
   refine rn ?_;refine z8 rfl (fun hc28=> ?_) (fun hc28=> ?_)
   ·refine rn ?_;exact zj8 (.refl _) ⟨_,((pt1 _ _ _).trans (.cons _ ((pt1 _ _ _).trans (.cons _ ((pt1 _ _ _).trans (.cons _ (pt1 _ _ _))))))),_,rfl,.inr ⟨by simp_all [zfg],rfl,rfl⟩⟩
   ·refine rn ?_;exact zgw (.refl _) ⟨_,((pt1 _ _ _).trans (.cons _ ((pt1 _ _ _).trans (.cons _ ((pt1 _ _ _).trans (.cons _ (pt1 _ _ _))))))),_,rfl,.inl ⟨by simp_all [zfg],rfl,rfl⟩⟩
 ·obtain ⟨_,rfl⟩:=hK
  refine rn ?_;refine ⟨fun l h=>(by cases h),?_⟩
  exact zgf (.refl _) (.cons _ _ _ _ (.tmp _ _ rfl) .nil) (.drop [_,_,_] _ _) ⟨rfl,rfl⟩
 ·obtain ⟨hc,rfl⟩:=hK
  obtain rfl:c= .exit 0:=by simpa using hc
  refine rn ?_;refine ⟨fun l h=>(by cases h),?_⟩
  exact zgf (.refl _) (.cons _ _ _ _ (.tmp _ _ rfl) .nil) (.drop [_,_,_] _ _) ⟨rfl,rfl⟩
theorem bvz4_5179 {a b:Bool} (h:a=b:=by first|(simp only [wordB, *,Bool.true_and,Bool.false_and,Bool.and_false,Bool.and_true,Bool.true_or,Bool.or_false,Bool.false_or,Bool.or_true,if_true,if_false,Bool.false_eq_true,Bool.not_true,Bool.not_false];done)|(simp_all [wordB,zx4];done)):bv a=bv b:=congrArg bv h
theorem ynt (s:ByteArray):y9 Tryz.prog 130 [sv s] [.glob 5 276 x3,.glob 6 279 y5] (fun r h'=>h'= [.glob 5 276 x3,.glob 6 279 y5]∧r=bv (wordB s)):=by
 refine z6 Tryz.func130 rfl rfl rfl ?_
 refine rn ?_;refine q8 (fun hg1_2=> ?_) (fun hg1_2=> ?_)
 ·refine rn ?_;refine q8 (fun hg1_7=> ?_) (fun hg1_7=> ?_)
  ·refine rn ?_;have h1:0 < s.size:=zvo hg1_2
   refine qq rfl rfl (v7 0 rfl rfl (by omega)) ?_
   refine rn ?_;refine qv rfl rfl (y4 rfl rfl (zaf (zo4 _) (Sbs.refl _))) ?_
   refine rn ?_;refine q8 (fun hg1_14=> ?_) (fun hg1_14=> ?_)
   ·refine rn ?_;refine qv rfl rfl (y4 rfl rfl (y3.of_fun (yav s (.fn (.func 170) [] []) zk1 rfl (fun c h=>(zaf (zw0 c) (Sbs.refl _)))))) ?_
    refine rn ?_;exact j6 rfl (.refl _ _) ⟨rfl,bvz4_5179⟩
   ·refine rn ?_;exact j6 rfl (.refl _ _) ⟨rfl,bvz4_5179⟩
  ·refine rn ?_;exact j6 rfl (.refl _ _) ⟨rfl,bvz4_5179⟩
 ·refine rn ?_;exact j6 rfl (.refl _ _) ⟨rfl,bvz4_5179⟩
theorem yj9 (e:Ev) (h:Hist) (be bh:Nat):y9 Tryz.prog 175 [pZ be,pZ bh] [.box be 66 (evR e),.box bh 28 (x4 h)] (fun r h'=>h'= [.box be 66 (evR e),.box bh 28 (x4 h)]∧r= .tup [.agg (evR ⟨0,0,e.s,e.l,0,⟨0,0⟩,0,[]⟩),bv (zdb h e)]):=by
 refine z6 Tryz.func175 rfl rfl rfl ?_
 refine rn ?_;refine z7 rfl (x5 rfl fun b2=> ?_)
 refine rn ?_;refine zgd 16 [(b2,66,_)] rfl (List.perm_append_comm (l₁:= [_])) ?_
 refine rn ?_;refine dv rfl rfl (by exact y4 rfl rfl (zaf (zu3 _ 1 _ _ rfl (by decide)) (Sbs.refl _))) ?_
 refine rn ?_;refine zet (fun hg1_9=> ?_) (fun hg1_9=> ?_)
 ·refine rn ?_;refine dv rfl rfl (by exact y4 rfl rfl (zaf (zuk _) (Sbs.refl _))) ?_
  refine rn ?_;refine dw 0 rfl rfl rfl rfl rfl (Nat.le_of_ble_eq_true rfl) ?_
  refine rn2 ?_;show zca _ _ _ _ _ _ ⟨_,.box b2 66 _::_,_⟩
  refine rn ?_;exact zd7 (.cons _ _ _ _ (.agg _ _ _ _ _ _ _ rfl inferInstance inferInstance inferInstance rfl) (.cons _ _ _ _ (.tmp _ _ rfl) .nil)) (.trans (.drop1 _ _ _) (zbd (by exact Sb.aggs (by exact ⟨.refl _,.refl _,.refl _,.refl _,.refl _,.refl _,.refl _,.refl _,.nil _ _,trivial⟩)) (by exact .refl _))) ⟨rfl,congrArg (fun b=>AV.tup [.agg (evR ⟨0,0,e.s,e.l,0,⟨0,0⟩,0,[]⟩),bv b]) (by first|(simp only [zdb, *,Bool.true_and,Bool.false_and,Bool.and_false,Bool.and_true,Bool.true_or,Bool.or_false,Bool.false_or,Bool.or_true,if_true,if_false,Bool.false_eq_true,Bool.not_true,Bool.not_false];done)|(simp_all [zdb];done)|(simp_all [zdb] <;> omega))⟩
 ·refine rn ?_;refine dw 0 rfl rfl rfl rfl rfl (Nat.le_of_ble_eq_true rfl) ?_
  refine rn2 ?_;show zca _ _ _ _ _ _ ⟨_,.box b2 66 _::_,_⟩
  refine rn ?_;exact zd7 (.cons _ _ _ _ (.agg _ _ _ _ _ _ _ rfl inferInstance inferInstance inferInstance rfl) (.cons _ _ _ _ (.tmp _ _ rfl) .nil)) (.trans (.drop1 _ _ _) (zbd (by exact Sb.aggs (by exact ⟨.refl _,.refl _,.refl _,.refl _,.refl _,.refl _,.refl _,.refl _,.nil _ _,trivial⟩)) (by exact .refl _))) ⟨rfl,congrArg (fun b=>AV.tup [.agg (evR ⟨0,0,e.s,e.l,0,⟨0,0⟩,0,[]⟩),bv b]) (by first|(simp only [zdb, *,Bool.true_and,Bool.false_and,Bool.and_false,Bool.and_true,Bool.true_or,Bool.or_false,Bool.false_or,Bool.or_true,if_true,if_false,Bool.false_eq_true,Bool.not_true,Bool.not_false];done)|(simp_all [zdb];done)|(simp_all [zdb] <;> omega))⟩
theorem yj8 (e:Ev) (h:Hist) (be bh:Nat):y9 Tryz.prog 177 [pZ be,pZ bh] [.box be 66 (evR e),.box bh 28 (x4 h)] (fun r h'=>h'= [.box be 66 (evR e),.box bh 28 (x4 h)]∧r= .tup [.agg (evR ⟨0,0,0,0,e.o,e.v,0,[]⟩),bv (zba h e)]):=by
 refine z6 Tryz.func177 rfl rfl rfl ?_
 refine rn ?_;refine z7 rfl (x5 rfl fun b2=> ?_)
 refine rn ?_;refine zgd 30 [(b2,66,_)] rfl (List.perm_append_comm (l₁:= [_])) ?_
 refine rn ?_;refine dv rfl rfl (by exact y4 rfl rfl (zaf (zu3 _ 2 _ _ rfl (by decide)) (Sbs.refl _))) ?_
 refine rn ?_;refine zet (fun hg1_9=> ?_) (fun hg1_9=> ?_)
 ·refine rn ?_;refine dv rfl rfl (by exact y4 rfl rfl (zaf (zqf h e.v) (Sbs.refl _))) ?_
  refine rn ?_;refine zet (fun hg1_15=> ?_) (fun hg1_15=> ?_)
  ·refine rn ?_;refine zet (fun hg1_23=> ?_) (fun hg1_23=> ?_)
   ·refine rn ?_;refine dw 0 rfl rfl rfl rfl rfl (Nat.le_of_ble_eq_true rfl) ?_
    refine rn2 ?_;show zca _ _ _ _ _ _ ⟨_,.box b2 66 _::_,_⟩
    refine rn ?_;exact zd7 (.cons _ _ _ _ (.agg _ _ _ _ _ _ _ rfl inferInstance inferInstance inferInstance rfl) (.cons _ _ _ _ (.tmp _ _ rfl) .nil)) (.trans (.drop1 _ _ _) (zbd (by exact Sb.aggs (by exact ⟨.refl _,.refl _,.refl _,.refl _,.refl _,.refl _,.refl _,.refl _,.nil _ _,trivial⟩)) (by exact .refl _))) ⟨rfl,congrArg (fun b=>AV.tup [.agg (evR ⟨0,0,0,0,e.o,e.v,0,[]⟩),bv b]) (by first|(simp only [zba, *,Bool.true_and,Bool.false_and,Bool.and_false,Bool.and_true,Bool.true_or,Bool.or_false,Bool.false_or,Bool.or_true,if_true,if_false,Bool.false_eq_true,Bool.not_true,Bool.not_false];done)|(simp_all [zba];done)|(simp_all [zba] <;> omega))⟩
   ·refine rn ?_;refine dw 0 rfl rfl rfl rfl rfl (Nat.le_of_ble_eq_true rfl) ?_
    refine rn2 ?_;show zca _ _ _ _ _ _ ⟨_,.box b2 66 _::_,_⟩
    refine rn ?_;exact zd7 (.cons _ _ _ _ (.agg _ _ _ _ _ _ _ rfl inferInstance inferInstance inferInstance rfl) (.cons _ _ _ _ (.tmp _ _ rfl) .nil)) (.trans (.drop1 _ _ _) (zbd (by exact Sb.aggs (by exact ⟨.refl _,.refl _,.refl _,.refl _,.refl _,.refl _,.refl _,.refl _,.nil _ _,trivial⟩)) (by exact .refl _))) ⟨rfl,congrArg (fun b=>AV.tup [.agg (evR ⟨0,0,0,0,e.o,e.v,0,[]⟩),bv b]) (by first|(simp only [zba, *,Bool.true_and,Bool.false_and,Bool.and_false,Bool.and_true,Bool.true_or,Bool.or_false,Bool.false_or,Bool.or_true,if_true,if_false,Bool.false_eq_true,Bool.not_true,Bool.not_false];done)|(simp_all [zba];done)|(simp_all [zba] <;> omega))⟩
  ·refine rn ?_;refine dw 0 rfl rfl rfl rfl rfl (Nat.le_of_ble_eq_true rfl) ?_
   refine rn2 ?_;show zca _ _ _ _ _ _ ⟨_,.box b2 66 _::_,_⟩
   refine rn ?_;exact zd7 (.cons _ _ _ _ (.agg _ _ _ _ _ _ _ rfl inferInstance inferInstance inferInstance rfl) (.cons _ _ _ _ (.tmp _ _ rfl) .nil)) (.trans (.drop1 _ _ _) (zbd (by exact Sb.aggs (by exact ⟨.refl _,.refl _,.refl _,.refl _,.refl _,.refl _,.refl _,.refl _,.nil _ _,trivial⟩)) (by exact .refl _))) ⟨rfl,congrArg (fun b=>AV.tup [.agg (evR ⟨0,0,0,0,e.o,e.v,0,[]⟩),bv b]) (by first|(simp only [zba, *,Bool.true_and,Bool.false_and,Bool.and_false,Bool.and_true,Bool.true_or,Bool.or_false,Bool.false_or,Bool.or_true,if_true,if_false,Bool.false_eq_true,Bool.not_true,Bool.not_false];done)|(simp_all [zba];done)|(simp_all [zba] <;> omega))⟩
 ·refine rn ?_;refine dw 0 rfl rfl rfl rfl rfl (Nat.le_of_ble_eq_true rfl) ?_
  refine rn2 ?_;show zca _ _ _ _ _ _ ⟨_,.box b2 66 _::_,_⟩
  refine rn ?_;exact zd7 (.cons _ _ _ _ (.agg _ _ _ _ _ _ _ rfl inferInstance inferInstance inferInstance rfl) (.cons _ _ _ _ (.tmp _ _ rfl) .nil)) (.trans (.drop1 _ _ _) (zbd (by exact Sb.aggs (by exact ⟨.refl _,.refl _,.refl _,.refl _,.refl _,.refl _,.refl _,.refl _,.nil _ _,trivial⟩)) (by exact .refl _))) ⟨rfl,congrArg (fun b=>AV.tup [.agg (evR ⟨0,0,0,0,e.o,e.v,0,[]⟩),bv b]) (by first|(simp only [zba, *,Bool.true_and,Bool.false_and,Bool.and_false,Bool.and_true,Bool.true_or,Bool.or_false,Bool.false_or,Bool.or_true,if_true,if_false,Bool.false_eq_true,Bool.not_true,Bool.not_false];done)|(simp_all [zba];done)|(simp_all [zba] <;> omega))⟩
theorem yj7 (e:Ev) (h:Hist) (be bh:Nat):y9 Tryz.prog 179 [pZ be,pZ bh] [.box be 66 (evR e),.box bh 28 (x4 h)] (fun r h'=>h'= [.box be 66 (evR e),.box bh 28 (x4 h)]∧r= .tup [.agg (evR ⟨0,0,0,0,e.o,e.v,0,[]⟩),bv (zeg h e)]):=by
 refine z6 Tryz.func179 rfl rfl rfl ?_
 refine rn ?_;refine z7 rfl (x5 rfl fun b2=> ?_)
 refine rn ?_;refine zgd 16 [(b2,66,_)] rfl (List.perm_append_comm (l₁:= [_])) ?_
 refine rn ?_;refine dv rfl rfl (by exact y4 rfl rfl (zaf (zu3 _ 2 _ _ rfl (by decide)) (Sbs.refl _))) ?_
 refine rn ?_;refine zet (fun hg1_9=> ?_) (fun hg1_9=> ?_)
 ·refine rn ?_;refine dv rfl rfl (by exact y4 rfl rfl (zaf (zqf h e.v) (Sbs.refl _))) ?_
  refine rn ?_;refine dw 0 rfl rfl rfl rfl rfl (Nat.le_of_ble_eq_true rfl) ?_
  refine rn2 ?_;show zca _ _ _ _ _ _ ⟨_,.box b2 66 _::_,_⟩
  refine rn ?_;exact zd7 (.cons _ _ _ _ (.agg _ _ _ _ _ _ _ rfl inferInstance inferInstance inferInstance rfl) (.cons _ _ _ _ (.tmp _ _ rfl) .nil)) (.trans (.drop1 _ _ _) (zbd (by exact Sb.aggs (by exact ⟨.refl _,.refl _,.refl _,.refl _,.refl _,.refl _,.refl _,.refl _,.nil _ _,trivial⟩)) (by exact .refl _))) ⟨rfl,congrArg (fun b=>AV.tup [.agg (evR ⟨0,0,0,0,e.o,e.v,0,[]⟩),bv b]) (by first|(simp only [zeg, *,Bool.true_and,Bool.false_and,Bool.and_false,Bool.and_true,Bool.true_or,Bool.or_false,Bool.false_or,Bool.or_true,if_true,if_false,Bool.false_eq_true,Bool.not_true,Bool.not_false];done)|(simp_all [zeg];done)|(simp_all [zeg] <;> omega))⟩
 ·refine rn ?_;refine dw 0 rfl rfl rfl rfl rfl (Nat.le_of_ble_eq_true rfl) ?_
  refine rn2 ?_;show zca _ _ _ _ _ _ ⟨_,.box b2 66 _::_,_⟩
  refine rn ?_;exact zd7 (.cons _ _ _ _ (.agg _ _ _ _ _ _ _ rfl inferInstance inferInstance inferInstance rfl) (.cons _ _ _ _ (.tmp _ _ rfl) .nil)) (.trans (.drop1 _ _ _) (zbd (by exact Sb.aggs (by exact ⟨.refl _,.refl _,.refl _,.refl _,.refl _,.refl _,.refl _,.refl _,.nil _ _,trivial⟩)) (by exact .refl _))) ⟨rfl,congrArg (fun b=>AV.tup [.agg (evR ⟨0,0,0,0,e.o,e.v,0,[]⟩),bv b]) (by first|(simp only [zeg, *,Bool.true_and,Bool.false_and,Bool.and_false,Bool.and_true,Bool.true_or,Bool.or_false,Bool.false_or,Bool.or_true,if_true,if_false,Bool.false_eq_true,Bool.not_true,Bool.not_false];done)|(simp_all [zeg];done)|(simp_all [zeg] <;> omega))⟩
theorem yfz (s:Seen) (h:Hist) (bh:Nat):y9 Tryz.prog 181 [.agg (zaz s),pZ bh] [.box bh 28 (x4 h)] (fun r h'=>h'= [.box bh 28 (x4 h)]∧r=bv (ziz h s)):=by
 refine z6 Tryz.func181 rfl rfl rfl ?_
 refine rn ?_;refine z7 rfl (x9 rfl rfl rfl fun b2=> ?_)
 refine rn ?_;refine qv rfl rfl (y4 rfl rfl (zaf (zu3 _ 2 _ _ rfl (by decide)) (Sbs.refl _))) ?_
 refine rn ?_;refine q8 (fun hg1_4=> ?_) (fun hg1_4=> ?_)
 ·refine rn ?_;refine qv rfl rfl (y4 rfl rfl (zaf (zqf h s.v) (Sbs.refl _))) ?_
  refine rn ?_;exact j6 rfl (.drop1 _ _ _) ⟨rfl,congrArg bv (by first|(simp only [ziz, *,Bool.true_and,Bool.false_and,Bool.and_false,Bool.and_true,Bool.true_or,Bool.or_false,Bool.false_or,Bool.or_true,if_true,if_false,Bool.false_eq_true,Bool.not_true,Bool.not_false];done)|(simp_all [ziz];done)|(simp_all [ziz] <;> omega))⟩
 ·refine rn ?_;exact j6 rfl (.drop1 _ _ _) ⟨rfl,congrArg bv (by first|(simp only [ziz, *,Bool.true_and,Bool.false_and,Bool.and_false,Bool.and_true,Bool.true_or,Bool.or_false,Bool.false_or,Bool.or_true,if_true,if_false,Bool.false_eq_true,Bool.not_true,Bool.not_false];done)|(simp_all [ziz];done)|(simp_all [ziz] <;> omega))⟩
theorem yj6 (e:Ev) (h:Hist) (be bh:Nat) (hl:e.scan.length≤4611686018427387904):y9 Tryz.prog 180 [pZ bh,pZ be] [.box be 66 (evR e),.box bh 28 (x4 h)] (fun r h'=>h'= [.box be 66 (evR e),.box bh 28 (x4 h)]∧r= .tup [.agg (evR ⟨0,0,0,0,0,⟨0,0⟩,e.p,e.scan⟩),bv (zc1 h e)]):=by
 refine z6 Tryz.func180 rfl rfl rfl ?_
 refine rn ?_;refine z7 rfl (x5 rfl fun b2=> ?_)
 refine rn ?_;refine zgd 22 [(b2,66,_)] rfl (List.perm_append_comm (l₁:= [_])) ?_
 refine rn ?_;refine dv rfl rfl (by exact y4 rfl rfl (zaf (zu3 _ 3 _ _ rfl (by decide)) (Sbs.refl _))) ?_
 refine rn ?_;refine zet (fun hg2_9=> ?_) (fun hg2_9=> ?_)
 ·refine rn ?_;refine zet (fun hg2_15=> ?_) (fun hg2_15=> ?_)
  ·refine rn ?_;refine dv rfl rfl (by exact y4 rfl rfl (y3.of_fun (ygp e.scan (.fn (.func 181) [] [pZ bh]) (ziz h) [.box be 66 (evR e),.box bh 28 (x4 h)] rfl (fun s hs=>y3.quiet (R:=fun x=>x=bv (ziz h s)) (h2:= [_]) (List.perm_append_comm (l₁:= [_])) (y3.of_acall (fs:= []) (cs:= [pZ bh]) (yfz s h bh))) hl))) ?_
   refine rn ?_;refine dw 0 rfl rfl rfl rfl rfl (Nat.le_of_ble_eq_true rfl) ?_
   refine rn2 ?_;show zca _ _ _ _ _ _ ⟨_,.box b2 66 _::_,_⟩
   refine rn ?_;exact zd7 (.cons _ _ _ _ (.agg _ _ _ _ _ _ _ rfl inferInstance inferInstance inferInstance rfl) (.cons _ _ _ _ (.tmp _ _ rfl) .nil)) (.trans (.drop1 _ _ _) (zbd (by exact Sb.aggs (by exact ⟨.refl _,.refl _,.refl _,.refl _,.refl _,.refl _,.refl _,.refl _,.refl _,trivial⟩)) (by exact .refl _))) ⟨rfl,congrArg (fun b=>AV.tup [.agg (evR ⟨0,0,0,0,0,⟨0,0⟩,e.p,e.scan⟩),bv b]) (by first|(simp only [zc1, *,Bool.true_and,Bool.false_and,Bool.and_false,Bool.and_true,Bool.true_or,Bool.or_false,Bool.false_or,Bool.or_true,if_true,if_false,Bool.false_eq_true,Bool.not_true,Bool.not_false];done)|(simp_all [zc1];done)|(simp_all [zc1] <;> omega))⟩
  ·refine rn ?_;refine dw 0 rfl rfl rfl rfl rfl (Nat.le_of_ble_eq_true rfl) ?_
   refine rn2 ?_;show zca _ _ _ _ _ _ ⟨_,.box b2 66 _::_,_⟩
   refine rn ?_;exact zd7 (.cons _ _ _ _ (.agg _ _ _ _ _ _ _ rfl inferInstance inferInstance inferInstance rfl) (.cons _ _ _ _ (.tmp _ _ rfl) .nil)) (.trans (.drop1 _ _ _) (zbd (by exact Sb.aggs (by exact ⟨.refl _,.refl _,.refl _,.refl _,.refl _,.refl _,.refl _,.refl _,.refl _,trivial⟩)) (by exact .refl _))) ⟨rfl,congrArg (fun b=>AV.tup [.agg (evR ⟨0,0,0,0,0,⟨0,0⟩,e.p,e.scan⟩),bv b]) (by first|(simp only [zc1, *,Bool.true_and,Bool.false_and,Bool.and_false,Bool.and_true,Bool.true_or,Bool.or_false,Bool.false_or,Bool.or_true,if_true,if_false,Bool.false_eq_true,Bool.not_true,Bool.not_false];done)|(simp_all [zc1];done)|(simp_all [zc1] <;> omega))⟩
 ·refine rn ?_;refine dw 0 rfl rfl rfl rfl rfl (Nat.le_of_ble_eq_true rfl) ?_
  refine rn2 ?_;show zca _ _ _ _ _ _ ⟨_,.box b2 66 _::_,_⟩
  refine rn ?_;exact zd7 (.cons _ _ _ _ (.agg _ _ _ _ _ _ _ rfl inferInstance inferInstance inferInstance rfl) (.cons _ _ _ _ (.tmp _ _ rfl) .nil)) (.trans (.drop1 _ _ _) (zbd (by exact Sb.aggs (by exact ⟨.refl _,.refl _,.refl _,.refl _,.refl _,.refl _,.refl _,.refl _,.refl _,trivial⟩)) (by exact .refl _))) ⟨rfl,congrArg (fun b=>AV.tup [.agg (evR ⟨0,0,0,0,0,⟨0,0⟩,e.p,e.scan⟩),bv b]) (by first|(simp only [zc1, *,Bool.true_and,Bool.false_and,Bool.and_false,Bool.and_true,Bool.true_or,Bool.or_false,Bool.false_or,Bool.or_true,if_true,if_false,Bool.false_eq_true,Bool.not_true,Bool.not_false];done)|(simp_all [zc1];done)|(simp_all [zc1] <;> omega))⟩
theorem yj5  :y9 Tryz.prog 183 [] [] (fun r h'=>h'= []∧r= .tup [.agg (evR ⟨0,0,0,0,0,⟨0,0⟩,0,[]⟩),bv true]):=by
 refine z6 Tryz.func183 rfl rfl rfl ?_
 refine rn ?_;refine z7 rfl (x5 rfl fun b0=> ?_)
 refine rn ?_;exact zd7 (.cons _ _ _ _ (.agg _ _ _ _ _ _ _ rfl inferInstance inferInstance inferInstance rfl) (.cons _ _ _ _ (.tmp _ _ rfl) .nil)) (.trans (.drop1 _ _ _) (zbd (by exact Sb.aggs (by exact ⟨.refl _,.refl _,.refl _,.refl _,.refl _,.refl _,.refl _,.refl _,.nil _ _,trivial⟩)) (by exact .refl _))) ⟨rfl,congrArg (fun b=>AV.tup [.agg (evR ⟨0,0,0,0,0,⟨0,0⟩,0,[]⟩),bv b]) (by rfl)⟩
theorem yj4  :y9 Tryz.prog 184 [] [] (fun r h'=>h'= []∧r= .tup [.agg (evR ⟨0,0,0,0,0,⟨0,0⟩,0,[]⟩),bv true]):=by
 refine z6 Tryz.func184 rfl rfl rfl ?_
 refine rn ?_;refine z7 rfl (x5 rfl fun b0=> ?_)
 refine rn ?_;exact zd7 (.cons _ _ _ _ (.agg _ _ _ _ _ _ _ rfl inferInstance inferInstance inferInstance rfl) (.cons _ _ _ _ (.tmp _ _ rfl) .nil)) (.trans (.drop1 _ _ _) (zbd (by exact Sb.aggs (by exact ⟨.refl _,.refl _,.refl _,.refl _,.refl _,.refl _,.refl _,.refl _,.nil _ _,trivial⟩)) (by exact .refl _))) ⟨rfl,congrArg (fun b=>AV.tup [.agg (evR ⟨0,0,0,0,0,⟨0,0⟩,0,[]⟩),bv b]) (by rfl)⟩
theorem ybb (h:Hist) (e:Ev) (b2 b3 k:Nat) (hl:e.scan.length≤4611686018427387904) (hk:e.kind=k) (h1:1≤k) (h7:k < 7):
 ∃av,(([.v .nilFunc,.fn (.func 175) [] [pZ b3,pZ b2],.fn (.func 177) [] [pZ b3,pZ b2],.fn (.func 179) [] [pZ b3,pZ b2],.fn (.func 180) [] [pZ b2,pZ b3],.fn (.func 183) [] [],.fn (.func 184) [] []]):List AV)[k * 1]? =some av∧y3 Tryz.prog av [] [.box b3 66 (evR e),.box b2 28 (x4 h)] (fun r h'=>h'= [.box b3 66 (evR e),.box b2 28 (x4 h)]∧r= .tup [.agg (evR (zjt h e).1),bv (zjt h e).2]):=by
 rcases (by omega:k=1∨k=2∨k=3∨k=4∨k=5∨k=6) with rfl|rfl|rfl|rfl|rfl|rfl
 ·refine ⟨_,rfl,?_⟩
  have hc:zjt h e=(⟨0,0,e.s,e.l,0,⟨0,0⟩,0,[]⟩,zdb h e):=by unfold zjt;rw [hk];rfl
  rw [hc]
  exact y3.of_acall (fs:= []) (cs:= [pZ b3,pZ b2]) (yj9 e h b3 b2)
 ·refine ⟨_,rfl,?_⟩
  have hc:zjt h e=(⟨0,0,0,0,e.o,e.v,0,[]⟩,zba h e):=by unfold zjt;rw [hk];rfl
  rw [hc]
  exact y3.of_acall (fs:= []) (cs:= [pZ b3,pZ b2]) (yj8 e h b3 b2)
 ·refine ⟨_,rfl,?_⟩
  have hc:zjt h e=(⟨0,0,0,0,e.o,e.v,0,[]⟩,zeg h e):=by unfold zjt;rw [hk];rfl
  rw [hc]
  exact y3.of_acall (fs:= []) (cs:= [pZ b3,pZ b2]) (yj7 e h b3 b2)
 ·refine ⟨_,rfl,?_⟩
  have hc:zjt h e=(⟨0,0,0,0,0,⟨0,0⟩,e.p,e.scan⟩,zc1 h e):=by unfold zjt;rw [hk];rfl
  rw [hc]
  exact y3.of_acall (fs:= []) (cs:= [pZ b2,pZ b3]) (yj6 e h b3 b2 hl)
 ·refine ⟨_,rfl,?_⟩
  have hc:zjt h e=(⟨0,0,0,0,0,⟨0,0⟩,0,[]⟩,true):=by unfold zjt;rw [hk];rfl
  rw [hc]
  exact y3.pure (R:=fun x=>x=_) (y3.of_acall (fs:= []) (cs:= []) yj5)
 ·refine ⟨_,rfl,?_⟩
  have hc:zjt h e=(⟨0,0,0,0,0,⟨0,0⟩,0,[]⟩,true):=by unfold zjt;rw [hk];rfl
  rw [hc]
  exact y3.pure (R:=fun x=>x=_) (y3.of_acall (fs:= []) (cs:= []) yj4)
theorem bvz5_6036 {a b:Bool} (h:a=b:=by first|(simp only [zfx, *,Bool.true_and,Bool.false_and,Bool.and_false,Bool.and_true,Bool.true_or,Bool.or_false,Bool.false_or,Bool.or_true,if_true,if_false,Bool.false_eq_true,Bool.not_true,Bool.not_false];done)|(simp_all [zfx];done)|(simp_all [zfx] <;> omega)):bv a=bv b:=congrArg bv h
theorem ym2 (h:Hist) (e:Ev) (hl:e.scan.length≤4611686018427387904):y9 Tryz.prog 137 [.agg (x4 h),.agg (evR e)] [] (fun r h'=>h'= []∧r=bv (zfx h e)):=by
 refine z6 Tryz.func137 rfl rfl rfl ?_
 refine rn ?_;refine z7 rfl (x9 rfl rfl rfl fun b2=> ?_)
 refine z7 rfl (x9 rfl rfl rfl fun b3=> ?_)
 refine rn ?_;refine z7 rfl (x5 rfl fun b5=> ?_)
 refine rn ?_;refine q8 (fun hg2_3=> ?_) (fun hg2_3=> ?_)
 ·refine rn ?_;refine zry rfl ?_;refine rn ?_;exact j6 rfl (.drop [_,_,_] _ _) ⟨rfl,bvz5_6036⟩
 ·refine rn ?_;refine q8 (fun hg2_8=> ?_) (fun hg2_8=> ?_)
  ·refine rn ?_;refine zry rfl ?_;refine rn ?_;exact j6 rfl (.drop [_,_,_] _ _) ⟨rfl,bvz5_6036⟩
  ·refine rn ?_;refine qv rfl rfl (y4 rfl rfl (zaf (zu3 h 0 e.t _ rfl (by decide)) (Sbs.refl _))) ?_
   refine rn ?_;refine z8 rfl (fun hc27=> ?_) (fun hc27=> ?_)
   ·refine rn ?_;exact j6 rfl (.drop [_,_,_] _ _) ⟨rfl,bvz5_6036⟩
   ·have hlo:1≤e.kind:=by simpa using hg2_3
    have hhi:e.kind < 7:=by simpa using hg2_8
    obtain ⟨k,hk⟩:=Int.eq_ofNat_of_zero_le (show 0≤e.kind by omega)
    obtain ⟨av,hav,hfc⟩:=ybb h e b2 b3 k hl hk (by omega) (by omega)
    refine zad ?_;refine k6 ?_;refine w6 (y6 ?_)
    refine q1 ?_;refine q1 ?_;refine qq rfl rfl (u9 rfl (by rw [←hk];rfl) (by omega)) ?_
    refine qq rfl rfl (j3 rfl (by simpa using hav)) ?_
    refine qv rfl rfl (y4 rfl rfl (y3.quiet (R:=fun x=>x=_) (h2:= [_]) (List.perm_append_comm (l₁:= [_])) hfc)) ?_
    refine rn ?_;refine z7 rfl (x5 rfl fun b6=> ?_)
    refine rn ?_;refine zgd 6 [(b6,66,_)] rfl (List.perm_append_comm (l₁:= [_])) ?_
    refine rn ?_;refine dw 0 rfl rfl rfl rfl rfl (Nat.le_of_ble_eq_true rfl) ?_
    refine rn2 ?_;show zca _ _ _ _ _ _ ⟨_,[.box b6 66 _,.box b5 _ _,.box b3 66 (evR e),.box b2 28 (x4 h)],_⟩
    refine rn ?_;refine q8 (fun hg6_1=> ?_) (fun hg6_1=> ?_)
    ·refine rn ?_;refine qv rfl rfl (y4 rfl rfl (zaf (zoj {(zjt h e).1 with kind:=e.kind,t:=e.t} e (zx3 h e hl) hl) (by exact Sbs.refl _))) ?_
     refine rn ?_;exact j6 rfl (.drop [_,_,_,_] _ _) ⟨rfl,bvz5_6036⟩
    ·refine rn ?_;exact j6 rfl (.drop [_,_,_,_] _ _) ⟨rfl,bvz5_6036⟩
theorem zzk (h:Hist) (b:Nat) (t:Int):y9 Tryz.prog 133 [iv t,pZ b] [.box b 28 (x4 h)] (fun r h'=>h'= [.box b 28 (x4 h)]∧r=bv (zdf h.ts t)):=by
 refine z6 Tryz.func133 rfl rfl rfl ?_
 refine rn ?_;refine qv rfl rfl (y4 rfl rfl (zaf (zu3 h 0 _ _ rfl (by decide)) (Sbs.refl _))) ?_
 refine rn ?_;exact j6 rfl (.refl _ _) ⟨rfl,congrArg bv (by rfl)⟩
theorem zvv {full:Bool} (h:Hist) (b:Nat) (ts:List Int) (hl:ts.length≤4611686018427387904):y9 Tryz.prog 131 [.list full 1 (ts.map za8),pZ b] [.box b 28 (x4 h)] (fun r h'=>h'= [.box b 28 (x4 h)]∧r=bv (tsB h ts)):=by
 refine z6 Tryz.func131 rfl rfl rfl ?_
 refine rn ?_;refine q8 (fun hg1_3=> ?_) (fun hg1_3=> ?_)
 ·refine rn ?_;refine qv rfl rfl (y4 rfl rfl (y3.of_fun (yky ts (.fn (.func 133) [] [pZ b]) (zdf h.ts) [.box b 28 (x4 h)] rfl (fun t _=>y3.of_acall (fs:= []) (cs:= [pZ b]) (zzk h b t)) hl))) ?_
  refine rn ?_;exact j6 rfl (.refl _ _) ⟨rfl,congrArg bv (by first|(simp only [tsB, *,Bool.true_and,Bool.false_and,Bool.and_false,Bool.and_true,Bool.true_or,Bool.or_false,Bool.false_or,Bool.or_true,if_true,if_false,Bool.false_eq_true,Bool.not_true,Bool.not_false];done)|(simp_all [tsB];done)|(simp_all [tsB] <;> omega))⟩
 ·refine rn ?_;exact j6 rfl (.refl _ _) ⟨rfl,congrArg bv (by first|(simp only [tsB, *,Bool.true_and,Bool.false_and,Bool.and_false,Bool.and_true,Bool.true_or,Bool.or_false,Bool.false_or,Bool.or_true,if_true,if_false,Bool.false_eq_true,Bool.not_true,Bool.not_false];done)|(simp_all [tsB];done)|(simp_all [tsB] <;> omega))⟩
theorem ydx (h:Hist) (b:Nat) (e:Ev) (hl:e.scan.length≤4611686018427387904):y9 Tryz.prog 136 [.agg (evR e),pZ b] [.box b 28 (x4 h)] (fun r h'=>h'= [.box b 28 (x4 h)]∧r=bv (zfx h e)):=by
 refine z6 Tryz.func136 rfl rfl rfl ?_
 refine rn ?_;refine z7 rfl (x9 rfl rfl rfl fun b2=> ?_)
 refine rn ?_;refine qv rfl rfl (y4 rfl rfl (zaf (ym2 h e hl) (Sbs.refl _))) ?_
 refine rn ?_;exact j6 rfl (.drop1 _ _ _) ⟨rfl,congrArg bv (by rfl)⟩
theorem ydw (h:Hist) (b c:Nat) (m:H.Ord) (hl:m.ts.length≤4611686018427387904):y9 Tryz.prog 139 [.agg (zb7 m),pZ b,pZ c] [.box b 28 (x4 h),.box c 207 [.fn (.func 131) [] [pZ b]]] (fun r h'=>h'= [.box b 28 (x4 h),.box c 207 [.fn (.func 131) [] [pZ b]]]∧r=bv (zu4 h m)):=by
 refine z6 Tryz.func139 rfl rfl rfl ?_
 refine rn ?_;refine z7 rfl (x9 rfl rfl rfl fun b3=> ?_)
 refine rn ?_;refine qv rfl rfl (y4 rfl rfl (zaf (zu3 h 2 _ _ rfl (by decide)) (Sbs.refl _))) ?_
 refine rn ?_;refine q8 (fun hg1_4=> ?_) (fun hg1_4=> ?_)
 ·refine rn ?_;refine qv rfl rfl (y4 rfl rfl (y3.quiet (R:=fun x=>x=bv (tsB h m.ts)) (h2:= [_,_]) (List.Perm.swap _ _ _) (y3.of_acall (fs:= []) (cs:= [pZ b]) (zvv h b m.ts hl)))) ?_
  refine rn ?_;exact j6 rfl (.drop1 _ _ _) ⟨rfl,congrArg bv (by first|(simp only [zu4, *,Bool.true_and,Bool.false_and,Bool.and_false,Bool.and_true,Bool.true_or,Bool.or_false,Bool.false_or,Bool.or_true,if_true,if_false,Bool.false_eq_true,Bool.not_true,Bool.not_false];done)|(simp_all [zu4];done)|(simp_all [zu4] <;> omega))⟩
 ·refine rn ?_;exact j6 rfl (.drop1 _ _ _) ⟨rfl,congrArg bv (by first|(simp only [zu4, *,Bool.true_and,Bool.false_and,Bool.and_false,Bool.and_true,Bool.true_or,Bool.or_false,Bool.false_or,Bool.or_true,if_true,if_false,Bool.false_eq_true,Bool.not_true,Bool.not_false];done)|(simp_all [zu4];done)|(simp_all [zu4] <;> omega))⟩
theorem bvz6_8350 {a b:Bool} (h:a=b:=by first|(simp only [yam, *,Bool.true_and,Bool.false_and,Bool.and_false,Bool.and_true,Bool.true_or,Bool.or_false,Bool.false_or,Bool.or_true,if_true,if_false,Bool.false_eq_true,Bool.not_true,Bool.not_false];done)|(simp_all [yam];done)|(simp_all [yam] <;> omega)):bv a=bv b:=congrArg bv h
theorem ydv (h:Hist) (b c:Nat) (m:Mat) (hl:m.ts.length≤4611686018427387904):y9 Tryz.prog 141 [.agg (zcc m),pZ b,pZ c] [.box b 28 (x4 h),.box c 207 [.fn (.func 131) [] [pZ b]]] (fun r h'=>h'= [.box b 28 (x4 h),.box c 207 [.fn (.func 131) [] [pZ b]]]∧r=bv (yam h m)):=by
 refine z6 Tryz.func141 rfl rfl rfl ?_
 refine rn ?_;refine z7 rfl (x9 rfl rfl rfl fun b3=> ?_)
 refine rn ?_;refine qv rfl rfl (y4 rfl rfl (zaf (zu3 h 3 _ _ rfl (by decide)) (Sbs.refl _))) ?_
 refine rn ?_;refine q8 (fun hg1_4=> ?_) (fun hg1_4=> ?_)
 ·refine rn ?_;refine qv rfl rfl (y4 rfl rfl (zaf (zu3 h 2 _ _ rfl (by decide)) (Sbs.refl _))) ?_
  refine rn ?_;refine q8 (fun hg1_10=> ?_) (fun hg1_10=> ?_)
  ·refine rn ?_;refine qv rfl rfl (y4 rfl rfl (y3.quiet (R:=fun x=>x=bv (tsB h m.ts)) (h2:= [_,_]) (List.Perm.swap _ _ _) (y3.of_acall (fs:= []) (cs:= [pZ b]) (zvv h b m.ts hl)))) ?_
   refine rn ?_;exact j6 rfl (.drop1 _ _ _) ⟨rfl,bvz6_8350⟩
  ·refine rn ?_;exact j6 rfl (.drop1 _ _ _) ⟨rfl,bvz6_8350⟩
 ·refine rn ?_;exact j6 rfl (.drop1 _ _ _) ⟨rfl,bvz6_8350⟩
theorem bvz7_4808 {a b:Bool} (h:a=b:=by first|(simp only [zvh, *,Bool.true_and,Bool.false_and,Bool.and_false,Bool.and_true,Bool.true_or,Bool.or_false,Bool.false_or,Bool.or_true,if_true,if_false,Bool.false_eq_true,Bool.not_true,Bool.not_false];done)|(simp_all [zvh];done)|(simp_all [zvh] <;> omega)):bv a=bv b:=congrArg bv h
theorem ydu (h:Hist) (b:Nat) (w:Wan):y9 Tryz.prog 143 [.agg (zbi w),pZ b] [.box b 28 (x4 h)] (fun r h'=>h'= [.box b 28 (x4 h)]∧r=bv (zvh h w)):=by
 refine z6 Tryz.func143 rfl rfl rfl ?_
 refine rn ?_;refine z7 rfl (x9 rfl rfl rfl fun b2=> ?_)
 refine rn ?_;refine qv rfl rfl (y4 rfl rfl (zaf (zu3 h 1 _ _ rfl (by decide)) (Sbs.refl _))) ?_
 refine rn ?_;refine q8 (fun hg1_4=> ?_) (fun hg1_4=> ?_)
 ·refine rn ?_;refine q8 (fun hg1_9=> ?_) (fun hg1_9=> ?_)
  ·refine rn ?_;exact j6 rfl (.drop1 _ _ _) ⟨rfl,bvz7_4808⟩
  ·refine rn ?_;exact j6 rfl (.drop1 _ _ _) ⟨rfl,bvz7_4808⟩
 ·refine rn ?_;exact j6 rfl (.drop1 _ _ _) ⟨rfl,bvz7_4808⟩
theorem bvz8_9624 {a b:Bool} (h:a=b:=by first|(simp only [zav, *,Bool.true_and,Bool.false_and,Bool.and_false,Bool.and_true,Bool.true_or,Bool.or_false,Bool.false_or,Bool.or_true,if_true,if_false,Bool.false_eq_true,Bool.not_true,Bool.not_false];done)|(simp_all [zav];done)):bv a=bv b:=congrArg bv h
theorem yhq (h:Hist) (la:Lim 4611686018427387904 h):y9 Tryz.prog 103 [.agg (x4 h)] [.glob 3 148 y8,.glob 5 276 x3,.glob 6 279 y5] (fun r h'=>h'= [.glob 3 148 y8,.glob 5 276 x3,.glob 6 279 y5]∧r=bv (zav h)):=by
 refine z6 Tryz.func103 rfl rfl rfl ?_
 refine rn ?_;refine z7 rfl (x9 rfl rfl rfl fun b1=> ?_)
 refine rn ?_;refine zht ?_;refine zgt (⟨[(1,pZ b1),(3,bv (okK h 0))],.box b1 28 (x4 h):: [.glob 3 148 y8,.glob 5 276 x3,.glob 6 279 y5],[]⟩) ?_ ?_
 ·refine rn ?_;refine q8 (fun hg1_4=> ?_) (fun hg1_4=> ?_)
  ·refine rn ?_;rw [show okK h 0=_ from zsl h,hg1_4]
   exact (x7 (.cons _ _ _ rfl (.cons _ _ _ rfl (.nil))))
  ·refine rn ?_;rw [show okK h 0=_ from zsl h,hg1_4]
   exact (x7 (.cons _ _ _ rfl (.cons _ _ _ rfl (.nil))))
 ·refine w6 ?_;refine ztn ?_;refine rn0 ?_;refine zgt (⟨[(3,bv (okK h 4)),(1,pZ b1)],.box b1 28 (x4 h):: [.glob 3 148 y8,.glob 5 276 x3,.glob 6 279 y5],[]⟩) ?_ ?_
  ·refine rn ?_;refine qv rfl rfl (y4 rfl rfl (zaf (zwk _) (Sbs.refl _))) ?_
   refine rn ?_;refine u5 (fun k:Nat=>k≤4) (fun k=>⟨[(29,iv k),(28,.agg (zgl h)),(1,pZ b1),(3,bv (okK h k))],.box b1 28 (x4 h):: [.glob 3 148 y8,.glob 5 276 x3,.glob 6 279 y5],[]⟩) (fun k=>4 - k) 0 (by omega)
    (x7 (.cons _ _ _ rfl (.cons _ _ _ rfl (.cons _ _ _ rfl (.cons _ _ _ rfl (.nil)))))) ?_
   rintro k hk
   refine rn ?_;refine z8 rfl (fun hc30=> ?_) (fun hc30=> ?_)
   ·have hk4:k < 4:=by simp at hc30;omega
    refine zad ?_;refine k6 ?_;refine w6 ?_;refine zae ?_;refine w6 (y6 ?_)
    refine q1 ?_;refine qq rfl rfl (zcn rfl rfl (by omega) (by have:=zm2 h hk4;simpa using this)) ?_
    refine rn ?_;refine z7 rfl (zau (enc:=zvp) rfl fun b33=> ?_)
    refine rn0 ?_;refine zgt (⟨[(5,zbv (nmK h k)),(3,bv (okj h k 0)),(6,.v (.map (some b33))),(29,iv k),(28,.agg (zgl h)),(1,pZ b1)],.map b33 (j9 zvp []):: .box b1 28 (x4 h):: [.glob 3 148 y8,.glob 5 276 x3,.glob 6 279 y5],[]⟩) ?_ ?_
    ·refine rn ?_;refine q8 (fun hg6_1=> ?_) (fun hg6_1=> ?_)
     ·refine q1 ?_;refine q1 ?_;refine q1 ?_;refine qq rfl rfl (u9 rfl rfl (by omega)) ?_
      refine qq rfl rfl (j3 rfl (zrd hk4)) ?_
      refine rn ?_;rw [yb8 h k,hg6_1]
      first|exact (x7 (.cons _ _ _ rfl (.cons _ _ _ rfl (.cons _ _ _ rfl (.cons _ _ _ rfl (.cons _ _ _ rfl (.cons _ _ _ rfl (.nil))))))))|(rw [Bool.true_and];exact (x7 (.cons _ _ _ rfl (.cons _ _ _ rfl (.cons _ _ _ rfl (.cons _ _ _ rfl (.cons _ _ _ rfl (.cons _ _ _ rfl (.nil)))))))))
     ·refine rn ?_;rw [yb8 h k,hg6_1]
      first|exact (x7 (.cons _ _ _ rfl (.cons _ _ _ rfl (.cons _ _ _ rfl (.cons _ _ _ rfl (.cons _ _ _ rfl (.cons _ _ _ rfl (.nil))))))))|(rw [Bool.true_and];exact (x7 (.cons _ _ _ rfl (.cons _ _ _ rfl (.cons _ _ _ rfl (.cons _ _ _ rfl (.cons _ _ _ rfl (.cons _ _ _ rfl (.nil)))))))))
    ·refine rn ?_;refine u5 (fun j:Nat=>j≤(nmK h k).length∧(0 < j→okj h k 0=true)∧zea [] (nmK h k)=zea ((nmK h k).take j) ((nmK h k).drop j)) (fun j=>⟨[(45,iv j),(43,zbv (nmK h k)),(44,iv ((nmK h k).map zay).length),(3,bv (okj h k 0)),(6,.v (.map (some b33))),(29,iv k),(28,.agg (zgl h)),(1,pZ b1)],.map b33 (j9 zvp (ycc ((nmK h k).take j))):: .box b1 28 (x4 h):: [.glob 3 148 y8,.glob 5 276 x3,.glob 6 279 y5],[]⟩) (fun j=>(nmK h k).length - j) 0 ⟨by omega,by omega,by simp⟩
      (x7 (.cons _ _ _ rfl (.cons _ _ _ rfl (.cons _ _ _ rfl (.cons _ _ _ rfl (.cons _ _ _ rfl (.cons _ _ _ rfl (.cons _ _ _ rfl (.cons _ _ _ rfl (.nil)))))))))) ?_
     rintro j ⟨hj,hok,hf⟩
     have hlk:=la.nm k
     refine rn ?_;refine z8 rfl (fun hc46=> ?_) (fun hc46=> ?_)
     ·have hj2:j < (nmK h k).length:=by simpa using hc46
      have hrow:(zbv (nmK h k))= .list false 1 ((nmK h k).map zay):=rfl
      have hrow2:((nmK h k).map zay)[j]? =some (zay (nmK h k)[j]):=by simp [hj2]
      have hd:=List.drop_eq_getElem_cons hj2
      refine zad ?_;refine rn0 ?_;refine w6 ?_;refine zae ?_;refine w6 (y6 ?_)
      refine rn0 ?_;refine w6 ?_;refine zgt (⟨[(3,bv (okj h k 0 && wordB (nmK h k)[j] && !yaj (nmK h k)[j] ((nmK h k).take j))),(8,sv (nmK h k)[j]),(45,iv j),(43,zbv (nmK h k)),(44,iv ((nmK h k).map zay).length),(6,.v (.map (some b33))),(29,iv k),(28,.agg (zgl h)),(1,pZ b1)],.map b33 (j9 zvp (ycc ((nmK h k).take j))):: .box b1 28 (x4 h):: [.glob 3 148 y8,.glob 5 276 x3,.glob 6 279 y5],[]⟩) ?_ ?_
      ·refine rn ?_;refine q8 (fun hg10_1=> ?_) (fun hg10_1=> ?_)
       ·refine rn ?_;refine qv rfl rfl (y4 rfl rfl (y3.qt (y3.of_fun (ynt ((nmK h k)[j]))) ((pt3 _ _ _ _ _).trans (.cons _ (pt3 _ _ _ _ _))))) ?_
        refine rn ?_;refine q8 (fun hg10_5=> ?_) (fun hg10_5=> ?_)
        ·refine rn ?_;refine qq rfl rfl (zoo (enc:=zvp) (k:=(nmK h k)[j]) rfl rfl (zuj _ _)) ?_
         refine rn ?_;first|(rw [hg10_1,hg10_5];exact (x7 (.cons _ _ _ rfl (.cons _ _ _ rfl (.cons _ _ _ rfl (.cons _ _ _ rfl (.cons _ _ _ rfl (.cons _ _ _ rfl (.cons _ _ _ rfl (.cons _ _ _ rfl (.cons _ _ _ rfl (.nil))))))))))))|(rw [hg10_1];exact (x7 (.cons _ _ _ rfl (.cons _ _ _ rfl (.cons _ _ _ rfl (.cons _ _ _ rfl (.cons _ _ _ rfl (.cons _ _ _ rfl (.cons _ _ _ rfl (.cons _ _ _ rfl (.cons _ _ _ rfl (.nil))))))))))))
        ·refine rn ?_;first|(rw [hg10_1,hg10_5];exact (x7 (.cons _ _ _ rfl (.cons _ _ _ rfl (.cons _ _ _ rfl (.cons _ _ _ rfl (.cons _ _ _ rfl (.cons _ _ _ rfl (.cons _ _ _ rfl (.cons _ _ _ rfl (.cons _ _ _ rfl (.nil))))))))))))|(rw [hg10_1];exact (x7 (.cons _ _ _ rfl (.cons _ _ _ rfl (.cons _ _ _ rfl (.cons _ _ _ rfl (.cons _ _ _ rfl (.cons _ _ _ rfl (.cons _ _ _ rfl (.cons _ _ _ rfl (.cons _ _ _ rfl (.nil))))))))))))
       ·refine rn ?_;first|(rw [hg10_1,hg10_5];exact (x7 (.cons _ _ _ rfl (.cons _ _ _ rfl (.cons _ _ _ rfl (.cons _ _ _ rfl (.cons _ _ _ rfl (.cons _ _ _ rfl (.cons _ _ _ rfl (.cons _ _ _ rfl (.cons _ _ _ rfl (.nil))))))))))))|(rw [hg10_1];exact (x7 (.cons _ _ _ rfl (.cons _ _ _ rfl (.cons _ _ _ rfl (.cons _ _ _ rfl (.cons _ _ _ rfl (.cons _ _ _ rfl (.cons _ _ _ rfl (.cons _ _ _ rfl (.cons _ _ _ rfl (.nil))))))))))))
      ·refine rn ?_;refine z8 rfl (fun hc61=> ?_) (fun hc61=> ?_)
       ·have hfl:(okj h k 0 && wordB (nmK h k)[j] && !yaj (nmK h k)[j] ((nmK h k).take j))=false:=zkj hc61
        have hbad:okK h 4=false:=yis hk4 (ymc (hf.trans (by rw [hd])) hfl)
        refine rn ?_;first
         |exact (x7 (.cons _ _ _ rfl (.cons _ _ _ rfl (.nil))))
         |(rw [hbad,←hfl];exact (w7 (zas (h1:= [_])) (x7 (.cons _ _ _ rfl (.cons _ _ _ rfl (.nil))))))
       ·obtain ⟨hok2,hw,hfresh⟩:=yit (zkk hc61)
        refine rn ?_;refine z7 rfl (ziq (enc:=zvp) (k:=(nmK h k)[j]) rfl rfl rfl ?_)
        refine rn ?_;have hu:=zr7 ((nmK h k)[j]) ((nmK h k).take j) (yiy.1 hfresh)
        rw [←List.take_succ_eq_append_getElem hj2] at hu
        exact ⟨j+1,⟨by omega,fun _=>hok2,by rw [hf,hd,zea,hw,List.take_succ_eq_append_getElem hj2];simp [hfresh]⟩,by simp only [hu,hok2,hw,hfresh,Bool.true_and,Bool.not_false];exact (x7 (.cons _ _ _ rfl (.cons _ _ _ rfl (.cons _ _ _ rfl (.cons _ _ _ rfl (.cons _ _ _ rfl (.cons _ _ _ rfl (.cons _ _ _ rfl (.cons _ _ _ rfl (.nil)))))))))),by omega⟩
     ·have hj3:j=(nmK h k).length:=by
       have:(nmK h k).length≤j:=by simpa using hc46
       omega
      refine rn ?_;have hend:=yir (h:=h) (k:=k) (by rw [hf,hj3,List.drop_length];rfl)
      exact ⟨k+1,by omega,by rw [←hend];exact (w7 (zas (h1:= [_])) (x7 (.cons _ _ _ rfl (.cons _ _ _ rfl (.cons _ _ _ rfl (.cons _ _ _ rfl (.nil))))))),by omega⟩
   ·have hk4:k=4:=by simp at hc30;omega
    subst hk4
    refine rn ?_;first
     |exact (x7 (.cons _ _ _ rfl (.cons _ _ _ rfl (.nil))))
     |(rw [hbad,←hfl];exact (w7 (zas (h1:= [_])) (x7 (.cons _ _ _ rfl (.cons _ _ _ rfl (.nil))))))
  ·refine rn ?_;refine z7 rfl (x5 rfl fun b9=> ?_)
   refine rn ?_;refine q8 (fun hg16_1=> ?_) (fun hg16_1=> ?_)
   ·refine rn ?_;refine qv rfl rfl (y4 rfl rfl (y3.of_fun (yne h.evs (.fn (.func 136) [] [pZ b1]) (zfx h) (.box b9 207 [.fn (.func 131) [] [pZ b1]]:: .box b1 28 (x4 h):: [.glob 3 148 y8,.glob 5 276 x3,.glob 6 279 y5]) rfl (fun e he=>y3.qt (y3.of_acall (fs:= []) (cs:= [pZ b1]) (ydx h b1 e (la.scans e he))) (pt1 _ _ _)) la.evs))) ?_
    refine rn ?_;refine q8 (fun hg16_7=> ?_) (fun hg16_7=> ?_)
    ·refine rn ?_;refine qv rfl rfl (y4 rfl rfl (y3.of_fun (ykw h.ords (.fn (.func 139) [] [pZ b1,pZ b9]) (zu4 h) (.box b9 207 [.fn (.func 131) [] [pZ b1]]:: .box b1 28 (x4 h):: [.glob 3 148 y8,.glob 5 276 x3,.glob 6 279 y5]) rfl (fun e he=>y3.qt (y3.of_acall (fs:= []) (cs:= [pZ b1,pZ b9]) (ydw h b1 b9 e (la.ordts e he))) (pt1 _ _ _)) la.ords))) ?_
     refine rn ?_;refine q8 (fun hg16_13=> ?_) (fun hg16_13=> ?_)
     ·refine rn ?_;refine qv rfl rfl (y4 rfl rfl (y3.of_fun (ykx h.mats (.fn (.func 141) [] [pZ b1,pZ b9]) (yam h) (.box b9 207 [.fn (.func 131) [] [pZ b1]]:: .box b1 28 (x4 h):: [.glob 3 148 y8,.glob 5 276 x3,.glob 6 279 y5]) rfl (fun e he=>y3.qt (y3.of_acall (fs:= []) (cs:= [pZ b1,pZ b9]) (ydv h b1 b9 e (la.matts e he))) (pt1 _ _ _)) la.mats))) ?_
      refine rn ?_;refine q8 (fun hg16_19=> ?_) (fun hg16_19=> ?_)
      ·refine rn ?_;refine qv rfl rfl (y4 rfl rfl (y3.of_fun (ykv h.wants (.fn (.func 143) [] [pZ b1]) (zvh h) (.box b9 207 [.fn (.func 131) [] [pZ b1]]:: .box b1 28 (x4 h):: [.glob 3 148 y8,.glob 5 276 x3,.glob 6 279 y5]) rfl (fun e he=>y3.qt (y3.of_acall (fs:= []) (cs:= [pZ b1]) (ydu h b1 e)) (pt1 _ _ _)) la.wants))) ?_
       refine rn ?_;refine ⟨fun l h=>(by cases h),?_⟩
       exact j6 rfl (.drop [_,_] _ _) ⟨rfl,bvz8_9624⟩
      ·refine rn ?_;refine ⟨fun l h=>(by cases h),?_⟩
       exact j6 rfl (.drop [_,_] _ _) ⟨rfl,bvz8_9624⟩
     ·refine rn ?_;refine ⟨fun l h=>(by cases h),?_⟩
      exact j6 rfl (.drop [_,_] _ _) ⟨rfl,bvz8_9624⟩
    ·refine rn ?_;refine ⟨fun l h=>(by cases h),?_⟩
     exact j6 rfl (.drop [_,_] _ _) ⟨rfl,bvz8_9624⟩
   ·refine rn ?_;refine ⟨fun l h=>(by cases h),?_⟩
    exact j6 rfl (.drop [_,_] _ _) ⟨rfl,bvz8_9624⟩
theorem zt2 {σ:Type} (step:σ→Nat×Int→Option σ) (ok:Nat×Int→Prop) (IJ:Option σ→List Res→Prop) (y:AV) (hy:∀(s:σ) (L:List Res) (sort:Nat) (n:Int) (cells:List AV),ok (sort,n)→IJ (some s) L→y3 Tryz.prog y [iv sort,.pp (iv n::cells)] L (fun r h'=>r=bv (step s (sort,n)).isSome∧IJ (step s (sort,n)) h')) (sort:Nat) (n:Int) (hs:ok (sort,n)) (cells:List AV) (bm by_:Nat) (st:Option σ) (L:List Res) (hI:IJ st L):y9 Tryz.prog 145 [iv sort,.pp (iv n::cells),pZ bm,pZ by_] (.box bm 4 [bv (st).isSome]:: .box by_ 215 [y]::L) (fun r h'=>∃L',IJ (goes step st [(sort,n)]) L'∧h'= .box bm 4 [bv (goes step st [(sort,n)]).isSome]:: .box by_ 215 [y]::L'):=by
 refine z6 Tryz.func145 rfl rfl rfl ?_
 refine rn ?_;refine q8 (fun hg0_1=> ?_) (fun hg0_1=> ?_)
 ·refine rn ?_;obtain ⟨s,rfl⟩:=Option.isSome_iff_exists.1 hg0_1
  refine z7 rfl (w8 rfl rfl (y3.fr2 (hy s L sort n cells hs hI)) rfl ?_)
  rintro _ _ ⟨L2,rfl,rfl,hI2⟩
  refine rn ?_;first
   |exact zdw .nil (.refl _ _) ⟨L2,hI2,rfl⟩
   |(obtain rfl:=Option.not_isSome_iff_eq_none.1 (show ¬st.isSome=true by simp [hg0_1])
     exact zdw .nil (.refl _ _) ⟨L,hI,rfl⟩)
 ·refine rn ?_;first
   |exact zdw .nil (.refl _ _) ⟨L2,hI2,rfl⟩
   |(obtain rfl:=Option.not_isSome_iff_eq_none.1 (show ¬st.isSome=true by simp [hg0_1])
     exact zdw .nil (.refl _ _) ⟨L,hI,rfl⟩)
theorem ye1 {σ:Type} (step:σ→Nat×Int→Option σ) (ok:Nat×Int→Prop) (IJ:Option σ→List Res→Prop) (y:AV) (hy:∀(s:σ) (L:List Res) (sort:Nat) (n:Int) (cells:List AV),ok (sort,n)→IJ (some s) L→y3 Tryz.prog y [iv sort,.pp (iv n::cells)] L (fun r h'=>r=bv (step s (sort,n)).isSome∧IJ (step s (sort,n)) h')) (v:Ver) (hv:∀x∈ze5 v,ok x) (cells:List AV) (bs bm by_:Nat) (st:Option σ) (L:List Res) (hI:IJ st L):y9 Tryz.prog 146 [.pp (iv v.t::iv v.k::cells),pZ bs] (.box bs 216 [.fn (.func 145) [] [pZ bm,pZ by_]]:: .box bm 4 [bv (st).isSome]:: .box by_ 215 [y]::L) (fun r h'=>∃L',IJ (goes step st (ze5 v)) L'∧h'= .box bs 216 [.fn (.func 145) [] [pZ bm,pZ by_]]:: .box bm 4 [bv (goes step st (ze5 v)).isSome]:: .box by_ 215 [y]::L'):=by
 refine z6 Tryz.func146 rfl rfl rfl ?_
 refine rn ?_;refine z8 rfl (fun hc7=> ?_) (fun hc7=> ?_)
 ·refine j4 4 rfl ?_
  refine rn ?_;refine z7 rfl (w8 rfl rfl (y3.fr1 (y3.of_acall (fs:= []) (cs:= [pZ bm,pZ by_]) (zt2 step ok IJ y hy 0 v.t (hv _ (by rw [ze5,if_pos hc7];simp)) (iv v.k::cells) bm by_ _ _ hI))) rfl ?_)
  rintro _ _ ⟨_,rfl,L2,hI2,rfl⟩
  refine rn ?_;first
   |(have hm:ze5 v= [(0,v.t)]:=by rw [ze5,if_pos hc7]
     rw [hm];exact zdw .nil (.refl _ _) ⟨L2,hI2,rfl⟩)
   |(have hm:ze5 v= []:=by rw [ze5,if_neg (by rw [hc7];decide)]
     rw [hm];exact zdw .nil (.refl _ _) ⟨L,hI,rfl⟩)
 ·refine rn ?_;first
   |(have hm:ze5 v= [(0,v.t)]:=by rw [ze5,if_pos hc7]
     rw [hm];exact zdw .nil (.refl _ _) ⟨L2,hI2,rfl⟩)
   |(have hm:ze5 v= []:=by rw [ze5,if_neg (by rw [hc7];decide)]
     rw [hm];exact zdw .nil (.refl _ _) ⟨L,hI,rfl⟩)
theorem ydp {σ:Type} (step:σ→Nat×Int→Option σ) (ok:Nat×Int→Prop) (IJ:Option σ→List Res→Prop) (y:AV) (hone:y.cellsOf=some [y]) (hy:∀(s:σ) (L:List Res) (sort:Nat) (n:Int) (cells:List AV),ok (sort,n)→IJ (some s) L→y3 Tryz.prog y [iv sort,.pp (iv n::cells)] L (fun r h'=>r=bv (step s (sort,n)).isSome∧IJ (step s (sort,n)) h')) (h:Hist) (la:Lim 4611686018427387904 h) (b1 bh:Nat) (hok:∀x∈zcb h,ok x) (s0:σ) (L0:List Res) (h0:IJ (some s0) L0):y9 Tryz.prog 144 [y,pZ b1] (.box b1 168 [pZ bh]:: .box bh 28 (x4 h)::L0) (fun r h'=>∃L',IJ (goes step (some s0) (zcb h)) L'∧h'= .box b1 168 [pZ bh]:: .box bh 28 (x4 h)::L'):=by
 refine z6 Tryz.func144 rfl rfl rfl ?_
 refine rn ?_;refine z7 rfl (x9 rfl hone rfl fun by_=> ?_)
 refine rn ?_;refine z7 rfl (x5 rfl fun bm=> ?_)
 refine rn ?_;refine z7 rfl (x5 rfl fun bs=> ?_)
 refine rn ?_;refine u5 (fun x:Nat×Option σ×List Res=>x.1≤h.evs.length∧IJ x.2.1 x.2.2∧Rem step ok x.2.1 (((h.evs.drop x.1).flatMap evL)++(h.ords.flatMap zz8++(h.mats.flatMap zwq++h.wants.flatMap zqe))) (goes step (some s0) (zcb h))) (fun x=>⟨[(22,iv x.1),(21,iv (h.evs.map evR).length),(1,pZ b1),(4,pZ bs),(5,.fn (.func 146) [] [pZ bs])],.box b1 168 [pZ bh]:: .box bh 28 (x4 h):: .box bs 216 [.fn (.func 145) [] [pZ bm,pZ by_]]:: .box bm 4 [bv (x.2.1).isSome]:: .box by_ 215 [y]::x.2.2,[]⟩) (fun x=>h.evs.length - x.1) (0,some s0,L0) ⟨by omega,h0,rfl,hok⟩
  (w7 (k8 ((pt3 _ _ _ _ _).trans (.cons _ (pt3 _ _ _ _ _)))) (x7 (.cons _ _ _ rfl (.cons _ _ _ rfl (.cons _ _ _ rfl (.cons _ _ _ rfl (.cons _ _ _ rfl (.nil)))))))) ?_
 rintro ⟨k,st,L⟩ ⟨hk,hI,hF⟩
 simp only at hk hI hF
 refine rn ?_;refine z8 rfl (fun hc23=> ?_) (fun hc23=> ?_)
 ·have k2:k < h.evs.length:=by simpa using hc23
  obtain ⟨e,he⟩:∃e,e=h.evs[k]:=⟨_,rfl⟩
  have hrowe:(h.evs.map evR)[k]? =some (evR e):=by rw [he];simp [k2]
  have hde:=List.drop_eq_getElem_cons k2
  rw [hde,←he] at hF
  simp only [List.flatMap_cons,evL,List.cons_append,List.append_assoc] at hF
  obtain ⟨hx,hF⟩:=hF.cons
  obtain ⟨hkx,hF⟩:=hF.app
  have hle:=la.evs
  have hls:=la.scans e (by rw [he];simp)
  refine rn ?_;refine j4 4 rfl ?_
  refine rn ?_;refine z7 rfl (w8 rfl rfl (y3.fr3 (y3.of_acall (fs:= []) (cs:= [pZ bm,pZ by_]) (zt2 step ok IJ y hy 0 e.t hx _ bm by_ _ _ hI))) rfl ?_)
  rintro _ _ ⟨_,rfl,L,hI,rfl⟩
  refine rn0 ?_;refine zih (fun L=>IJ (goes step (goes step st [(0,e.t)]) (zfh e)) L) (fun L=>⟨[(7,.pp (evR e)),(22,iv k),(21,iv (h.evs.map evR).length),(1,pZ b1),(4,pZ bs),(5,.fn (.func 146) [] [pZ bs])],.box b1 168 [pZ bh]:: .box bh 28 (x4 h):: .box bs 216 [.fn (.func 145) [] [pZ bm,pZ by_]]:: .box bm 4 [bv (goes step (goes step st [(0,e.t)]) (zfh e)).isSome]:: .box by_ 215 [y]::L,[]⟩) ?_ ?_
  ·refine rn ?_;refine z8 rfl (fun hc40=> ?_) (fun hc40=> ?_)
   ·have hkl:=zre (e:=e) (by simpa using hc40)
    refine j4 4 rfl ?_
    refine rn ?_;refine z7 rfl (w8 rfl rfl (y3.fr3 (y3.of_acall (fs:= []) (cs:= [pZ bm,pZ by_]) (zt2 step ok IJ y hy 1 e.s (hkx _ (by rw [hkl];simp)) _ bm by_ _ _ hI))) rfl ?_)
    rintro _ _ ⟨_,rfl,L,hI,rfl⟩
    refine rn ?_;refine ⟨L,?_,?_⟩
    ·show IJ (goes step _ (zfh e)) L
     rw [hkl];exact hI
    ·rw [hkl];exact (x7 (.cons _ _ _ rfl (.cons _ _ _ rfl (.cons _ _ _ rfl (.cons _ _ _ rfl (.cons _ _ _ rfl (.cons _ _ _ rfl (.nil))))))))
   ·have hn1:e.kind≠1:=by simpa using hc40
    refine rn ?_;refine z8 rfl (fun hc47=> ?_) (fun hc47=> ?_)
    ·have hk23:e.kind=2∨e.kind=3:=by simp at hc47;omega
     have hkl:=zkq hk23
     refine rn ?_;refine z8 rfl (fun hc47=> ?_) (fun hc47=> ?_)
     ·have hk23:e.kind=2∨e.kind=3:=by simp at hc47;omega
      have hkl:=zkq hk23
      refine rn ?_;refine j4 4 rfl ?_
      refine rn ?_;refine z7 rfl (w8 rfl rfl (y3.fr3 (y3.of_acall (fs:= []) (cs:= [pZ bm,pZ by_]) (zt2 step ok IJ y hy 2 e.o (hkx _ (by rw [hkl];simp)) _ bm by_ _ _ hI))) rfl ?_)
      rintro _ _ ⟨_,rfl,L,hI,rfl⟩
      refine rn ?_;refine z7 rfl (w8 rfl rfl (y3.fr2 (y3.of_acall (fs:= []) (cs:= [pZ bs]) (ye1 step ok IJ y hy e.v (fun x hx=>hkx x (by rw [hkl];simp [hx])) _ bs bm by_ _ _ hI))) rfl ?_)
      rintro _ _ ⟨_,rfl,L,hI,rfl⟩
      refine rn ?_;refine ⟨L,?_,?_⟩
      ·show IJ (goes step _ (zfh e)) L
       rw [hkl];exact hI
      ·rw [hkl];exact (x7 (.cons _ _ _ rfl (.cons _ _ _ rfl (.cons _ _ _ rfl (.cons _ _ _ rfl (.cons _ _ _ rfl (.cons _ _ _ rfl (.nil))))))))
     ·first|cases hc47|exact absurd hc47 (by decide)|(exfalso;simp_all;done)
    ·have hn23:=hc47
     simp at hn23
     refine rn ?_;refine z8 rfl (fun hc47=> ?_) (fun hc47=> ?_)
     ·have hk23:e.kind=2∨e.kind=3:=by simp at hc47;omega
      have hkl:=zkq hk23
      refine rn ?_;refine j4 4 rfl ?_
      refine rn ?_;refine z7 rfl (w8 rfl rfl (y3.fr3 (y3.of_acall (fs:= []) (cs:= [pZ bm,pZ by_]) (zt2 step ok IJ y hy 2 e.o (hkx _ (by rw [hkl];simp)) _ bm by_ _ _ hI))) rfl ?_)
      rintro _ _ ⟨_,rfl,L,hI,rfl⟩
      refine rn ?_;refine z7 rfl (w8 rfl rfl (y3.fr2 (y3.of_acall (fs:= []) (cs:= [pZ bs]) (ye1 step ok IJ y hy e.v (fun x hx=>hkx x (by rw [hkl];simp [hx])) _ bs bm by_ _ _ hI))) rfl ?_)
      rintro _ _ ⟨_,rfl,L,hI,rfl⟩
      refine rn ?_;refine ⟨L,?_,?_⟩
      ·show IJ (goes step _ (zfh e)) L
       rw [hkl];exact hI
      ·rw [hkl];exact (x7 (.cons _ _ _ rfl (.cons _ _ _ rfl (.cons _ _ _ rfl (.cons _ _ _ rfl (.cons _ _ _ rfl (.cons _ _ _ rfl (.nil))))))))
     ·have hn23:=hc47
      simp at hn23
      refine rn ?_;refine z8 rfl (fun hc60=> ?_) (fun hc60=> ?_)
      ·have hkl:=zw3 (e:=e) (by simpa using hc60)
       refine j4 4 rfl ?_
       refine rn ?_;refine z7 rfl (w8 rfl rfl (y3.fr3 (y3.of_acall (fs:= []) (cs:= [pZ bm,pZ by_]) (zt2 step ok IJ y hy 3 e.p (hkx _ (by rw [hkl];simp)) _ bm by_ _ _ hI))) rfl ?_)
       rintro _ _ ⟨_,rfl,L,hI,rfl⟩
       refine rn ?_;refine ⟨L,?_,?_⟩
       ·show IJ (goes step _ (zfh e)) L
        rw [hkl];exact hI
       ·rw [hkl];exact (x7 (.cons _ _ _ rfl (.cons _ _ _ rfl (.cons _ _ _ rfl (.cons _ _ _ rfl (.cons _ _ _ rfl (.cons _ _ _ rfl (.nil))))))))
      ·have hn4:e.kind≠4:=by simpa using hc60
       have hkl:=zw4 (e:=e) hn1 (by omega) (by omega) hn4
       refine rn ?_;refine ⟨L,?_,?_⟩
       ·show IJ (goes step _ (zfh e)) L
        rw [hkl];exact hI
       ·rw [hkl];exact (x7 (.cons _ _ _ rfl (.cons _ _ _ rfl (.cons _ _ _ rfl (.cons _ _ _ rfl (.cons _ _ _ rfl (.cons _ _ _ rfl (.nil))))))))
  ·rintro L hI
   revert hI hF
   generalize goes step (goes step st [(0,e.t)]) (zfh e)=st2
   intro hF hI
   refine rn ?_;refine u5 (fun x:Nat×Option σ×List Res=>x.1≤e.scan.length∧IJ x.2.1 x.2.2∧Rem step ok x.2.1 (((e.scan.drop x.1).flatMap zt1)++(((h.evs.drop (k+1)).flatMap evL)++(h.ords.flatMap zz8++(h.mats.flatMap zwq++h.wants.flatMap zqe)))) (goes step (some s0) (zcb h))) (fun x=>⟨[(72,iv x.1),(71,iv (e.scan.map zaz).length),(7,.pp (evR e)),(22,iv k),(21,iv (h.evs.map evR).length),(1,pZ b1),(4,pZ bs),(5,.fn (.func 146) [] [pZ bs])],.box b1 168 [pZ bh]:: .box bh 28 (x4 h):: .box bs 216 [.fn (.func 145) [] [pZ bm,pZ by_]]:: .box bm 4 [bv (x.2.1).isSome]:: .box by_ 215 [y]::x.2.2,[]⟩) (fun x=>e.scan.length - x.1) (0,st2,L) ⟨by omega,hI,hF⟩
    (x7 (.cons _ _ _ rfl (.cons _ _ _ rfl (.cons _ _ _ rfl (.cons _ _ _ rfl (.cons _ _ _ rfl (.cons _ _ _ rfl (.cons _ _ _ rfl (.cons _ _ _ rfl (.nil)))))))))) ?_
   rintro ⟨j,st,L⟩ ⟨hj,hI,hF⟩
   simp only at hj hI hF
   refine rn ?_;refine z8 rfl (fun hc73=> ?_) (fun hc73=> ?_)
   ·have j2:j < e.scan.length:=by simpa using hc73
    obtain ⟨x,hx⟩:∃x,x=e.scan[j]:=⟨_,rfl⟩
    have hrowx:(e.scan.map zaz)[j]? =some (zaz x):=by rw [hx];simp [j2]
    have hdx:=List.drop_eq_getElem_cons j2
    rw [hdx,←hx] at hF
    simp only [List.flatMap_cons,zt1,List.cons_append,List.append_assoc] at hF
    obtain ⟨hx,hF⟩:=hF.cons
    obtain ⟨hkx,hF⟩:=hF.app
    refine rn ?_;refine j4 8 rfl ?_
    refine rn ?_;refine z7 rfl (w8 rfl rfl (y3.fr3 (y3.of_acall (fs:= []) (cs:= [pZ bm,pZ by_]) (zt2 step ok IJ y hy 2 x.o hx _ bm by_ _ _ hI))) rfl ?_)
    rintro _ _ ⟨_,rfl,L,hI,rfl⟩
    refine rn ?_;refine z7 rfl (w8 rfl rfl (y3.fr2 (y3.of_acall (fs:= []) (cs:= [pZ bs]) (ye1 step ok IJ y hy x.v hkx _ bs bm by_ _ _ hI))) rfl ?_)
    rintro _ _ ⟨_,rfl,L,hI,rfl⟩
    refine rn ?_;exact ⟨(j+1,_,L),⟨by omega,hI,hF⟩,(x7 (.cons _ _ _ rfl (.cons _ _ _ rfl (.cons _ _ _ rfl (.cons _ _ _ rfl (.cons _ _ _ rfl (.cons _ _ _ rfl (.cons _ _ _ rfl (.cons _ _ _ rfl (.nil)))))))))),by simp only;omega⟩
   ·obtain rfl:j=e.scan.length:=by
     have:e.scan.length≤j:=by simpa using hc73
     omega
    rw [List.drop_length,List.flatMap_nil,List.nil_append] at hF
    refine rn ?_;exact ⟨(k+1,_,L),⟨by omega,hI,hF⟩,(x7 (.cons _ _ _ rfl (.cons _ _ _ rfl (.cons _ _ _ rfl (.cons _ _ _ rfl (.cons _ _ _ rfl (.nil))))))),by simp only;omega⟩
 ·obtain rfl:k=h.evs.length:=by
   have:h.evs.length≤k:=by simpa using hc23
   omega
  rw [List.drop_length,List.flatMap_nil,List.nil_append] at hF
  refine rn ?_;refine u5 (fun x:Nat×Option σ×List Res=>x.1≤h.ords.length∧IJ x.2.1 x.2.2∧Rem step ok x.2.1 (((h.ords.drop x.1).flatMap zz8)++(h.mats.flatMap zwq++h.wants.flatMap zqe)) (goes step (some s0) (zcb h))) (fun x=>⟨[(100,iv x.1),(99,iv (h.ords.map zb7).length),(1,pZ b1),(4,pZ bs),(5,.fn (.func 146) [] [pZ bs])],.box b1 168 [pZ bh]:: .box bh 28 (x4 h):: .box bs 216 [.fn (.func 145) [] [pZ bm,pZ by_]]:: .box bm 4 [bv (x.2.1).isSome]:: .box by_ 215 [y]::x.2.2,[]⟩) (fun x=>h.ords.length - x.1) (0,st,L) ⟨by omega,hI,hF⟩
   (x7 (.cons _ _ _ rfl (.cons _ _ _ rfl (.cons _ _ _ rfl (.cons _ _ _ rfl (.cons _ _ _ rfl (.nil))))))) ?_
  rintro ⟨k,st,L⟩ ⟨hk,hI,hF⟩
  simp only at hk hI hF
  refine rn ?_;refine z8 rfl (fun hc101=> ?_) (fun hc101=> ?_)
  ·have k2:k < h.ords.length:=by simpa using hc101
   obtain ⟨r,hr⟩:∃r,r=h.ords[k]:=⟨_,rfl⟩
   have hrowr:(h.ords.map zb7)[k]? =some (zb7 r):=by rw [hr];simp [k2]
   have hdr:=List.drop_eq_getElem_cons k2
   rw [hdr,←hr] at hF
   simp only [List.flatMap_cons,zz8,List.cons_append,List.append_assoc] at hF
   obtain ⟨hx,hF⟩:=hF.cons
   have hle:=la.ords
   have hls:=la.ordts r (by rw [hr];simp)
   refine rn ?_;refine j4 8 rfl ?_
   refine rn ?_;refine z7 rfl (w8 rfl rfl (y3.fr3 (y3.of_acall (fs:= []) (cs:= [pZ bm,pZ by_]) (zt2 step ok IJ y hy 2 r.o hx _ bm by_ _ _ hI))) rfl ?_)
   rintro _ _ ⟨_,rfl,L,hI,rfl⟩
   refine rn ?_;refine u5 (fun x:Nat×Option σ×List Res=>x.1≤r.ts.length∧IJ x.2.1 x.2.2∧Rem step ok x.2.1 (((r.ts.drop x.1).map fun t=>((0:Nat),t))++(((h.ords.drop (k+1)).flatMap zz8)++(h.mats.flatMap zwq++h.wants.flatMap zqe))) (goes step (some s0) (zcb h))) (fun x=>⟨[(121,iv x.1),(120,iv (r.ts.map za8).length),(9,iv k),(100,iv k),(99,iv (h.ords.map zb7).length),(1,pZ b1),(4,pZ bs),(5,.fn (.func 146) [] [pZ bs])],.box b1 168 [pZ bh]:: .box bh 28 (x4 h):: .box bs 216 [.fn (.func 145) [] [pZ bm,pZ by_]]:: .box bm 4 [bv (x.2.1).isSome]:: .box by_ 215 [y]::x.2.2,[]⟩) (fun x=>r.ts.length - x.1) (0,_,L) ⟨by omega,hI,hF⟩
    (x7 (.cons _ _ _ rfl (.cons _ _ _ rfl (.cons _ _ _ rfl (.cons _ _ _ rfl (.cons _ _ _ rfl (.cons _ _ _ rfl (.cons _ _ _ rfl (.cons _ _ _ rfl (.nil)))))))))) ?_
   rintro ⟨j,st,L⟩ ⟨hj,hI,hF⟩
   simp only at hj hI hF
   refine rn ?_;refine z8 rfl (fun hc122=> ?_) (fun hc122=> ?_)
   ·have j2:j < r.ts.length:=by simpa using hc122
    obtain ⟨t,ht⟩:∃t,t=r.ts[j]:=⟨_,rfl⟩
    have hrowt:(r.ts.map za8)[j]? =some (za8 t):=by rw [ht];simp [j2]
    have hdt:=List.drop_eq_getElem_cons j2
    rw [hdt,←ht] at hF
    simp only [List.map_cons,List.cons_append] at hF
    obtain ⟨hx,hF⟩:=hF.cons
    refine rn ?_;refine j4 11 rfl ?_
    refine rn ?_;refine z7 rfl (w8 rfl rfl (y3.fr3 (y3.of_acall (fs:= []) (cs:= [pZ bm,pZ by_]) (zt2 step ok IJ y hy 0 t hx _ bm by_ _ _ hI))) rfl ?_)
    rintro _ _ ⟨_,rfl,L,hI,rfl⟩
    refine rn ?_;exact ⟨(j+1,_,L),⟨by omega,hI,hF⟩,(x7 (.cons _ _ _ rfl (.cons _ _ _ rfl (.cons _ _ _ rfl (.cons _ _ _ rfl (.cons _ _ _ rfl (.cons _ _ _ rfl (.cons _ _ _ rfl (.cons _ _ _ rfl (.nil)))))))))),by simp only;omega⟩
   ·obtain rfl:j=r.ts.length:=by
     have:r.ts.length≤j:=by simpa using hc122
     omega
    rw [List.drop_length,List.map_nil,List.nil_append] at hF
    refine rn ?_;exact ⟨(k+1,_,L),⟨by omega,hI,hF⟩,(x7 (.cons _ _ _ rfl (.cons _ _ _ rfl (.cons _ _ _ rfl (.cons _ _ _ rfl (.cons _ _ _ rfl (.nil))))))),by simp only;omega⟩
  ·obtain rfl:k=h.ords.length:=by
    have:h.ords.length≤k:=by simpa using hc101
    omega
   rw [List.drop_length,List.flatMap_nil,List.nil_append] at hF
   refine rn ?_;refine u5 (fun x:Nat×Option σ×List Res=>x.1≤h.mats.length∧IJ x.2.1 x.2.2∧Rem step ok x.2.1 (((h.mats.drop x.1).flatMap zwq)++h.wants.flatMap zqe) (goes step (some s0) (zcb h))) (fun x=>⟨[(143,iv x.1),(142,iv (h.mats.map zcc).length),(1,pZ b1),(4,pZ bs),(5,.fn (.func 146) [] [pZ bs])],.box b1 168 [pZ bh]:: .box bh 28 (x4 h):: .box bs 216 [.fn (.func 145) [] [pZ bm,pZ by_]]:: .box bm 4 [bv (x.2.1).isSome]:: .box by_ 215 [y]::x.2.2,[]⟩) (fun x=>h.mats.length - x.1) (0,st,L) ⟨by omega,hI,hF⟩
    (x7 (.cons _ _ _ rfl (.cons _ _ _ rfl (.cons _ _ _ rfl (.cons _ _ _ rfl (.cons _ _ _ rfl (.nil))))))) ?_
   rintro ⟨k,st,L⟩ ⟨hk,hI,hF⟩
   simp only at hk hI hF
   refine rn ?_;refine z8 rfl (fun hc144=> ?_) (fun hc144=> ?_)
   ·have k2:k < h.mats.length:=by simpa using hc144
    obtain ⟨r,hr⟩:∃r,r=h.mats[k]:=⟨_,rfl⟩
    have hrowr:(h.mats.map zcc)[k]? =some (zcc r):=by rw [hr];simp [k2]
    have hdr:=List.drop_eq_getElem_cons k2
    rw [hdr,←hr] at hF
    simp only [List.flatMap_cons,zwq,List.cons_append,List.append_assoc] at hF
    obtain ⟨hx,hF⟩:=hF.cons
    obtain ⟨hx2,hF⟩:=hF.cons
    have hle:=la.mats
    have hls:=la.matts r (by rw [hr];simp)
    refine rn ?_;refine j4 4 rfl ?_
    refine rn ?_;refine z7 rfl (w8 rfl rfl (y3.fr3 (y3.of_acall (fs:= []) (cs:= [pZ bm,pZ by_]) (zt2 step ok IJ y hy 3 r.p hx _ bm by_ _ _ hI))) rfl ?_)
    rintro _ _ ⟨_,rfl,L,hI,rfl⟩
    refine rn ?_;refine j4 4 rfl ?_
    refine rn ?_;refine z7 rfl (w8 rfl rfl (y3.fr3 (y3.of_acall (fs:= []) (cs:= [pZ bm,pZ by_]) (zt2 step ok IJ y hy 2 r.o hx2 _ bm by_ _ _ hI))) rfl ?_)
    rintro _ _ ⟨_,rfl,L,hI,rfl⟩
    refine rn ?_;refine u5 (fun x:Nat×Option σ×List Res=>x.1≤r.ts.length∧IJ x.2.1 x.2.2∧Rem step ok x.2.1 (((r.ts.drop x.1).map fun t=>((0:Nat),t))++(((h.mats.drop (k+1)).flatMap zwq)++h.wants.flatMap zqe)) (goes step (some s0) (zcb h))) (fun x=>⟨[(167,iv x.1),(166,iv (r.ts.map za8).length),(12,.pp (zcc r)),(143,iv k),(142,iv (h.mats.map zcc).length),(1,pZ b1),(4,pZ bs),(5,.fn (.func 146) [] [pZ bs])],.box b1 168 [pZ bh]:: .box bh 28 (x4 h):: .box bs 216 [.fn (.func 145) [] [pZ bm,pZ by_]]:: .box bm 4 [bv (x.2.1).isSome]:: .box by_ 215 [y]::x.2.2,[]⟩) (fun x=>r.ts.length - x.1) (0,_,L) ⟨by omega,hI,hF⟩
     (x7 (.cons _ _ _ rfl (.cons _ _ _ rfl (.cons _ _ _ rfl (.cons _ _ _ rfl (.cons _ _ _ rfl (.cons _ _ _ rfl (.cons _ _ _ rfl (.cons _ _ _ rfl (.nil)))))))))) ?_
    rintro ⟨j,st,L⟩ ⟨hj,hI,hF⟩
    simp only at hj hI hF
    refine rn ?_;refine z8 rfl (fun hc168=> ?_) (fun hc168=> ?_)
    ·have j2:j < r.ts.length:=by simpa using hc168
     obtain ⟨t,ht⟩:∃t,t=r.ts[j]:=⟨_,rfl⟩
     have hrowt:(r.ts.map za8)[j]? =some (za8 t):=by rw [ht];simp [j2]
     have hdt:=List.drop_eq_getElem_cons j2
     rw [hdt,←ht] at hF
     simp only [List.map_cons,List.cons_append] at hF
     obtain ⟨hx,hF⟩:=hF.cons
     refine rn ?_;refine j4 7 rfl ?_
     refine rn ?_;refine z7 rfl (w8 rfl rfl (y3.fr3 (y3.of_acall (fs:= []) (cs:= [pZ bm,pZ by_]) (zt2 step ok IJ y hy 0 t hx _ bm by_ _ _ hI))) rfl ?_)
     rintro _ _ ⟨_,rfl,L,hI,rfl⟩
     refine rn ?_;exact ⟨(j+1,_,L),⟨by omega,hI,hF⟩,(x7 (.cons _ _ _ rfl (.cons _ _ _ rfl (.cons _ _ _ rfl (.cons _ _ _ rfl (.cons _ _ _ rfl (.cons _ _ _ rfl (.cons _ _ _ rfl (.cons _ _ _ rfl (.nil)))))))))),by simp only;omega⟩
    ·obtain rfl:j=r.ts.length:=by
      have:r.ts.length≤j:=by simpa using hc168
      omega
     rw [List.drop_length,List.map_nil,List.nil_append] at hF
     refine rn ?_;exact ⟨(k+1,_,L),⟨by omega,hI,hF⟩,(x7 (.cons _ _ _ rfl (.cons _ _ _ rfl (.cons _ _ _ rfl (.cons _ _ _ rfl (.cons _ _ _ rfl (.nil))))))),by simp only;omega⟩
   ·obtain rfl:k=h.mats.length:=by
     have:h.mats.length≤k:=by simpa using hc144
     omega
    rw [List.drop_length,List.flatMap_nil,List.nil_append] at hF
    refine rn ?_;refine u5 (fun x:Nat×Option σ×List Res=>x.1≤h.wants.length∧IJ x.2.1 x.2.2∧Rem step ok x.2.1 (((h.wants.drop x.1).flatMap zqe)++ []) (goes step (some s0) (zcb h))) (fun x=>⟨[(185,iv x.1),(184,iv (h.wants.map zbi).length),(1,pZ b1),(4,pZ bs),(5,.fn (.func 146) [] [pZ bs])],.box b1 168 [pZ bh]:: .box bh 28 (x4 h):: .box bs 216 [.fn (.func 145) [] [pZ bm,pZ by_]]:: .box bm 4 [bv (x.2.1).isSome]:: .box by_ 215 [y]::x.2.2,[]⟩) (fun x=>h.wants.length - x.1) (0,st,L) ⟨by omega,hI,by rw [List.append_nil];exact hF⟩
     (x7 (.cons _ _ _ rfl (.cons _ _ _ rfl (.cons _ _ _ rfl (.cons _ _ _ rfl (.cons _ _ _ rfl (.nil))))))) ?_
    rintro ⟨k,st,L⟩ ⟨hk,hI,hF⟩
    simp only at hk hI hF
    refine rn ?_;refine z8 rfl (fun hc186=> ?_) (fun hc186=> ?_)
    ·have k2:k < h.wants.length:=by simpa using hc186
     obtain ⟨r,hr⟩:∃r,r=h.wants[k]:=⟨_,rfl⟩
     have hrowr:(h.wants.map zbi)[k]? =some (zbi r):=by rw [hr];simp [k2]
     have hdr:=List.drop_eq_getElem_cons k2
     rw [hdr,←hr] at hF
     simp only [List.flatMap_cons,zqe,List.cons_append,List.append_assoc,List.nil_append] at hF
     obtain ⟨hx,hF⟩:=hF.cons
     have hle:=la.wants
     refine rn ?_;refine j4 8 rfl ?_
     refine rn ?_;refine z7 rfl (w8 rfl rfl (y3.fr3 (y3.of_acall (fs:= []) (cs:= [pZ bm,pZ by_]) (zt2 step ok IJ y hy 1 r.s hx _ bm by_ _ _ hI))) rfl ?_)
     rintro _ _ ⟨_,rfl,L,hI,rfl⟩
     refine rn ?_;exact ⟨(k+1,_,L),⟨by omega,hI,hF⟩,(x7 (.cons _ _ _ rfl (.cons _ _ _ rfl (.cons _ _ _ rfl (.cons _ _ _ rfl (.cons _ _ _ rfl (.nil))))))),by simp only;omega⟩
    ·obtain rfl:k=h.wants.length:=by
      have:h.wants.length≤k:=by simpa using hc186
      omega
     rw [List.drop_length,List.flatMap_nil,List.nil_append] at hF
     refine rn ?_;have hF':st=goes step (some s0) (zcb h):=hF.fin
     exact zdw .nil (.trans (.perm ((pt2 _ _ _ _).trans (.cons _ ((pt2 _ _ _ _).trans (.cons _ (pt2 _ _ _ _))))) _) (.drop [_,_,_] _ _)) ⟨L,hF' ▸ hI,rfl⟩
theorem yhl (bh:Nat) (h:List Res):y9 Tryz.prog 104 [pZ bh] h (fun r h'=>∃b1,h'= .box b1 168 [pZ bh]::h∧r= .fn (.func 144) [] [pZ b1]):=by
 refine z6 Tryz.func104 rfl rfl rfl ?_
 refine rn ?_;refine z7 rfl (x9 rfl rfl rfl fun b1=> ?_)
 refine rn ?_;exact j6 rfl (.refl _ _) ⟨_,rfl,rfl⟩
def IJC (lp:LP) (q b2 b3:Nat):Option (List Int)→List Res→Prop
 |some m,L=>L=lp .ready none:: .defs q:: .box b3 148 ((m).map iv):: .box b2 32 [iv 0]:: [.glob 3 148 y8,.glob 5 276 x3,.glob 6 279 y5]∧m.length=4
 |none,L=>∃m:List Int,L=lp .done (some .ret):: .defs q:: .box b3 148 ((m).map iv):: .box b2 32 [iv 210]:: [.glob 3 148 y8,.glob 5 276 x3,.glob 6 279 y5]
theorem yf7 (h:Hist) (la:Lim 4611686018427387904 h):y9 Tryz.prog 51 [.agg (x4 h)] [.glob 3 148 y8,.glob 5 276 x3,.glob 6 279 y5] (fun r h'=>h'= [.glob 3 148 y8,.glob 5 276 x3,.glob 6 279 y5]∧r=iv (zck h)):=by
 refine z6 Tryz.func51 rfl rfl rfl ?_
 refine rn ?_;refine z7 rfl (x9 rfl rfl rfl fun b1=> ?_)
 refine z7 rfl (x5 rfl fun b2=> ?_)
 refine rn ?_;refine qv rfl rfl (y4 rfl rfl (y3.qt (y3.of_fun (yhq h la)) ((pt2 _ _ _ _).trans (.cons _ ((pt2 _ _ _ _).trans (.cons _ (pt2 _ _ _ _))))))) ?_
 refine rn ?_;refine z8 rfl (fun hc10=> ?_) (fun hc10=> ?_)
 ·have hs:zav h=false:=zkj hc10
  refine rn ?_;exact zd7 (.cons _ _ _ _ (.one _ _ _ _ _ _ _ rfl inferInstance inferInstance rfl) .nil) (.drop [_,_] _ _) ⟨rfl,congrArg iv (ybj hs).symm⟩
 ·have hs:zav h=true:=zkk hc10
  refine rn ?_;refine z7 rfl (x5 rfl fun b3=> ?_)
  refine rn ?_;refine z7 rfl (w8 rfl rfl (y3.of_fun (yhl b1 _)) rfl ?_)
  rintro _ _ ⟨b1',rfl,rfl⟩
  refine rn ?_;refine zlo (fun pend h''=>(pend=none∧∃m:List Int,zlm h=some m∧m.length=4∧h''= .box b1' 168 [pZ b1]:: .box b1 28 (x4 h):: .box b3 148 ((m).map iv):: .box b2 32 [iv 0]:: [.glob 3 148 y8,.glob 5 276 x3,.glob 6 279 y5])∨(pend=some .ret∧zlm h=none∧∃m:List Int,h''= .box b1' 168 [pZ b1]:: .box b1 28 (x4 h):: .box b3 148 ((m).map iv):: .box b2 32 [iv 210]:: [.glob 3 148 y8,.glob 5 276 x3,.glob 6 279 y5])) rfl (fun fn l q lp hlp=> ?_) (fun q h'' hK=> ?_) (fun q h'' c hK=> ?_)
  ·suffices hy:∀(s:List Int) (L:List Res) (sort:Nat) (n:Int) (cells:List AV),OkN h (sort,n)→IJC lp q b2 b3 (some s) L→y3 Tryz.prog (yv l) [iv sort,.pp (iv n::cells)] L (fun r h'=>r=bv (zap s (sort,n)).isSome∧IJC lp q b2 b3 (zap s (sort,n)) h') by
    refine y9.mono (y9.perm ((pt2 _ _ _ _).trans (.cons _ (pt4 _ _ _ _ _ _))) (ydp zap (OkN h) (IJC lp q b2 b3) (yv l) rfl hy h la b1' b1 (zvu hs) [0,0,0,0] _ ⟨rfl,rfl⟩)) ?_
    rintro _ _ ⟨L',hI,rfl⟩
    cases hm:goes zap (some [0,0,0,0]) (zcb h) with
    |some m=>
     rw [hm] at hI
     obtain ⟨rfl,hl⟩:=hI
     exact ⟨_,_,_,((pt2 _ _ _ _).trans (.cons _ (pt2 _ _ _ _))),by simp,.inl ⟨rfl,m,hm,hl,rfl⟩⟩
    |none=>
     rw [hm] at hI
     obtain ⟨m,rfl⟩:=hI
     exact ⟨_,_,_,((pt2 _ _ _ _).trans (.cons _ (pt2 _ _ _ _))),by simp,.inr ⟨rfl,hm,m,rfl⟩⟩
   rintro m _ sort n cells ⟨hs4,hn0,hn1⟩ ⟨rfl,hl⟩
   simp only at hs4 hn0 hn1
   have hnm:=la.nm sort
   refine ztd hlp rfl rfl ?_
   refine rn ?_;refine ⟨[(4,iv sort),(5,.pp (iv n::cells)),(3,pZ b3),(2,pZ b2)],(x7 (.cons _ _ _ rfl (.cons _ _ _ rfl (.cons _ _ _ rfl (.cons _ _ _ rfl (.nil)))))),?_⟩
   refine rn ?_;refine j4 6 rfl ?_
   refine dq rfl rfl qrA ?_;refine dq rfl rfl qrA ?_;refine dq rfl rfl qrA ?_;refine dq rfl rfl qrA ?_;refine dq rfl rfl (u9 rfl rfl hs4) ?_
   refine dq rfl rfl (j3 rfl (ymu hl hs4)) ?_
   refine rn ?_;refine z8 rfl (fun hc20=> ?_) (fun hc20=> ?_)
   ·refine rn ?_;have hst:zap m (sort,n)=none:=by rw [zap];exact if_pos (by simpa using hc20)
    exact zmy (.refl _) (by rw [hst];exact ⟨rfl,_,rfl⟩)
   ·refine rn ?_;refine j4 9 rfl ?_
    refine dq rfl rfl qrA ?_;refine dq rfl rfl qrA ?_;refine dq rfl rfl (u9 rfl rfl hs4) ?_
    refine dq rfl rfl (j3 rfl (ymu hl hs4)) ?_
    refine rn2 ?_;refine qq rfl rfl (u9 rfl rfl hs4) ?_
    refine z7 rfl (zby rfl rfl rfl rfl (by simp [hl];omega) ?_)
    refine rn ?_;have hst:zap m (sort,n)=some (m.set sort (max (m.getD sort 0) (n+1))):=by rw [zap];exact if_neg (by simpa using hc20)
    exact zgw (.refl _) (by rw [hst];exact ⟨rfl,by rw [←yn2 hl hs4];rfl,by simpa using hl⟩)
  ·obtain ⟨_,m,hm,hl,rfl⟩|⟨hc,_⟩:=hK
   rotate_left
   ·cases hc
   refine rn ?_;refine qv rfl rfl (y4 rfl rfl (zaf (zwk _) (Sbs.refl _))) ?_
   refine rn ?_;refine u5 (fun k:Nat=>k≤4∧∀j,j < k→m.getD j 0=(nmK h j).length) (fun k=>⟨[(33,iv k),(32,.agg (zgl h)),(3,pZ b3),(2,pZ b2)],.defs q:: .box b1' 168 [pZ b1]:: .box b1 28 (x4 h):: .box b3 148 ((m).map iv):: .box b2 32 [iv 0]:: [.glob 3 148 y8,.glob 5 276 x3,.glob 6 279 y5],[q]⟩) (fun k=>4 - k) 0 ⟨by omega,fun j hj=>absurd hj (Nat.not_lt_zero j)⟩
    (x7 (.cons _ _ _ rfl (.cons _ _ _ rfl (.cons _ _ _ rfl (.cons _ _ _ rfl (.nil)))))) ?_
   rintro k ⟨hk,hz⟩
   refine rn ?_;refine z8 rfl (fun hc34=> ?_) (fun hc34=> ?_)
   ·have hk4:k < 4:=by simp at hc34;omega
    refine zad ?_;refine k6 ?_;refine w6 ?_;refine zae ?_;refine w6 (y6 ?_)
    refine q1 ?_;refine qq rfl rfl (zcn rfl rfl (by omega) (by have:=zm2 h hk4;simpa using this)) ?_
    refine q1 ?_;refine q1 ?_;refine u3 (k6 ?_)
    refine w6 (y6 ?_)
    refine q1 ?_;refine qq rfl rfl (u9 rfl rfl hk4) ?_
    refine qq rfl rfl (j3 rfl (ymu hl hk4)) ?_
    refine rn ?_;refine z8 rfl (fun hc42=> ?_) (fun hc42=> ?_)
    ·refine rn ?_;exact zgf (.refl _) (.cons _ _ _ _ (.one _ _ _ _ _ _ _ rfl inferInstance inferInstance rfl) .nil) (.drop [_,_,_,_] _ _) ⟨rfl,congrArg iv (ybk hm hk4 (by simpa using hc42)).symm⟩
    ·refine rn ?_;exact ⟨k+1,⟨by omega,fun j hj=>by
      by_cases hjk:j=k
      ·subst hjk;simpa using hc42
      ·exact hz j (by omega)⟩,(x7 (.cons _ _ _ rfl (.cons _ _ _ rfl (.cons _ _ _ rfl (.cons _ _ _ rfl (.nil)))))),by omega⟩
   ·have hk4:k=4:=by simp at hc34;omega
    subst hk4
    refine rn ?_;exact zgf (.refl _) (.cons _ _ _ _ (.one _ _ _ _ _ _ _ rfl inferInstance inferInstance rfl) .nil) (.drop [_,_,_,_] _ _) ⟨rfl,congrArg iv (ybl hs hm hl hz).symm⟩
  ·obtain ⟨hc,_⟩|⟨hc,hm,m,rfl⟩:=hK
   ·cases hc
   obtain rfl:c= .ret:=by simpa using hc
   refine rn ?_;exact zgf (.refl _) (.cons _ _ _ _ (.one _ _ _ _ _ _ _ rfl inferInstance inferInstance rfl) .nil) (.drop [_,_,_,_] _ _) ⟨rfl,congrArg iv (zuz hm).symm⟩
attribute [local irreducible] zdj jch zeh
def u0:List AV:= [.any,.fn (.func 245) [] [],.fn (.func 249) [] [],.fn (.func 250) [] [],.fn (.func 251) [] [],.fn (.func 252) [] [],.fn (.func 253) [] [],.fn (.func 254) [] [],.fn (.func 255) [] [],.fn (.func 256) [] [],.fn (.func 257) [] []]
def ylk (k:Nat):AV:=u0.getD k .any
theorem ygi {k:Nat} (h2:k≤10):u0[k]? =some (ylk k):=by
 have:k < u0.length:=by show k < 11;omega
 rw [ylk,List.getD_eq_getElem?_getD,List.getElem?_eq_getElem this];rfl
theorem ybp (h:Hist) (la:Lim 3000 h) (b:Nat) (G:List Res) {k:Nat} (h1:1≤k) (h2:k≤10):y3 Tryz.prog (ylk k) [pZ b] (.box b 203 (zbf h)::G) (fun r h'=>h'=G∧r=zaw (zci h k)):=by
 match k,h1,h2 with
 |1,_,_=>exact y3.of_acall (fs:= []) (cs:= []) (yii h la b G)
 |2,_,_=>exact y3.of_acall (fs:= []) (cs:= []) (yn9 h la b G)
 |3,_,_=>exact y3.of_acall (fs:= []) (cs:= []) (yih h la b G)
 |4,_,_=>exact y3.of_acall (fs:= []) (cs:= []) (zzu h la b G)
 |5,_,_=>exact y3.of_acall (fs:= []) (cs:= []) (yn5 h la b G)
 |6,_,_=>exact y3.of_acall (fs:= []) (cs:= []) (yl3 h la b G)
 |7,_,_=>exact y3.of_acall (fs:= []) (cs:= []) (yib h la b G)
 |8,_,_=>exact y3.of_acall (fs:= []) (cs:= []) (zzx h la b G)
 |9,_,_=>exact y3.of_acall (fs:= []) (cs:= []) (yie h la b G)
 |10,_,_=>exact y3.of_acall (fs:= []) (cs:= []) (yl1 h la b G)
 |k+11,_,h2=>omega
theorem yes {o:Option Nat} {i:Int} {b:Bool} (h:zaw o= .tup [iv i,bv b]):i=yoa o∧b=o.isSome:=by
 cases o with
 |none=>simp only [zaw,AV.tup.injEq,List.cons.injEq,AV.v.injEq,Value.int.injEq,Value.bool.injEq,true_and,and_true] at h;exact ⟨h.1.symm,h.2.symm⟩
 |some n=>simp only [zaw,AV.tup.injEq,List.cons.injEq,AV.v.injEq,Value.int.injEq,Value.bool.injEq,true_and,and_true] at h;exact ⟨h.1.symm,h.2.symm⟩
theorem zq8 {h:Hist} (hm:zf9 h=true):Lim 3000 h:=by
 unfold zf9 at hm;simp only [Bool.and_eq_true] at hm;exact zt0 hm.1
theorem yig (h:Hist) (la:Lim 4611686018427387904 h):y9 Tryz.prog 91 [.agg (x4 h)] [.glob 3 148 y8,.glob 5 276 x3,.glob 6 279 y5,.glob 2 197 u0] (fun r h'=>h'= [.glob 3 148 y8,.glob 5 276 x3,.glob 6 279 y5,.glob 2 197 u0]∧r=zgb h):=by
 refine z6 Tryz.func91 rfl rfl rfl ?_
 refine rn ?_;refine z7 rfl (x9 rfl rfl rfl fun b1=> ?_)
 refine z7 rfl (x5 rfl fun b2=> ?_)
 refine rn ?_;refine qv rfl rfl (y4 rfl rfl (y3.qt (y3.of_fun (yf7 h la)) ((pt2 _ _ _ _).trans (.cons _ ((pt2 _ _ _ _).trans (.cons _ (pt2 _ _ _ _))))))) ?_
 refine rn ?_;refine z8 rfl (fun hc12=> ?_) (fun hc12=> ?_)
 ·have hm:¬zf9 h=true:=by intro q;rw [zck,if_pos q] at hc12;cases hc12
  have he:zck h=210:=by rw [zck,if_neg hm]
  refine rn ?_;exact zd7 (.cons _ _ _ _ (.agg _ _ _ _ _ _ _ rfl inferInstance inferInstance inferInstance rfl) (.cons _ _ _ _ (.tmp _ _ rfl) (.cons _ _ _ _ (.tmp _ _ rfl) .nil))) (.drop [_,_] _ _) ⟨rfl,by rw [zgb,if_neg hm,he];rfl⟩
 ·have hm:zf9 h=true:=zx2.1 (by simpa using hc12)
  have la3:=zq8 hm
  refine rn ?_;refine zdc (fun k:Nat=>(1≤k∧k≤11)∧zbg (zci h) rules10=zbg (zci h) (rules10.drop (k - 1))) (fun k=>⟨[(6,iv k),(1,pZ b1),(2,pZ b2)],(.box b2 152 [iv 0,iv 0]:: .box b1 28 (x4 h):: .glob 3 148 y8:: .glob 5 276 x3:: .glob 6 279 y5:: .glob 2 197 u0:: []),[]⟩) (fun k=>11 - k) 1 ⟨by omega,rfl⟩ es ?_
  rintro k ⟨⟨k1,k3⟩,zk⟩
  obtain ⟨pi,pb,hpv⟩:∃i b,zaw (zci h k)= .tup [iv i,bv b]:=zcz _
  obtain ⟨ei,eb⟩:=yes hpv
  refine rn ?_;refine z8 rfl (fun hc16=> ?_) (fun hc16=> ?_)
  ·have k2:k≤10:=by have:=oT hc16;omega
   refine zad ?_;refine rn0 ?_;refine w6 ?_;refine zae ?_;refine w6 ?_;refine zjv 11 [5,6] [7,8,9,10] (fun he=>he=(.box b2 152 [iv 0,iv 0]:: .box b1 28 (x4 h):: .glob 3 148 y8:: .glob 5 276 x3:: .glob 6 279 y5:: .glob 2 197 u0:: [])∨∃b,he= .box b 203 (zbf h)::(.box b2 152 [iv 0,iv 0]:: .box b1 28 (x4 h):: .glob 3 148 y8:: .glob 5 276 x3:: .glob 6 279 y5:: .glob 2 197 u0:: [])) rfl rfl (.inl rfl) ?_
   refine jq rfl (fun he hC=>by rcases hC with rfl|⟨b,rfl⟩ <;> exact qrA) ?_
   refine jq rfl (fun he hC=>by rcases hC with rfl|⟨b,rfl⟩ <;> exact (by exact u9 rfl rfl (by show k < 11;omega))) ?_
   refine jq rfl (fun he hC=>by rcases hC with rfl|⟨b,rfl⟩ <;> exact (by exact j3 rfl (show u0[0+k * 1]? =some (ylk k) by rw [Nat.zero_add,Nat.mul_one];exact ygi k2))) ?_
   refine jq rfl (fun he hC=>by rcases hC with rfl|⟨b,rfl⟩ <;> exact qrA) ?_
   refine jq rfl (fun he hC=>by rcases hC with rfl|⟨b,rfl⟩ <;> exact (by exact zab (out:=zbf h) rfl (by rfl))) ?_
   refine je rfl ?_;refine je rfl ?_;refine je rfl ?_;refine je rfl ?_;refine je rfl ?_;refine je rfl ?_;refine zyu ?_;refine jce rfl fun u=> ?_
   refine x9 rfl rfl rfl fun b5=>⟨_,_,rfl,.inr ⟨_,rfl⟩,?_⟩
   refine jce rfl fun u=> ?_
   refine w8 rfl rfl (ybp h la3 b5 _ k1 k2) rfl ?_
   rintro _ _ ⟨rfl,rfl⟩
   rw [hpv]
   refine ⟨_,_,rfl,.inl rfl,?_⟩
   refine jcn ?_;refine lq rfl rfl (by exact qrA) ?_
   refine lq rfl rfl (by exact qrA) ?_
   refine lq rfl rfl (by exact qrA) ?_
   refine lq rfl rfl (by exact qrA) ?_
   refine ln ?_;refine rn ?_;refine z8 rfl (fun hc29=> ?_) (fun hc29=> ?_)
   ·refine rn ?_;exact zd7 (.cons _ _ _ _ (.agg _ _ _ _ _ _ _ rfl inferInstance inferInstance inferInstance rfl) (.cons _ _ _ _ (.tmp _ _ rfl) (.cons _ _ _ _ (.tmp _ _ rfl) .nil))) (.drop [_,_] _ _) ⟨rfl,by
     cases hp:zci h k with
     |none=>rw [hp] at eb;rw [eb] at hc29;cases hc29
     |some n=>rw [hp] at ei;subst ei;rw [zgb,if_pos hm,ziu,zxn k1 k2 zk hp];rfl⟩
   ·refine rn ?_;exact ⟨k+1,⟨by omega,zut k1 k2 zk (by cases hp:zci h k with|none=>rfl|some n=>rw [hp] at eb;rw [eb] at hc29;cases hc29)⟩,eA,by omega⟩
  ·have k2:11≤k:=by have:=oF hc16;omega
   refine rn ?_;exact zd7 (.cons _ _ _ _ (.agg _ _ _ _ _ _ _ rfl inferInstance inferInstance inferInstance rfl) (.cons _ _ _ _ (.tmp _ _ rfl) (.cons _ _ _ _ (.tmp _ _ rfl) .nil))) (.drop [_,_] _ _) ⟨rfl,by rw [zgb,if_pos hm,ziu,zuu k2 k3 zk];rfl⟩
theorem yh6 (h:Hist) (la:Lim 4611686018427387904 h):y9 Tryz.prog 45 [.agg (x4 h)] [.glob 3 148 y8,.glob 5 276 x3,.glob 6 279 y5,.glob 2 197 u0] (fun r h'=>h'= [.glob 3 148 y8,.glob 5 276 x3,.glob 6 279 y5,.glob 2 197 u0]∧r=bv (zbp h)):=by
 refine z6 Tryz.func45 rfl rfl rfl ?_
 refine rn ?_;refine z7 rfl (x9 rfl rfl rfl fun b1=> ?_)
 refine q1 ?_;refine u3 (k6 ?_)
 refine w6 (y6 ?_)
 obtain ⟨fi,fj,fb,fe,hf,hfb⟩:=zpe h
 refine rn ?_;refine qv rfl rfl (y4 rfl rfl (y3.qt (y3.of_fun (yig h la)) ((pt1 _ _ _).trans (.cons _ ((pt1 _ _ _).trans (.cons _ ((pt1 _ _ _).trans (.cons _ (pt1 _ _ _))))))))) ?_
 rw [hf]
 refine rn ?_;refine z7 rfl (x5 rfl fun b3=> ?_)
 refine rn ?_;refine q8 (fun hg2_2=> ?_) (fun hg2_2=> ?_)
 ·refine rn ?_;refine rq 2 ?_
  exact ⟨rfl,congrArg bv (by rw [hfb];simp_all)⟩
 ·refine rn ?_;refine rq 2 ?_
  exact ⟨rfl,congrArg bv (by rw [hfb];simp_all)⟩
theorem zrf (h:Hist) (la:Lim 4611686018427387904 h):y9 Tryz.prog 23 [.agg (x4 h)] [.glob 3 148 y8,.glob 5 276 x3,.glob 6 279 y5,.glob 2 197 u0] (fun r h'=>h'= [.glob 3 148 y8,.glob 5 276 x3,.glob 6 279 y5,.glob 2 197 u0]∧r=iv (u6 h)):=by
 refine z6 Tryz.func23 rfl rfl rfl ?_
 refine rn ?_;refine z7 rfl (x9 rfl rfl rfl fun b1=> ?_)
 refine rn ?_;refine qv rfl rfl (y4 rfl rfl (y3.qt (y3.of_fun (yf7 h la)) ((pt1 _ _ _).trans (.cons _ ((pt1 _ _ _).trans (.cons _ (pt1 _ _ _))))))) ?_
 refine rn ?_;refine z8 rfl (fun hc7=> ?_) (fun hc7=> ?_)
 ·have hm:¬zf9 h=true:=by intro q;rw [zck,if_pos q] at hc7;cases hc7
  have he:zck h=210:=by rw [zck,if_neg hm]
  refine rn ?_;refine rq 1 ?_
  exact ⟨rfl,by rw [u6,if_neg hm,he];rfl⟩
 ·have hm:zf9 h=true:=zx2.1 (by simpa using hc7)
  refine rn ?_;refine qv rfl rfl (y4 rfl rfl (y3.qt (y3.of_fun (yh6 h la)) ((pt1 _ _ _).trans (.cons _ ((pt1 _ _ _).trans (.cons _ ((pt1 _ _ _).trans (.cons _ (pt1 _ _ _))))))))) ?_
  refine rn ?_;refine z8 rfl (fun hc11=> ?_) (fun hc11=> ?_)
  ·refine rn ?_;refine rq 1 ?_
   exact ⟨rfl,by rw [u6,if_pos hm];simp_all;rfl⟩
  ·refine rn ?_;refine rq 1 ?_
   exact ⟨rfl,by rw [u6,if_pos hm];simp_all;rfl⟩
theorem zs3 (h:Hist) (kd:Int) (W:List Res):y9 Tryz.prog 120 [.agg (x4 h),iv kd] W (fun r h'=>∃b1 b2,h'= .box b1 28 (x4 h):: .box b2 3 [iv kd]::W∧r= .fn (.func 158) [] [pZ b1,pZ b2]):=by
 refine z6 Tryz.func120 rfl rfl rfl ?_
 refine rn ?_;refine z7 rfl (x9 rfl rfl rfl fun b2=> ?_)
 refine z7 rfl (x9 rfl rfl rfl fun b3=> ?_)
 refine rn ?_;exact j6 rfl (.perm (pt1 _ _ _) _) ⟨_,_,rfl,rfl⟩
theorem zo5 {σ:Type} (h:Hist) (la:h.evs.length≤1000000) (kd:Int) (y:AV) (b1 b2:Nat) (p q:Nat→σ→Prop) (I F:Nat→σ→List Res) (x0:σ) (hp0:p 0 x0) (hy:∀k x,(hk:k < h.evs.length)→p k x→(h.evs[k].kind==kd)=true→y3 Tryz.prog y [iv k,.agg (evR h.evs[k])] (.box b1 28 (x4 h):: .box b2 3 [iv kd]::I k x) (fun r h'=>∃x',(r=bv true∧p (k+1) x'∧h'= .box b1 28 (x4 h):: .box b2 3 [iv kd]::I (k+1) x')∨(r=bv false∧q k x'∧h'= .box b1 28 (x4 h):: .box b2 3 [iv kd]::F k x'))) (hs:∀k x,(hk:k < h.evs.length)→p k x→(h.evs[k].kind==kd)=false→∃x',p (k+1) x'∧I (k+1) x'=I k x):y9 Tryz.prog 158 [y,pZ b1,pZ b2] (.box b1 28 (x4 h):: .box b2 3 [iv kd]::I 0 x0) (fun r h'=>(∃x,p h.evs.length x∧h'=I h.evs.length x)∨∃k x,q k x∧h'=F k x):=by
 refine z6 Tryz.func158 rfl rfl rfl ?_
 refine rn ?_;refine zem h.evs.length p (fun k x=>⟨[(9,iv k),(0,y),(2,pZ b2),(7,zte h.evs),(8,iv (h.evs.map evR).length)],.box b1 28 (x4 h):: .box b2 3 [iv kd]::I k x,[]⟩) x0 hp0 es ?_
 intro k x lk zk
 refine rn ?_;refine z8 rfl (fun hc10=> ?_) (fun hc10=> ?_)
 ·have hk:=zd0 hc10
  have rk:=zdp (f:=evR) hk
  refine rn ?_;refine z7 rfl (x5 rfl fun b5=> ?_)
  refine rn ?_;refine q8 (fun hg3_4=> ?_) (fun hg3_4=> ?_)
  ·refine q1 ?_;refine q1 ?_;refine q1 ?_;refine z7 rfl (w8 rfl rfl (y3.fr1 (hy k x hk zk (by simpa using hg3_4))) rfl ?_)
   rintro _ _ ⟨_,rfl,x',⟨rfl,hp,rfl⟩|⟨rfl,hq,rfl⟩⟩
   ·refine rn ?_;refine z8 rfl (fun hc24=> ?_) (fun hc24=> ?_)
    ·first|cases hc24|exact absurd hc24 (by decide)|(exfalso;simp_all;done)
    ·refine rn ?_;exact ⟨hk,x',hp,eA⟩
   ·refine rn ?_;refine z8 rfl (fun hc24=> ?_) (fun hc24=> ?_)
    ·refine rn ?_;exact zd7 .nil (.drop [_,_,_] _ _) (.inr ⟨k,x',hq,rfl⟩)
    ·first|cases hc24|exact absurd hc24 (by decide)|(exfalso;simp_all;done)
  ·refine rn ?_;refine zp3 rfl ?_;refine rn ?_;obtain ⟨x',hp,e⟩:=hs k x hk zk (by simpa using hg3_4)
   exact ⟨hk,x',hp,by rw [e];exact eA⟩
 ·have qk:=zd1 hc10 lk
  subst qk
  refine rn ?_;exact zdw .nil (.drop [_,_] _ _) (.inl ⟨x,zk,rfl⟩)
def zn9 {α:Type} (kd:Int) (x:Nat→Ev→α) (p:Nat→Ev→Bool) (k:Nat) (e:Ev):Option α:=if (e.kind==kd && p k e)=true then some (x k e) else none
theorem yj0 {α:Type} {kd:Int} {x:Nat→Ev→α} {p:Nat→Ev→Bool} {k:Nat} {e:Ev} (h:(e.kind==kd)=false):zn9 kd x p k e=none:=by rw [zn9,h];simp
theorem yjz {α:Type} {kd:Int} {x:Nat→Ev→α} {p:Nat→Ev→Bool} {k:Nat} {e:Ev} (h:p k e=false):zn9 kd x p k e=none:=by rw [zn9,h];simp
theorem yjy {α:Type} {kd:Int} {x:Nat→Ev→α} {p:Nat→Ev→Bool} {k:Nat} {e:Ev} (h1:(e.kind==kd)=true) (h:p k e=true):zn9 kd x p k e=some (x k e):=by rw [zn9,h1,h];simp
theorem ycl {α:Type} {f:Nat→Ev→Option α} {l:List Ev} {k:Nat} (h:k < l.length) (hf:f k l[k]=none):zjn f l (k+1)=zjn f l k:=by rw [zxi h,hf];simp
theorem yjx {α:Type} {f:Nat→Ev→Option α} {l:List Ev} {k:Nat} {a:α} (h:k < l.length) (hf:f k l[k]=some a):zjn f l (k+1)=zjn f l k++ [a]:=by rw [zxi h,hf];rfl
theorem ycf (h:Hist) (la:h.evs.length≤1000000) (kd:Int) (fv:AV) (hone:fv.cellsOf=some [fv]) (W:List Res) (x:Nat→Ev→Int) (p:Nat→Ev→Bool) (hp:∀k,(hk:k < h.evs.length)→(h.evs[k].kind==kd)=true→y3 Tryz.prog fv [iv k,.agg (evR h.evs[k])] W (fun r h'=>h'=W∧r= .tup [iv (x k h.evs[k]),bv (p k h.evs[k])])):y9 Tryz.prog 73 [.agg (x4 h),iv kd,fv] W (fun r h'=>∃s:SV,h'= .row s.v 1 3 ((zjn (zn9 kd x p) h.evs h.evs.length).map za8)::W∧r= .v s.v):=by
 refine z6 Tryz.func73 rfl rfl rfl ?_
 refine rn ?_;refine z7 rfl (x9 rfl rfl rfl fun b3=> ?_)
 refine z7 rfl (x9 rfl hone rfl fun b5=> ?_)
 refine rn ?_;refine z7 rfl (x5 rfl fun b7=> ?_)
 refine rn ?_;refine z7 rfl (w8 rfl rfl (y3.of_fun (zs3 h kd _)) rfl ?_)
 rintro _ _ ⟨b1,b2,rfl,rfl⟩
 refine rn ?_;refine ziw (s':=⟨[(14,.fn (.func 158) [] [pZ b1,pZ b2]),(5,pZ b5),(7,pZ b7)],.box b1 28 (x4 h):: .box b2 3 [iv kd]:: .box b7 54 [.v (⟨none,0,0⟩:SV).v]:: .row (⟨none,0,0⟩:SV).v 1 3 ((zjn (zn9 kd x p) h.evs 0).map za8):: .box b5 129 [fv]:: .box b3 28 (x4 h)::W,[]⟩) (w7 (w7 (za1 1 3) (k8 ((pt1 _ _ _).trans (.cons _ ((pt1 _ _ _).trans (.cons _ (pt1 _ _ _))))))) es) ?_
 refine zlo (fun pend h''=>pend=none∧∃s:SV,h''= .box b7 54 [.v s.v]:: .row s.v 1 3 ((zjn (zn9 kd x p) h.evs h.evs.length).map za8):: .box b5 129 [fv]:: .box b3 28 (x4 h)::W) rfl (fun fn l q lp hlp=> ?_) (fun q h'' hK=> ?_) (fun q h'' c hK=> ?_)
 ·suffices hy:∀k (s:SV),(hk:k < h.evs.length)→True→(h.evs[k].kind==kd)=true→y3 Tryz.prog (yv l) [iv k,.agg (evR h.evs[k])] (.box b1 28 (x4 h):: .box b2 3 [iv kd]::lp .ready none:: .defs q:: .box b7 54 [.v s.v]:: .row s.v 1 3 ((zjn (zn9 kd x p) h.evs k).map za8):: .box b5 129 [fv]:: .box b3 28 (x4 h)::W) (fun r h'=>∃s':SV,(r=bv true∧True∧h'= .box b1 28 (x4 h):: .box b2 3 [iv kd]::lp .ready none:: .defs q:: .box b7 54 [.v s'.v]:: .row s'.v 1 3 ((zjn (zn9 kd x p) h.evs (k+1)).map za8):: .box b5 129 [fv]:: .box b3 28 (x4 h)::W)∨(r=bv false∧False∧h'= .box b1 28 (x4 h):: .box b2 3 [iv kd]:: [])) by
   refine y9.mono (y9.perm ((pt2 _ _ _ _).trans (.cons _ (pt2 _ _ _ _))) (zo5 h la kd (yv l) b1 b2 (fun _ _=>True) (fun _ _=>False) (fun k (s:SV)=>lp .ready none:: .defs q:: .box b7 54 [.v s.v]:: .row s.v 1 3 ((zjn (zn9 kd x p) h.evs k).map za8):: .box b5 129 [fv]:: .box b3 28 (x4 h)::W) (fun _ _=> []) ⟨none,0,0⟩ trivial hy (fun k s hk _ hn=>⟨s,trivial,by rw [ycl hk (yj0 hn)]⟩))) ?_
   rintro _ _ (⟨s,_,rfl⟩|⟨_,_,hF,_⟩)
   ·exact ⟨none,.ready,_,.refl _,by simp,rfl,s,rfl⟩
   ·exact hF.elim
  intro k s hk _ hkd
  refine y3.perm (pt2 _ _ _ _) (y3.ventE ?_)
  refine zdl hlp rfl rfl ?_
  refine rn ?_;refine z7 rfl (x5 rfl fun b9=> ?_)
  refine rn ?_;refine ⟨[(8,iv k),(9,pZ b9),(5,pZ b5),(7,pZ b7)],.box b9 66 (evR h.evs[k]):: .box b1 28 (x4 h):: .box b2 3 [iv kd]:: .defs q:: .box b7 54 [.v s.v]:: .row s.v 1 3 ((zjn (zn9 kd x p) h.evs k).map za8):: .box b5 129 [fv]:: .box b3 28 (x4 h)::W,w7 (k8 (pt1 _ _ _)) es,?_⟩
  refine rn ?_;refine qv rfl rfl (y4 rfl rfl (y3.qt (h2:= [_,_,_,_,_,_,_,_,_]) (hp k hk hkd) (zc0 [_,_,_,_,_,_,_,_,_] _))) ?_
  refine rn ?_;refine z8 rfl (fun hc24=> ?_) (fun hc24=> ?_)
  ·refine y6 ?_;refine q1 ?_;refine q1 ?_;refine q1 ?_;refine q1 ?_;refine q1 ?_;refine qq rfl rfl (zub rfl (by rfl) (by rfl)) ?_
   refine rn ?_;refine qv rfl rfl (v8 rfl rfl) ?_
   refine ybu s.v ?_
   refine z7 rfl (j8 rfl rfl (by simp only [oM,List.length_cons,List.length_nil];have:=zno (zn9 kd x p) h.evs k;omega) rfl (fun s33=> ?_) (zkh [x k h.evs[k]]))
   refine zak s33 fun sv hsv=> ?_
   subst hsv
   refine rn ?_;exact zgw (.refl _) ⟨_,_,.trans (.perm ((pt1 _ _ _).trans (.cons _ ((pt1 _ _ _).trans (.cons _ (pt1 _ _ _))))) _) (.drop [_] _ _),sv,.inl ⟨rfl,trivial,by rw [yjx hk (yjy hkd hc24),List.map_append];rfl⟩⟩
  ·refine rn ?_;exact zgw (.refl _) ⟨_,_,.trans (.perm ((pt1 _ _ _).trans (.cons _ ((pt1 _ _ _).trans (.cons _ (pt1 _ _ _))))) _) (.drop [_] _ _),s,.inl ⟨rfl,trivial,by rw [ycl hk (yjz hc24)]⟩⟩
 ·obtain ⟨_,s,rfl⟩:=hK
  refine rn ?_;exact zgf (.refl _) (.cons _ _ _ _ (.tmp _ _ rfl) .nil) (.trans (.drop1 _ _ _) (.trans (.perm (pt1 _ _ _) _) (.trans (.drop [_] _ _) (.trans (.perm (pt1 _ _ _) _) (.drop [_] _ _))))) ⟨s,rfl,rfl⟩
 ·obtain ⟨hc,_⟩:=hK
  exact absurd hc (by simp)
theorem ye7 (k s:Int) (e:Ev) (b2 b3 rm:Nat) (M:List (Int×Bool)):y9 Tryz.prog 74 [iv k,.agg (evR e),pZ b2,pZ b3] [.box b2 3 [iv s],.box b3 126 [mpv rm],.map rm (j9 zbm (zbe bv M))] (fun r h'=>h'= [.box b2 3 [iv s],.box b3 126 [mpv rm],.map rm (j9 zbm (zbe bv M))]∧r= .tup [iv e.t,bv (e.s==s && (zbn e.t M).getD false)]):=by
 refine z6 Tryz.func74 rfl rfl rfl ?_
 refine rn ?_;refine z7 rfl (x9 rfl rfl rfl fun b5=> ?_)
 refine rn ?_;refine j4 13 rfl ?_
 refine rn ?_;refine zet (fun hg1_6=> ?_) (fun hg1_6=> ?_)
 ·refine dq rfl rfl qrA ?_;refine dq rfl rfl qrA ?_;refine dq rfl rfl qrA ?_;refine dq rfl rfl (zbx (enc:=zbm) (k:=e.t) false rfl rfl) ?_
  refine rn ?_;refine rq 1 ?_
  exact ⟨rfl,by rw [hg1_6];rfl⟩
 ·refine rn ?_;refine rq 1 ?_
  exact ⟨rfl,by rw [hg1_6];rfl⟩
theorem ye8 (k s:Int) (e:Ev) (b2 b3 rm:Nat) (M:List (Int×Bool)):y9 Tryz.prog 161 [iv k,.agg (evR e),pZ b2,pZ b3] [.box b2 3 [iv s],.box b3 126 [mpv rm],.map rm (j9 zbm (zbe bv M))] (fun r h'=>h'= [.box b2 3 [iv s],.box b3 126 [mpv rm],.map rm (j9 zbm (zbe bv M))]∧r= .tup [iv e.t,bv (e.o==s && (zbn e.t M).getD false)]):=by
 refine z6 Tryz.func161 rfl rfl rfl ?_
 refine rn ?_;refine z7 rfl (x9 rfl rfl rfl fun b5=> ?_)
 refine rn ?_;refine j4 13 rfl ?_
 refine rn ?_;refine zet (fun hg1_6=> ?_) (fun hg1_6=> ?_)
 ·refine dq rfl rfl qrA ?_;refine dq rfl rfl qrA ?_;refine dq rfl rfl qrA ?_;refine dq rfl rfl (zbx (enc:=zbm) (k:=e.t) false rfl rfl) ?_
  refine rn ?_;refine rq 1 ?_
  exact ⟨rfl,by rw [hg1_6];rfl⟩
 ·refine rn ?_;refine rq 1 ?_
  exact ⟨rfl,by rw [hg1_6];rfl⟩
theorem ymm (x:Int) (s:Ord) (b1:Nat):y9 Tryz.prog 160 [.agg (zb7 s),pZ b1] [.box b1 3 [iv x]] (fun r h'=>h'= [.box b1 3 [iv x]]∧r=bv (s.o==x)):=by
 refine z6 Tryz.func160 rfl rfl rfl ?_
 refine rn ?_;refine z7 rfl (x9 rfl rfl rfl fun b2=> ?_)
 refine rn ?_;refine rq 1 ?_
 exact ⟨rfl,rfl⟩
theorem zw8 (h:Hist) (la:h.evs.length≤1000000) (W:List Res):y9 Tryz.prog 72 [.agg (x4 h)] W (fun r h'=>∃rm,h'= .map rm (j9 zbm (zbe bv (zjp h.evs)))::W∧r=mpv rm):=by
 refine z6 Tryz.func72 rfl rfl rfl ?_
 refine rn ?_;refine z7 rfl (x9 rfl rfl rfl fun b1=> ?_)
 refine rn ?_;refine z7 rfl (zau (enc:=zbm) rfl fun b6=> ?_)
 refine z7 rfl (x5 rfl fun b3=> ?_)
 refine rn ?_;refine z7 rfl (w8 rfl rfl (y3.of_fun (zs3 h 5 _)) rfl ?_)
 rintro _ _ ⟨e1,e2,rfl,rfl⟩
 refine rn ?_;refine ziw (s':=⟨[(8,.fn (.func 158) [] [pZ e1,pZ e2]),(3,pZ b3)],.box e1 28 (x4 h):: .box e2 3 [iv 5]:: .box b3 126 [mpv b6]:: .map b6 (j9 zbm (zbe bv (zjp (h.evs.take 0)))):: .box b1 28 (x4 h)::W,[]⟩) es ?_
 refine zlo (fun pend h''=>pend=none∧h''= .box b3 126 [mpv b6]:: .map b6 (j9 zbm (zbe bv (zjp (h.evs.take h.evs.length)))):: .box b1 28 (x4 h)::W) rfl (fun fn l q lp hlp=> ?_) (fun q h'' hK=> ?_) (fun q h'' c hK=> ?_)
 ·suffices hy:∀k (x:Unit),(hk:k < h.evs.length)→True→(h.evs[k].kind==5)=true→y3 Tryz.prog (yv l) [iv k,.agg (evR h.evs[k])] (.box e1 28 (x4 h):: .box e2 3 [iv 5]::lp .ready none:: .defs q:: .box b3 126 [mpv b6]:: .map b6 (j9 zbm (zbe bv (zjp (h.evs.take k)))):: .box b1 28 (x4 h)::W) (fun r h'=>∃x':Unit,(r=bv true∧True∧h'= .box e1 28 (x4 h):: .box e2 3 [iv 5]::lp .ready none:: .defs q:: .box b3 126 [mpv b6]:: .map b6 (j9 zbm (zbe bv (zjp (h.evs.take (k+1))))):: .box b1 28 (x4 h)::W)∨(r=bv false∧False∧h'= .box e1 28 (x4 h):: .box e2 3 [iv 5]:: [])) by
   refine y9.mono (y9.perm ((pt2 _ _ _ _).trans (.cons _ (pt2 _ _ _ _))) (zo5 h la 5 (yv l) e1 e2 (fun _ _=>True) (fun _ _=>False) (fun k (_:Unit)=>lp .ready none:: .defs q:: .box b3 126 [mpv b6]:: .map b6 (j9 zbm (zbe bv (zjp (h.evs.take k)))):: .box b1 28 (x4 h)::W) (fun _ _=> []) () trivial hy (fun k s hk _ hn=>⟨s,trivial,by rw [ykd hk hn]⟩))) ?_
   rintro _ _ (⟨s,_,rfl⟩|⟨_,_,hF,_⟩)
   ·exact ⟨none,.ready,_,.refl _,by simp,rfl,rfl⟩
   ·exact hF.elim
  intro k s hk _ hkd
  refine y3.perm (pt2 _ _ _ _) (y3.ventE ?_)
  refine zdl hlp rfl rfl ?_
  refine rn ?_;refine z7 rfl (x5 rfl fun b5=> ?_)
  refine rn ?_;refine ⟨[(5,pZ b5),(3,pZ b3)],.box b5 66 (evR h.evs[k]):: .box e1 28 (x4 h):: .box e2 3 [iv 5]:: .defs q:: .box b3 126 [mpv b6]:: .map b6 (j9 zbm (zbe bv (zjp (h.evs.take k)))):: .box b1 28 (x4 h)::W,w7 (k8 (pt1 _ _ _)) es,?_⟩
  refine rn ?_;refine z7 rfl (za0 (g:=bv) (enc:=zbm) (k:=h.evs[k].t) (v:=true) rfl rfl rfl ?_)
  refine rn ?_;exact zgw (.refl _) ⟨_,_,.trans (.perm ((pt1 _ _ _).trans (.cons _ ((pt1 _ _ _).trans (.cons _ (pt1 _ _ _))))) _) (.drop [_] _ _),(),.inl ⟨rfl,trivial,by rw [ykc hk hkd]⟩⟩
 ·obtain ⟨_,rfl⟩:=hK
  refine rn ?_;exact zgf (.refl _) (.cons _ _ _ _ (.tmp _ _ rfl) .nil) (.trans (.drop1 _ _ _) (.trans (.perm (pt1 _ _ _) _) (.drop [_] _ _))) ⟨b6,by rw [List.take_length],rfl⟩
 ·obtain ⟨hc,_⟩:=hK
  exact absurd hc (by simp)
theorem zyd {h:Hist} {n many:Int} (he:zii h n many≠0) (X:List Int):(onE (zii h n many) X).map za8= []:=by rw [onE,if_neg he];rfl
theorem zxh {α:Type} (kd:Int) (g:Ev→α) (q:Ev→Bool) (l:List Ev):zjn (zn9 kd (fun _ e=>g e) (fun _ e=>q e)) l l.length=(l.filter fun e=>e.kind==kd && q e).map g:=ya7 (fun _ _=>rfl) l
theorem ycg (h:Hist) (la:Lim 4611686018427387904 h) (n many:Int) (fv:AV) (hone:fv.cellsOf=some [fv]) (X:List Int) (W:List Res) (hp:zii h n many=0→y3 Tryz.prog fv [] (.glob 3 148 y8:: .glob 5 276 x3:: .glob 6 279 y5:: .glob 2 197 u0::W) (fun r h'=>∃s:SV,h'= .row s.v 1 3 (X.map za8):: .glob 3 148 y8:: .glob 5 276 x3:: .glob 6 279 y5:: .glob 2 197 u0::W∧r= .v s.v)):y9 Tryz.prog 70 [.agg (x4 h),iv n,iv many,fv] (.glob 3 148 y8:: .glob 5 276 x3:: .glob 6 279 y5:: .glob 2 197 u0::W) (fun r h'=>∃s:SV,h'= .row s.v 1 3 ((onE (zii h n many) X).map za8):: .glob 3 148 y8:: .glob 5 276 x3:: .glob 6 279 y5:: .glob 2 197 u0::W∧r= .tup [.v s.v,iv (zii h n many)]):=by
 refine z6 Tryz.func70 rfl rfl rfl ?_
 refine rn ?_;refine z7 rfl (x9 rfl rfl rfl fun b4=> ?_)
 refine rn ?_;refine qv rfl rfl (y4 rfl rfl (y3.qt (y3.of_fun (zrf h la)) ((pt1 _ _ _).trans (.cons _ ((pt1 _ _ _).trans (.cons _ ((pt1 _ _ _).trans (.cons _ (pt1 _ _ _))))))))) ?_
 refine rn ?_;refine z8 rfl (fun hc15=> ?_) (fun hc15=> ?_)
 ·have hc:u6 h≠0:=by simpa using hc15
  refine rn ?_;exact zbl rfl rfl (.trans (.drop [_] _ _) (k9 1 3 _)) ⟨⟨none,0,0⟩,by rw [zyd (by rw [ykr hc];exact hc)];rfl,by rw [ykr hc];rfl⟩
 ·have hc:u6 h=0:=by simpa using hc15
  refine rn ?_;refine q8 (fun hg5_2=> ?_) (fun hg5_2=> ?_)
  ·refine rn ?_;refine zry rfl ?_;have hn:¬(0≤n∧n < many):=by first|(have q:=oT hg5_2;omega)|(have q:=oT hc24;omega)
   refine rn ?_;exact zbl rfl rfl (.trans (.drop [_] _ _) (k9 1 3 _)) ⟨⟨none,0,0⟩,by rw [zyd (by rw [ybq hc hn];decide)];rfl,by rw [ybq hc hn];rfl⟩
  ·refine rn ?_;refine z8 rfl (fun hc24=> ?_) (fun hc24=> ?_)
   ·have hn:¬(0≤n∧n < many):=by first|(have q:=oT hg5_2;omega)|(have q:=oT hc24;omega)
    refine rn ?_;exact zbl rfl rfl (.trans (.drop [_] _ _) (k9 1 3 _)) ⟨⟨none,0,0⟩,by rw [zyd (by rw [ybq hc hn];decide)];rfl,by rw [ybq hc hn];rfl⟩
   ·have hn:0≤n∧n < many:=by have q:=oF hg5_2;have q':=oF hc24;omega
    refine rn ?_;refine z7 rfl (w8 rfl rfl (y3.fr1 (hp (zyc hc hn))) rfl ?_)
    rintro _ _ ⟨_,rfl,s,rfl,rfl⟩
    refine rn ?_;exact zbl rfl rfl (.drop [_] _ _) ⟨s,by rw [zyc hc hn];rfl,by rw [zyc hc hn];rfl⟩
theorem zye {h:Hist} {n many:Int} (he:zii h n many=0):Lim 3000 h:=zq8 (zfn (ybr he).1).1
theorem ygj {h:Hist} {n many:Int} (he:zii h n many=0):h.evs.length≤1000000:=Nat.le_trans (zye he).evs (by decide)
theorem zfa {h:Hist} (he:u6 h=0):Lim 3000 h:=zq8 (zfn (zbb.1 he)).1
theorem yat (l:List Ev) (s:Int):zjn (zn9 1 (fun _ e=>e.t) (fun _ e=>e.s==s && (zbn e.t (zjp l)).getD false)) l l.length=zei l s:=by
 rw [zxh 1 Ev.t (fun e=>e.s==s && (zbn e.t (zjp l)).getD false),zei];simp only [ztf]
theorem yff (l:List Ev) (x:Int):zjn (zn9 2 (fun _ e=>e.t) (fun _ e=>e.o==x && (zbn e.t (zjp l)).getD false)) l l.length=yg1 l x:=by
 rw [zxh 2 Ev.t (fun e=>e.o==x && (zbn e.t (zjp l)).getD false),yg1];simp only [ztf]
theorem yio {h:Hist} {x:Int} (hc:decide (za5 (fun o:Ord=>o.o==x) 0 h.ords ≥ 0)=true):∃k,∃hk:k < h.ords.length,za5 (fun o:Ord=>o.o==x) 0 h.ords=(k:Int)∧zfi h x=h.ords[k].ts:=by
 have:=zho (fun o:Ord=>o.o==x) h.ords 0
 cases hf:h.ords.find? (fun o=>o.o==x) with
 |none=>rw [hf] at this;simp only at this;rw [this] at hc;exact absurd hc (by decide)
 |some o=>
  rw [hf] at this
  obtain ⟨k,hk,e,eo,_⟩:=this
  exact ⟨k,hk,by rw [e,Nat.zero_add],by rw [zfi,hf,eo]⟩
theorem yin {h:Hist} {x:Int} (hc:decide (za5 (fun o:Ord=>o.o==x) 0 h.ords ≥ 0)=false):zfi h x=za6 (yg1 h.evs x):=by
 have:=zho (fun o:Ord=>o.o==x) h.ords 0
 cases hf:h.ords.find? (fun o=>o.o==x) with
 |none=>rw [zfi,hf]
 |some o=>
  rw [hf] at this
  obtain ⟨k,hk,e,eo,_⟩:=this
  rw [e] at hc
  have:=oF hc
  omega
theorem ye9 (h:Hist) (la:h.evs.length≤1000000) (s:Int) (b2 b4:Nat):y9 Tryz.prog 71 [pZ b2,pZ b4] (.glob 3 148 y8:: .glob 5 276 x3:: .glob 6 279 y5:: .glob 2 197 u0:: .box b2 28 (x4 h):: .box b4 3 [iv s]:: []) (fun r h'=>∃s':SV,h'= .row s'.v 1 3 ((zei h.evs s).map za8):: .glob 3 148 y8:: .glob 5 276 x3:: .glob 6 279 y5:: .glob 2 197 u0:: .box b2 28 (x4 h):: .box b4 3 [iv s]:: []∧r= .v s'.v):=by
 refine z6 Tryz.func71 rfl rfl rfl ?_
 refine rn ?_;refine z7 rfl (w8 rfl rfl (y3.of_fun (zw8 h la _)) rfl ?_)
 rintro _ _ ⟨rm,rfl,rfl⟩
 refine z7 rfl (x5 rfl fun b3=> ?_)
 refine rn ?_;refine z7 rfl (w8 rfl rfl (y3.of_fun (ycf h la 1 _ rfl _ (fun _ e=>e.t) (fun _ e=>e.s==s && (zbn e.t (zjp h.evs)).getD false) (fun k hk _=>y3.qt (y3.of_acall (fs:= []) (cs:= [pZ b4,pZ b3]) (ye7 k s h.evs[k] b4 b3 rm (zjp h.evs))) (pt7 _ _ _ _ _ _ _ _ _)))) rfl ?_)
 rintro _ _ ⟨s',rfl,rfl⟩
 refine rn ?_;exact j6 rfl (.trans (.perm ((pt1 _ _ _).trans (.cons _ (pt1 _ _ _))) _) (.drop [_,_] _ _)) ⟨s',by rw [yat],rfl⟩
theorem yfa (h:Hist) (la:Lim 4611686018427387904 h) (n:Int):y9 Tryz.prog 28 [.agg (x4 h),iv n] (.glob 3 148 y8:: .glob 5 276 x3:: .glob 6 279 y5:: .glob 2 197 u0:: []) (fun r h'=>∃s:SV,h'= .row s.v 1 3 ((onE (zii h n h.ss.length) (zei h.evs n)).map za8):: .glob 3 148 y8:: .glob 5 276 x3:: .glob 6 279 y5:: .glob 2 197 u0:: []∧r= .tup [.v s.v,iv (zii h n h.ss.length)]):=by
 refine z6 Tryz.func28 rfl rfl rfl ?_
 refine rn ?_;refine z7 rfl (x9 rfl rfl rfl fun b2=> ?_)
 refine z7 rfl (x9 rfl rfl rfl fun b3=> ?_)
 refine rn ?_;refine z7 rfl (w8 rfl rfl (y3.perm ((pt2 _ _ _ _).trans (.cons _ ((pt2 _ _ _ _).trans (.cons _ ((pt2 _ _ _ _).trans (.cons _ ((pt2 _ _ _ _).trans (.cons _ (pt1 _ _ _))))))))) (y3.of_fun (ycg h la n (h.ss.map zay).length (.fn (.func 71) [] [pZ b2,pZ b3]) rfl (zei h.evs n) [.box b2 28 (x4 h),.box b3 3 [iv n]] (fun he=>y3.of_acall (fs:= []) (cs:= [pZ b2,pZ b3]) (ye9 h (ygj he) n b2 b3))))) rfl ?_)
 rintro _ _ ⟨s,rfl,rfl⟩
 refine rn ?_;exact zbl rfl rfl (.trans (.perm ((pt5 _ _ _ _ _ _ _).trans (.cons _ (pt5 _ _ _ _ _ _ _))) _) (.drop [_,_] _ _)) ⟨s,by simp only [oM],by simp only [oM];rfl⟩
theorem yi7 (h:Hist) (la:Lim 4611686018427387904 h) (n:Int):y9 Tryz.prog 28 [.agg (x4 h),iv n] (.glob 3 148 y8:: .glob 5 276 x3:: .glob 6 279 y5:: .glob 2 197 u0:: []) (fun r h'=>h'= .glob 3 148 y8:: .glob 5 276 x3:: .glob 6 279 y5:: .glob 2 197 u0:: []∧r= .tup [zft (onE (zii h n h.ss.length) (zei h.evs n)),iv (zii h n h.ss.length)]):=
 (yfa h la n).ventR (by rintro _ _ ⟨s,rfl,rfl⟩;exact ⟨_,_,zai [] [_],rfl,rfl⟩)
theorem yjb (h:Hist) (la:Lim 3000 h) (x:Int) (W:List Res):y9 Tryz.prog 122 [.agg (x4 h),iv x] W (fun r h'=>∃s:SV,h'= .row s.v 1 3 ((zfi h x).map za8)::W∧r= .v s.v):=by
 refine z6 Tryz.func122 rfl rfl rfl ?_
 have le:h.evs.length≤1000000:=Nat.le_trans la.evs (by decide)
 have lo:=la.ords
 refine rn ?_;refine z7 rfl (x9 rfl rfl rfl fun b2=> ?_)
 refine z7 rfl (x9 rfl rfl rfl fun b3=> ?_)
 refine rn ?_;refine qv rfl rfl (y4 rfl rfl (y3.of_fun (zit h.ords _ (fun o:Ord=>o.o==x) _ (fun a _=>y3.qt (y3.of_acall (fs:= []) (cs:= [pZ b3]) (ymm x a b3)) (.refl _)) (Nat.le_trans la.ords (by decide))))) ?_
 refine rn ?_;refine z8 rfl (fun hc13=> ?_) (fun hc13=> ?_)
 ·obtain ⟨k,hk,ek,hx⟩:=yio hc13
  have rk:=zdp (f:=zb7) hk
  rw [ek]
  refine rn ?_;refine z7 rfl (w8 rfl rfl (y3.fr (y3.rowS (y3.of_fun (ze9 (h.ords[k].ts.map za8) (by rw [oM];exact Nat.le_trans (la.ordts h.ords[k] (List.getElem_mem hk)) (by decide)) (zkh _)))) (.refl _)) rfl ?_)
  rintro _ _ ⟨_,rfl,s,rfl,rfl⟩
  refine rn ?_;exact j6 rfl (.trans (.perm ((pt1 _ _ _).trans (.cons _ (pt1 _ _ _))) _) (.drop [_,_] _ _)) ⟨s,by rw [hx],rfl⟩
 ·have hx:=yin hc13
  refine rn ?_;refine z7 rfl (w8 rfl rfl (y3.of_fun (zw8 h le _)) rfl ?_)
  rintro _ _ ⟨rm,rfl,rfl⟩
  refine z7 rfl (x5 rfl fun b6=> ?_)
  refine rn ?_;refine z7 rfl (w8 rfl rfl (y3.of_fun (ycf h le 2 _ rfl _ (fun _ e=>e.t) (fun _ e=>e.o==x && (zbn e.t (zjp h.evs)).getD false) (fun k hk _=>y3.qt (y3.of_acall (fs:= []) (cs:= [pZ b3,pZ b6]) (ye8 k x h.evs[k] b3 b6 rm (zjp h.evs))) (pt2 _ _ _ _)))) rfl ?_)
  rintro _ _ ⟨s,rfl,rfl⟩
  refine rn ?_;refine z7 rfl (w8 rfl rfl (zky (y3.of_fun (yf6 s _ (by have:=(zno (zn9 2 (fun _ e=>e.t) (fun _ e=>e.o==x && (zbn e.t (zjp h.evs)).getD false)) h.evs h.evs.length);omega)))) rfl ?_)
  rintro _ _ ⟨s',rfl,rfl⟩
  refine rn ?_;exact j6 rfl (.trans (.perm ((pt1 _ _ _).trans (.cons _ ((pt1 _ _ _).trans (.cons _ ((pt1 _ _ _).trans (.cons _ (pt1 _ _ _))))))) _) (.drop [_,_,_,_] _ _)) ⟨s',by rw [hx,yff],rfl⟩
theorem yja (h:Hist) (la:Lim 3000 h) (x:Int) (b2 b3:Nat):y9 Tryz.prog 121 [pZ b2,pZ b3] (.glob 3 148 y8:: .glob 5 276 x3:: .glob 6 279 y5:: .glob 2 197 u0:: .box b2 28 (x4 h):: .box b3 3 [iv x]:: []) (fun r h'=>∃s:SV,h'= .row s.v 1 3 ((zfi h x).map za8):: .glob 3 148 y8:: .glob 5 276 x3:: .glob 6 279 y5:: .glob 2 197 u0:: .box b2 28 (x4 h):: .box b3 3 [iv x]:: []∧r= .v s.v):=by
 refine z6 Tryz.func121 rfl rfl rfl ?_
 refine rn ?_;refine z7 rfl (w8 rfl rfl (y3.of_fun (yjb h la x _)) rfl ?_)
 rintro _ _ ⟨s,rfl,rfl⟩
 refine rn ?_;exact j6 rfl (.refl _ _) ⟨s,rfl,rfl⟩
theorem yfb (h:Hist) (la:Lim 4611686018427387904 h) (x:Int):y9 Tryz.prog 75 [.agg (x4 h),iv x] (.glob 3 148 y8:: .glob 5 276 x3:: .glob 6 279 y5:: .glob 2 197 u0:: []) (fun r h'=>∃s:SV,h'= .row s.v 1 3 ((onE (zii h x h.os.length) (zfi h x)).map za8):: .glob 3 148 y8:: .glob 5 276 x3:: .glob 6 279 y5:: .glob 2 197 u0:: []∧r= .tup [.v s.v,iv (zii h x h.os.length)]):=by
 refine z6 Tryz.func75 rfl rfl rfl ?_
 refine rn ?_;refine z7 rfl (x9 rfl rfl rfl fun b2=> ?_)
 refine z7 rfl (x9 rfl rfl rfl fun b3=> ?_)
 refine rn ?_;refine z7 rfl (w8 rfl rfl (y3.perm ((pt2 _ _ _ _).trans (.cons _ ((pt2 _ _ _ _).trans (.cons _ ((pt2 _ _ _ _).trans (.cons _ ((pt2 _ _ _ _).trans (.cons _ (pt1 _ _ _))))))))) (y3.of_fun (ycg h la x (h.os.map zay).length (.fn (.func 121) [] [pZ b2,pZ b3]) rfl (zfi h x) [.box b2 28 (x4 h),.box b3 3 [iv x]] (fun he=>y3.of_acall (fs:= []) (cs:= [pZ b2,pZ b3]) (yja h (zye he) x b2 b3))))) rfl ?_)
 rintro _ _ ⟨s,rfl,rfl⟩
 refine rn ?_;exact zbl rfl rfl (.trans (.perm ((pt5 _ _ _ _ _ _ _).trans (.cons _ (pt5 _ _ _ _ _ _ _))) _) (.drop [_,_] _ _)) ⟨s,by simp only [oM],by simp only [oM];rfl⟩
theorem yi8 (h:Hist) (la:Lim 4611686018427387904 h) (x:Int):y9 Tryz.prog 75 [.agg (x4 h),iv x] (.glob 3 148 y8:: .glob 5 276 x3:: .glob 6 279 y5:: .glob 2 197 u0:: []) (fun r h'=>h'= .glob 3 148 y8:: .glob 5 276 x3:: .glob 6 279 y5:: .glob 2 197 u0:: []∧r= .tup [zft (onE (zii h x h.os.length) (zfi h x)),iv (zii h x h.os.length)]):=
 (yfb h la x).ventR (by rintro _ _ ⟨s,rfl,rfl⟩;exact ⟨_,_,zai [] [_],rfl,rfl⟩)
theorem zw2 (l:List Ev) (t x:Int):∀k,k≤l.length→zbn (t,x) (zn7 (l.take k))=(zul l t x k).map Prod.fst
 |0,_=>rfl
 |k+1,hk=>by
  have ih:=zw2 l t x k (by omega)
  rw [List.take_succ_eq_append_getElem hk,zdi,zul,List.getElem?_eq_getElem hk]
  simp only
  by_cases hw:zr2 t x l[k]=true
  ·obtain ⟨h2,ht,hx⟩:=zls.1 hw
   rw [if_pos (by simpa using h2),zc4,if_pos (by rw [kTO,ht,hx]),if_pos hw];rfl
  ·rw [if_neg hw]
   by_cases h2:l[k].kind=2
   ·rw [if_pos (by simpa using h2),zc4,if_neg,ih]
    intro e
    rw [kTO,Prod.mk.injEq] at e
    exact hw (zls.2 ⟨h2,e.1,e.2⟩)
   ·rw [if_neg (by simpa using h2),ih]
theorem ye6 (h:Hist) (t x:Int):(zbn (t,x) (zn7 h.evs)).getD ⟨0,0⟩=zyv h x t:=by
 have:=zw2 h.evs t x h.evs.length (Nat.le_refl _)
 rw [List.take_length] at this
 rw [this,zyv,ym0]
 cases zul h.evs t x h.evs.length <;> rfl
abbrev rkS (h:Hist) (rk:Nat):Res:= .map rk (j9 zej (zbe iv (rkM h h.os.length)))
theorem ylz (h:Hist) (n:Nat):rkM h (n+1)=zhz h n 0 ((zfi h n).take (zfi h n).length) (zd8 (ztx n ⟨0,0⟩) 0 (rkM h n)):=by rw [List.take_length];rfl
theorem yjg {h:Hist} (hc:u6 h=0) {x:Int} (h0:0≤x) (h1:x < h.os.length):(zfi h x).length≤3000:=by
 rw [(zrg (zbb.1 hc) h0 h1).2.1]
 exact Nat.le_trans (zhw h.evs x) (zfa hc).evs
theorem yi5 {h:Hist} {j:Nat} (hj:j < h.evs.length) (hw:(h.evs[j].kind==2)=true):zn7 (h.evs.take (j+1))=zd8 (h.evs[j].t,h.evs[j].o) h.evs[j].v (zn7 (h.evs.take j)):=by
 rw [List.take_succ_eq_append_getElem hj,zdi,if_pos hw];rfl
theorem yi6 {h:Hist} {j:Nat} (hj:j < h.evs.length) (hw:(h.evs[j].kind==2)=false):zn7 (h.evs.take (j+1))=zn7 (h.evs.take j):=by
 rw [List.take_succ_eq_append_getElem hj,zdi,hw];rfl
theorem yc1 {h:Hist} {t kd:Int} {k:Nat} {e:Ev} {r:Int} (ht:e.t=t) (hk:e.kind=kd) (hr:zzt h e.o e.v=some r):zlq h t kd k e= [⟨e.o,r,k⟩]:=by
 rw [zlq,if_pos (by simp [ht,hk]),hr]
theorem zts {h:Hist} {t kd:Int} {k:Nat} {e:Ev} (hn:¬(e.t=t∧e.kind=kd)):zlq h t kd k e= []:=by
 rw [zlq,if_neg];intro q;rw [Bool.and_eq_true,beq_iff_eq,beq_iff_eq] at q;exact hn q
theorem yc2 {h:Hist} {t kd:Int} {k:Nat} {e:Ev} (hr:zzt h e.o e.v=none):zlq h t kd k e= []:=by
 rw [zlq];split
 ·rw [hr]
 ·rfl
theorem ziy {h:Hist} {t kd:Int} {k:Nat} (hk:k < h.evs.length):zn2 h t kd (k+1)=zn2 h t kd k++zlq h t kd k h.evs[k]:=by rw [zn2,List.getElem?_eq_getElem hk]
theorem ybz (h:Hist) (t kd:Int) (k:Nat) (e:Ev):(zlq h t kd k e).length≤1:=by
 rw [zlq];split
 ·split <;> simp
 ·simp
theorem zfd (h:Hist) (t kd:Int):∀k,(zn2 h t kd k).length≤k
 |0=>Nat.le_refl _
 |k+1=>by
  have h1:=zfd h t kd k
  rw [zn2,List.length_append]
  split
  ·have h2:=ybz h t kd k
   rename_i e _
   have:=h2 e;omega
  ·simp;omega
theorem yk0 {h:Hist} {t kd:Int} {a:Acc} (ha:a∈zp5 h t kd):0≤a.o∧a.o < h.os.length:=by
 obtain ⟨k,hk,_,_,ho,_,hr⟩:=yk1 ha
 by_cases q:((h.os.length:Nat):Int)≤h.evs[k].o∨h.evs[k].o < 0
 ·rw [zzt,zv3 h _ _ _ q] at hr;cases hr
 ·rw [ho];omega
structure Dos where
 t:Int
 A:List Acc
 B:List Acc
abbrev zf3 (l:List Acc):AV:= .list false 3 (l.map accR)
abbrev zb1 (d:Dos):List AV:= [iv d.t,zf3 d.A,zf3 d.B]
abbrev zd3 (l:List Dos):AV:= .list false 3 (l.map zb1)
def zro (h:Hist) (t:Int):Dos:=⟨t,zp9 h.os.length (zp5 h t 3),zp9 h.os.length (zp5 h t 2)⟩
def zaa (h:Hist) (s:Int):List Dos:=(zei h.evs s).map (zro h)
def zds (h:Hist) (s:Int):Int:=zii h s h.ss.length
def yau (h:Hist) (s:Int):List Dos:=if zds h s=0 then zaa h s else []
theorem zsz (h:Hist) (s:Int):(zei h.evs s).length≤h.evs.length:=by
 rw [zei,oM];exact List.length_filter_le _ _
theorem ye4 {h:Hist} {s:Int} (he:zds h s≠0):yau h s= []:=if_neg he
theorem zrc {h:Hist} {s:Int} (he:zds h s=0):yau h s=zaa h s:=if_pos he
instance:Chk3 Tryz.prog 139:=⟨fun e w a b c=>by kernel_rfl⟩
theorem yi9 (h:Hist) (la:Lim 4611686018427387904 h) (hc:u6 h=0) (x:Int) (h0:0≤x) (h1:x < h.os.length):y9 Tryz.prog 75 [.agg (x4 h),iv x] (.glob 3 148 y8:: .glob 5 276 x3:: .glob 6 279 y5:: .glob 2 197 u0:: []) (fun r h'=>h'= .glob 3 148 y8:: .glob 5 276 x3:: .glob 6 279 y5:: .glob 2 197 u0:: []∧r= .tup [zft (zfi h x),iv 0]):=(yi8 h la x).mono fun _ _ q=>⟨q.1,by rw [q.2,zyc hc ⟨h0,h1⟩];rfl⟩
theorem zzl (h:Hist) (la:Lim 4611686018427387904 h) (hc:u6 h=0):y9 Tryz.prog 117 [.agg (x4 h)] (.glob 3 148 y8:: .glob 5 276 x3:: .glob 6 279 y5:: .glob 2 197 u0:: []) (fun r h'=>∃rk,h'=rkS h rk:: .glob 3 148 y8:: .glob 5 276 x3:: .glob 6 279 y5:: .glob 2 197 u0:: []∧r=mpv rk):=by
 refine z6 Tryz.func117 rfl rfl rfl ?_
 have lA:=zfa hc
 have lO:=lA.os
 have lE:=lA.evs
 refine rn ?_;refine z7 rfl (x9 rfl rfl rfl fun b1=> ?_)
 refine rn ?_;refine z7 rfl (zau (enc:=zej) rfl fun bO=> ?_)
 refine rn ?_;refine z7 rfl (zau (enc:=zda) rfl fun bL=> ?_)
 refine rn ?_;refine zbc h.evs.length (fun _=>True) (fun j=>⟨[(17,iv j),(1,pZ b1),(3,mpv bO),(4,mpv bL),(15,zte h.evs),(16,iv (h.evs.map evR).length)],.map bL (j9 zda (zbe zty (zn7 (h.evs.take j)))):: .map bO (j9 zej (zbe iv [])):: .box b1 28 (x4 h):: .glob 3 148 y8:: .glob 5 276 x3:: .glob 6 279 y5:: .glob 2 197 u0:: [],[]⟩) trivial es ?_
 intro j lj _
 refine rn ?_;refine z8 rfl (fun hc18=> ?_) (fun hc18=> ?_)
 ·have hj:=zd0 hc18
  have rj:=zdp (f:=evR) hj
  refine rn ?_;refine z7 rfl (x5 rfl fun b6=> ?_)
  refine rn ?_;refine z8 rfl (fun hc23=> ?_) (fun hc23=> ?_)
  ·have hw:(h.evs[j].kind==2)=true:=by simpa using hc23
   refine y6 ?_;refine q1 ?_;refine q1 ?_;refine q1 ?_;refine q1 ?_;refine q1 ?_;refine qq rfl rfl (zgy (out:= [iv h.evs[j].t,iv h.evs[j].o]) rfl (by rfl)) ?_
   refine rn ?_;refine z7 rfl (za0 (g:=zty) (enc:=zda) (k:=(h.evs[j].t,h.evs[j].o)) (v:=h.evs[j].v) rfl rfl rfl ?_)
   refine rn ?_;exact ⟨hj,trivial,by rw [yi5 hj hw];exact eA⟩
  ·have hw:(h.evs[j].kind==2)=false:=by simpa using hc23
   refine rn ?_;exact ⟨hj,trivial,by rw [yi6 hj hw];exact eA⟩
 ·have qj:=zd1 hc18 lj
  subst qj
  rw [List.take_length]
  refine rn ?_;refine zbc h.os.length (fun _=>True) (fun k=>⟨[(36,iv k),(1,pZ b1),(3,mpv bO),(4,mpv bL),(35,iv (h.os.map zay).length)],.map bL (j9 zda (zbe zty (zn7 h.evs))):: .map bO (j9 zej (zbe iv (rkM h k))):: .box b1 28 (x4 h):: .glob 3 148 y8:: .glob 5 276 x3:: .glob 6 279 y5:: .glob 2 197 u0:: [],[]⟩) trivial es ?_
  intro k lk _
  refine rn ?_;refine z8 rfl (fun hc37=> ?_) (fun hc37=> ?_)
  ·have hk:k < h.os.length:=by have q:=oT hc37;rw [oM] at q;omega
   have k0:(0:Int)≤(k:Int):=by omega
   have k1:(k:Int) < h.os.length:=by omega
   have hb:=yjg hc k0 k1
   refine zad ?_;refine k6 ?_;refine w6 ?_;refine zae ?_;refine w6 (y6 ?_)
   refine q1 ?_;refine q1 ?_;refine u3 (k6 ?_)
   refine w6 (y6 ?_)
   refine q1 ?_;refine q1 ?_;refine qq rfl rfl (zab (out:= [iv k,iv 0,iv 0]) rfl (by rfl)) ?_
   refine z7 rfl (za0 (g:=iv) (enc:=zej) (k:=((k:Int),(0:Int),(0:Int))) (v:=(0:Int)) rfl rfl rfl ?_)
   refine rn ?_;refine qv rfl rfl (y4 rfl rfl (y3.qt (y3.of_fun (yi9 h la hc k k0 k1)) ((pt3 _ _ _ _ _).trans (.cons _ ((pt3 _ _ _ _ _).trans (.cons _ ((pt3 _ _ _ _ _).trans (.cons _ (pt3 _ _ _ _ _))))))))) ?_
   refine rn ?_;refine zbc (zfi h k).length (fun _=>True) (fun j=>⟨[(50,iv j),(1,pZ b1),(3,mpv bO),(4,mpv bL),(7,iv k),(35,iv (h.os.map zay).length),(36,iv k),(48,zft (zfi h k)),(49,iv ((zfi h k).map za8).length)],.map bL (j9 zda (zbe zty (zn7 h.evs))):: .map bO (j9 zej (zbe iv (zhz h k 0 ((zfi h k).take j) (zd8 (ztx k ⟨0,0⟩) 0 (rkM h k))))):: .box b1 28 (x4 h):: .glob 3 148 y8:: .glob 5 276 x3:: .glob 6 279 y5:: .glob 2 197 u0:: [],[]⟩) trivial es ?_
   intro j lj _
   refine rn ?_;refine z8 rfl (fun hc51=> ?_) (fun hc51=> ?_)
   ·have hj:=zd0 hc51
    have rj:=zdp (f:=za8) hj
    refine zad ?_;refine k6 ?_;refine w6 ?_;refine zae ?_;refine w6 (y6 ?_)
    refine q1 ?_;refine q1 ?_;refine q1 ?_;refine q1 ?_;refine q1 ?_;refine u3 (k6 ?_)
    refine y6 ?_;refine q1 ?_;refine q1 ?_;refine q1 ?_;refine q1 ?_;refine q1 ?_;refine qq rfl rfl (zgy (out:= [iv (zfi h k)[j],iv k]) rfl (by rfl)) ?_
    refine qq rfl rfl (za7 (zbx (g:=zty) (enc:=zda) (k:=((zfi h k)[j],(k:Int))) (⟨0,0⟩:Ver) rfl rfl) (show zty _=zty (zyv h k (zfi h k)[j]) from congrArg zty (ye6 h (zfi h k)[j] k))) ?_
    refine qq rfl rfl (zab (out:= [iv k,iv (zyv h k (zfi h k)[j]).t,iv (zyv h k (zfi h k)[j]).k]) rfl (by rfl)) ?_
    refine q1 ?_;refine qq rfl rfl (k7 rfl rfl rfl (by omega)) ?_
    refine z7 rfl (za0 (g:=iv) (enc:=zej) (k:=((k:Int),(zyv h k (zfi h k)[j]).t,(zyv h k (zfi h k)[j]).k)) (v:=(j:Int)+1) rfl rfl rfl ?_)
    refine rn ?_;exact ⟨hj,trivial,by rw [yea hj];exact eA⟩
   ·have qj:=zd1 hc51 lj
    rw [qj,List.take_length]
    refine rn ?_;exact ⟨hk,trivial,by rw [ylz,List.take_length];exact eA⟩
  ·have qk:k=h.os.length:=by have q:=oF hc37;rw [oM] at q;omega
   refine rn ?_;exact j6 rfl (.trans (.perm (.cons _ (pt1 _ _ _)) _) (.drop [_,_] _ _)) ⟨bO,by rw [qk],rfl⟩
theorem ylv (h:Hist) (la:Lim 4611686018427387904 h) (hc:u6 h=0) (t:Int) (rO:Nat) (W:List Res):y9 Tryz.prog 118 [.agg (x4 h),iv t,mpv rO] (rkS h rO::W) (fun r h'=>h'=rkS h rO::W∧r= .agg (zb1 (zro h t))):=by
 refine z6 Tryz.func118 rfl rfl rfl ?_
 have lA:=zfa hc
 have lO:=lA.os
 have lE:=lA.evs
 refine rn ?_;refine z7 rfl (x9 rfl rfl rfl fun b3=> ?_)
 refine z7 rfl (x5 rfl fun b6=> ?_)
 refine rn ?_;refine z7 rfl (x5 rfl fun b7=> ?_)
 refine rn ?_;refine zem h.evs.length (fun _ (_:SV×SV)=>True) (fun k z=>⟨[(19,iv k),(1,iv t),(2,mpv rO),(6,pZ b6),(7,pZ b7),(17,zte h.evs),(18,iv (h.evs.map evR).length)],.row z.1.v 3 178 ((zn2 h t 3 k).map accR):: .row z.2.v 3 178 ((zn2 h t 2 k).map accR):: .box b7 121 [iv t,.v z.1.v,.v z.2.v]:: .box b6 121 [iv 0,.v (.slice none 0 0),.v (.slice none 0 0)]:: .box b3 28 (x4 h)::rkS h rO::W,[]⟩) (⟨none,0,0⟩,⟨none,0,0⟩) trivial (w7 (za1 3 178) (w7 (za1 3 178) es)) ?_
 rintro k ⟨sR,sI⟩ lk -
 show aw _ _ _ _ _ ⟨[(19,iv k),(1,iv t),(2,mpv rO),(6,pZ b6),(7,pZ b7),(17,zte h.evs),(18,iv (h.evs.map evR).length)],.row sR.v 3 178 ((zn2 h t 3 k).map accR):: .row sI.v 3 178 ((zn2 h t 2 k).map accR):: .box b7 121 [iv t,.v sR.v,.v sI.v]:: .box b6 121 [iv 0,.v (.slice none 0 0),.v (.slice none 0 0)]:: .box b3 28 (x4 h)::rkS h rO::W,[]⟩
 refine rn ?_;refine z8 rfl (fun hc20=> ?_) (fun hc20=> ?_)
 ·have hk:=zd0 hc20
  have rk:=zdp (f:=evR) hk
  refine rn ?_;refine z7 rfl (x5 rfl fun b9=> ?_)
  refine rn0 ?_;refine w6 ?_;refine zgt (⟨[(37,bv (h.evs[k].t !=t||(h.evs[k].kind !=3 && h.evs[k].kind !=2))),(8,iv k),(9,pZ b9),(19,iv k),(1,iv t),(2,mpv rO),(6,pZ b6),(7,pZ b7),(17,zte h.evs),(18,iv (h.evs.map evR).length)],.box b9 66 (evR h.evs[k]):: .row sR.v 3 178 ((zn2 h t 3 k).map accR):: .row sI.v 3 178 ((zn2 h t 2 k).map accR):: .box b7 121 [iv t,.v sR.v,.v sI.v]:: .box b6 121 [iv 0,.v (.slice none 0 0),.v (.slice none 0 0)]:: .box b3 28 (x4 h)::rkS h rO::W,[]⟩) ?_ ?_
  ·refine rn ?_;refine q8 (fun hg5_4=> ?_) (fun hg5_4=> ?_)
   ·refine rn ?_;first|(rw [hg5_4,Bool.true_or];exact eA)|(rw [hg5_4,Bool.false_or,hg5_8,Bool.true_and];exact eA)|(rw [hg5_4,Bool.false_or,hg5_8,Bool.false_and];exact eA)
   ·refine rn ?_;refine q8 (fun hg5_8=> ?_) (fun hg5_8=> ?_)
    ·refine rn ?_;first|(rw [hg5_4,Bool.true_or];exact eA)|(rw [hg5_4,Bool.false_or,hg5_8,Bool.true_and];exact eA)|(rw [hg5_4,Bool.false_or,hg5_8,Bool.false_and];exact eA)
    ·refine rn ?_;first|(rw [hg5_4,Bool.true_or];exact eA)|(rw [hg5_4,Bool.false_or,hg5_8,Bool.true_and];exact eA)|(rw [hg5_4,Bool.false_or,hg5_8,Bool.false_and];exact eA)
  ·refine z8 rfl (fun hc37=> ?_) (fun hc37=> ?_)
   ·have hn3:zlq h t 3 k h.evs[k]= []:=zts (by rintro ⟨e1,e2⟩;have q:=hc37;rw [e1,e2] at q;simp at q)
    have hn2:zlq h t 2 k h.evs[k]= []:=zts (by rintro ⟨e1,e2⟩;have q:=hc37;rw [e1,e2] at q;simp at q)
    refine rn ?_;exact ⟨hk,(sR,sI),trivial,by rw [ziy hk,ziy hk,hn3,hn2,List.append_nil,List.append_nil];exact eA⟩
   ·have q:=hc37
    rw [Bool.or_eq_false_iff,Bool.and_eq_false_iff] at q
    have ht:h.evs[k].t=t:=by simpa using q.1
    have hkk:h.evs[k].kind=3∨h.evs[k].kind=2:=by simpa using q.2
    refine zad ?_;refine k6 ?_;refine w6 (y6 ?_)
    refine q1 ?_;refine q1 ?_;refine q1 ?_;refine q1 ?_;refine q1 ?_;refine qq rfl rfl (zab (out:= [iv h.evs[k].o,iv h.evs[k].v.t,iv h.evs[k].v.k]) rfl (by rfl)) ?_
    refine qq rfl rfl (zop (g:=iv) (enc:=zej) (k:=(h.evs[k].o,h.evs[k].v.t,h.evs[k].v.k)) (0:Int) rfl rfl rfl) ?_
    refine q1 ?_;refine q1 ?_;refine q1 ?_;refine q1 ?_;refine q1 ?_;refine u3 (k6 ?_)
    refine w6 (y6 ?_)
    refine q1 ?_;refine q1 ?_;refine q1 ?_;refine q1 ?_;refine qq rfl rfl (zab (out:= [iv h.evs[k].o,iv ((zbn (h.evs[k].o,h.evs[k].v.t,h.evs[k].v.k) (rkM h h.os.length)).getD 0),iv k]) rfl (by rfl)) ?_
    refine z7 rfl (x5 rfl fun b12=> ?_)
    refine rn ?_;refine z8 rfl (fun hc59=> ?_) (fun hc59=> ?_)
    ·have hr:zzt h h.evs[k].o h.evs[k].v=none:=by
      have q:(zbn (h.evs[k].o,h.evs[k].v.t,h.evs[k].v.k) (rkM h h.os.length)).isSome=false:=by simpa using hc59
      exact Option.isNone_iff_eq_none.1 (by rw [←Option.not_isSome];show (!(zbn (h.evs[k].o,h.evs[k].v.t,h.evs[k].v.k) (rkM h h.os.length)).isSome)=true;rw [q];rfl)
     have hn3:zlq h t 3 k h.evs[k]= []:=yc2 hr
     have hn2:zlq h t 2 k h.evs[k]= []:=yc2 hr
     refine rn ?_;exact ⟨hk,(sR,sI),trivial,by rw [ziy hk,ziy hk,hn3,hn2,List.append_nil,List.append_nil];exact eA⟩
    ·obtain ⟨r0,hr⟩:∃r,(zbn (h.evs[k].o,h.evs[k].v.t,h.evs[k].v.k) (rkM h h.os.length))=some r:=Option.isSome_iff_exists.1 (by simpa using hc59)
     have hr':zzt h h.evs[k].o h.evs[k].v=some r0:=hr
     rw [hr,Option.getD_some,Option.isSome_some]
     refine rn ?_;refine z8 rfl (fun hc62=> ?_) (fun hc62=> ?_)
     ·have h3:h.evs[k].kind=3:=by simpa using hc62
      have hn3:zlq h t 3 k h.evs[k]= [⟨h.evs[k].o,r0,k⟩]:=yc1 ht h3 hr'
      have hn2:zlq h t 2 k h.evs[k]= []:=zts (fun q=>by rw [h3] at q;exact absurd q.2 (by decide))
      refine rn ?_;refine qv rfl rfl (v8 rfl rfl) ?_
      refine z7 rfl (j8 rfl rfl (by simp only [oM,List.length_cons,List.length_nil];have:=zfd h t 3 k;omega) rfl (fun s70=> ?_) (fun r hr=>by rw [List.mem_singleton.1 hr];rfl))
      refine zak s70 fun sv hsv=> ?_
      subst hsv
      refine rn ?_;exact ⟨hk,(sv,sI),trivial,by rw [ziy hk,ziy hk,hn3,hn2,List.append_nil,List.map_append];exact eA⟩
     ·have h3:h.evs[k].kind=2:=hkk.resolve_left (by simpa using hc62)
      have hn2:zlq h t 2 k h.evs[k]= [⟨h.evs[k].o,r0,k⟩]:=yc1 ht h3 hr'
      have hn3:zlq h t 3 k h.evs[k]= []:=zts (fun q=>by rw [h3] at q;exact absurd q.2 (by decide))
      refine rn ?_;refine qv rfl rfl (v8 rfl rfl) ?_
      refine z7 rfl (j8 rfl rfl (by simp only [oM,List.length_cons,List.length_nil];have:=zfd h t 2 k;omega) rfl (fun s57=> ?_) (fun r hr=>by rw [List.mem_singleton.1 hr];rfl))
      refine zak s57 fun sv hsv=> ?_
      subst hsv
      refine rn ?_;exact ⟨hk,(sR,sv),trivial,by rw [ziy hk,ziy hk,hn3,hn2,List.append_nil,List.map_append];exact eA⟩
 ·have qk:=zd1 hc20 lk
  subst qk
  refine rn ?_;refine z7 rfl (w8 rfl rfl (zgc (y3.of_fun (yhm sR h.os.length (zp5 h t 3) (fun a ha=>yk0 ha) (by omega) (by have:=zfd h t 3 h.evs.length;show (zn2 h t 3 h.evs.length).length≤_;omega)))) rfl ?_)
  rintro _ _ ⟨rfl,rfl⟩
  refine rn ?_;refine z7 rfl (w8 rfl rfl (zgc (y3.of_fun (yhm sI h.os.length (zp5 h t 2) (fun a ha=>yk0 ha) (by omega) (by have:=zfd h t 2 h.evs.length;show (zn2 h t 2 h.evs.length).length≤_;omega)))) rfl ?_)
  rintro _ _ ⟨rfl,rfl⟩
  refine u3 (k6 ?_)
  refine w6 (y6 ?_)
  refine zjw (w7 (k8 (.cons _ (pt1 _ _ _))) (w7 (zgq [iv t] [.v sI.v]) (w7 (k8 (pt1 _ _ _)) (zgq [iv t,zf3 (zp9 h.os.length (zp5 h t 3))] [])))) ?_
  refine rn ?_;exact zd7 (.cons _ _ _ _ (.agg _ _ _ _ _ _ _ rfl inferInstance inferInstance inferInstance rfl) .nil) (.drop [_,_,_] _ _) ⟨rfl,rfl⟩
theorem zzm (h:Hist) (la:Lim 4611686018427387904 h) (s:Int):y9 Tryz.prog 65 [.agg (x4 h),iv s] (.glob 3 148 y8:: .glob 5 276 x3:: .glob 6 279 y5:: .glob 2 197 u0:: []) (fun r h'=>∃v:SV,h'= .row v.v 3 121 ((yau h s).map zb1):: .glob 3 148 y8:: .glob 5 276 x3:: .glob 6 279 y5:: .glob 2 197 u0:: []∧r= .tup [.v v.v,iv (zds h s)]):=by
 refine z6 Tryz.func65 rfl rfl rfl ?_
 refine rn ?_;refine z7 rfl (x9 rfl rfl rfl fun b2=> ?_)
 refine rn ?_;refine qv rfl rfl (y4 rfl rfl (y3.qt (y3.of_fun (yi7 h la s)) ((pt1 _ _ _).trans (.cons _ ((pt1 _ _ _).trans (.cons _ ((pt1 _ _ _).trans (.cons _ (pt1 _ _ _))))))))) ?_
 refine rn ?_;refine z8 rfl (fun hc19=> ?_) (fun hc19=> ?_)
 ·have he:zds h s≠0:=nzT hc19
  refine rn ?_;exact zbl rfl rfl (.trans (.drop [_] _ _) (k9 3 121 _)) ⟨⟨none,0,0⟩,by rw [ye4 he];rfl,rfl⟩
 ·have he:zds h s=0:=nzF hc19
  have hc:u6 h=0:=zbb.2 (ybr he).1
  have lE:=(zfa hc).evs
  have lL:=zsz h s
  rw [show onE (zii h s h.ss.length) (zei h.evs s)=(zei h.evs s) by rw [show zii h s h.ss.length=0 from he,onE,if_pos rfl]]
  refine rn ?_;refine z7 rfl (w8 rfl rfl (y3.fr1 (y3.of_fun (zzl h la hc))) rfl ?_)
  rintro _ _ ⟨_,rfl,rO,rfl,rfl⟩
  refine rn ?_;refine zrx (zei h.evs s).length (fun k v=>⟨[(25,iv k),(9,.v v.v),(2,pZ b2),(8,mpv rO),(23,zft (zei h.evs s)),(24,iv ((zei h.evs s).map za8).length)],.row v.v 3 121 ((((zei h.evs s).take k).map (zro h)).map zb1):: .box b2 28 (x4 h)::rkS h rO:: .glob 3 148 y8:: .glob 5 276 x3:: .glob 6 279 y5:: .glob 2 197 u0:: [],[]⟩) ⟨none,0,0⟩ (w7 (za1 3 121) es) ?_
  intro k v lk
  refine rn ?_;refine z8 rfl (fun hc26=> ?_) (fun hc26=> ?_)
  ·have hk:=zd0 hc26
   have rk:=zdp (f:=za8) hk
   refine rn ?_;refine qv rfl rfl (y4 rfl rfl (y3.qt (y3.of_fun (ylv h la hc (zei h.evs s)[k] rO [])) (pt2 _ _ _ _))) ?_
   refine qv rfl rfl (v8 rfl rfl) ?_
   refine z7 rfl (j8 rfl rfl (by simp only [oM,List.length_cons,List.length_nil];have:=List.length_take_le k (zei h.evs s);omega) rfl (fun s35=> ?_) (fun r hr=>by rw [List.mem_singleton.1 hr];rfl))
   refine zak s35 fun sv hsv=> ?_
   subst hsv
   refine rn ?_;exact ⟨hk,sv,by rw [List.take_succ_eq_append_getElem hk,List.map_append,List.map_append];exact eA⟩
  ·have qk:=zd1 hc26 lk
   subst qk
   rw [List.take_length]
   refine rn ?_;exact zbl rfl rfl (.trans (.perm ((pt1 _ _ _).trans (.cons _ (pt1 _ _ _))) _) (.drop [_,_] _ _)) ⟨v,by rw [zrc he];rfl,by rw [he];rfl⟩
theorem zvx (h:Hist) (la:Lim 4611686018427387904 h) (s:Int):y9 Tryz.prog 65 [.agg (x4 h),iv s] (.glob 3 148 y8:: .glob 5 276 x3:: .glob 6 279 y5:: .glob 2 197 u0:: []) (fun r h'=>h'= .glob 3 148 y8:: .glob 5 276 x3:: .glob 6 279 y5:: .glob 2 197 u0:: []∧r= .tup [zd3 (yau h s),iv (zds h s)]):=(zzm h la s).ventR (by rintro _ _ ⟨v,rfl,rfl⟩;exact ⟨_,_,zai [] [_],rfl,rfl⟩)
end Go.Proofs
