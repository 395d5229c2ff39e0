/- The walks of small functions. Conditions: none. -/
import Derived.Test.YtcaijocpofcbdaaGreatDoorGAsH
set_option maxHeartbeats 4000000
set_option linter.unusedSectionVars false
set_option linter.unusedSimpArgs false
set_option linter.unusedVariables false
set_option maxRecDepth 10000
namespace Go.Proofs
open Go Go.Ab
attribute [local irreducible] QR QV OE zc9 aw zds zb0 zbp za8 thn zgc
open Go.H
theorem zz0 (l:Int):y9 Tryz.prog 176 [iv l] [] (fun r h'=>h'= []∧r=iv (yia l)):=by
 refine z6 Tryz.func176 rfl rfl rfl ?_;refine rn ?_;refine x5 (fun hg1_2=>?_) (fun hg1_2=>?_)
 ·refine rn ?_;refine zdk rfl ?_;refine rn ?_;exact u6 rfl (.refl _ _) ⟨rfl,A4 iv (by simp_all [yia])⟩
 refine rn ?_;refine z7 rfl (fun hc8=>?_) (fun hc8=>?_)
 ·refine rn ?_;exact u6 rfl (.refl _ _) ⟨rfl,A4 iv (by simp_all [yia])⟩
 refine rn ?_;exact u6 rfl (.refl _ _) ⟨rfl,A4 iv (by simp_all [yia])⟩
theorem zs2 (c:Int):y9 Tryz.prog 168 [.v (.int .i32 c)] [] (fun r h'=>h'= []∧r=bv (zkg c)):=by
 refine z6 Tryz.func168 rfl rfl rfl ?_;refine rn ?_;refine x5 (fun hg1_2=>?_) (fun hg1_2=>?_)
 ·refine rn ?_;exact u6 rfl (.refl _ _) ⟨rfl,A4 bv (by first|(simp only [zkg, *,B9,B0,C2,E3,D1,E8,C4,F1,G4,F2,B3,D8,D3];done)|(simp_all [zkg];done)|(simp_all [zkg] <;> omega))⟩
 refine rn ?_;exact u6 rfl (.refl _ _) ⟨rfl,A4 bv (by first|(simp only [zkg, *,B9,B0,C2,E3,D1,E8,C4,F1,G4,F2,B3,D8,D3];done)|(simp_all [zkg];done)|(simp_all [zkg] <;> omega))⟩
theorem bvz0_6577 {a b:Bool} (h:a=b:=by first|(simp only [zue, *,B9,B0,C2,E3,D1,E8,C4,F1,G4,F2,B3,D8,D3];done)|(simp_all [zue];done)|(simp_all [zue] <;> omega)):bv a=bv b:=A4 bv h
theorem yc6 (c:Int):y9 Tryz.prog 201 [.v (.int .i32 c)] [] (fun r h'=>h'= []∧r=bv (zue c)):=by
 refine z6 Tryz.func201 rfl rfl rfl ?_;refine rn ?_;refine x5 (fun hg1_2=>?_) (fun hg1_2=>?_)
 ·refine rn ?_;exact u6 rfl (.refl _ _) ⟨rfl,bvz0_6577⟩
 refine rn ?_;refine x5 (fun hg1_5=>?_) (fun hg1_5=>?_)
 ·refine rn ?_;refine x5 (fun hg1_10=>?_) (fun hg1_10=>?_)
  ·refine rn ?_;exact u6 rfl (.refl _ _) ⟨rfl,bvz0_6577⟩
  refine rn ?_;refine x5 (fun hg1_13=>?_) (fun hg1_13=>?_)
  ·refine rn ?_;refine x5 (fun hg1_18=>?_) (fun hg1_18=>?_)
   ·refine rn ?_;exact u6 rfl (.refl _ _) ⟨rfl,bvz0_6577⟩
   refine rn ?_;exact u6 rfl (.refl _ _) ⟨rfl,bvz0_6577⟩
  refine rn ?_;exact u6 rfl (.refl _ _) ⟨rfl,bvz0_6577⟩
 refine rn ?_;refine x5 (fun hg1_13=>?_) (fun hg1_13=>?_)
 ·refine rn ?_;refine x5 (fun hg1_18=>?_) (fun hg1_18=>?_)
  ·refine rn ?_;exact u6 rfl (.refl _ _) ⟨rfl,bvz0_6577⟩
  refine rn ?_;exact u6 rfl (.refl _ _) ⟨rfl,bvz0_6577⟩
 refine rn ?_;exact u6 rfl (.refl _ _) ⟨rfl,bvz0_6577⟩
theorem yc7 (c:Int):y9 Tryz.prog 170 [.v (.int .i32 c)] [] (fun r h'=>h'= []∧r=bv (zue c||zkg c)):=by
 refine z6 Tryz.func170 rfl rfl rfl ?_;refine rn ?_;refine qv rfl rfl (y3 rfl rfl (u0 (yc6 _) (Sbs.refl _))) ?_;refine rn ?_;refine x5 (fun hg1_2=>?_) (fun hg1_2=>?_)
 ·refine rn ?_;exact u6 rfl (.refl _ _) ⟨rfl,A4 bv (by first|(simp only [*,B9,B0,C2,E3,D1,E8,C4,F1,G4,F2,B3,D8,D3];done)|(simp_all;done)|(simp_all <;> omega))⟩
 refine rn ?_;refine qv rfl rfl (y3 rfl rfl (u0 (zs2 _) (Sbs.refl _))) ?_;refine rn ?_;exact u6 rfl (.refl _ _) ⟨rfl,A4 bv (by first|(simp only [*,B9,B0,C2,E3,D1,E8,C4,F1,G4,F2,B3,D8,D3];done)|(simp_all;done)|(simp_all <;> omega))⟩
theorem ycq (h:Hist):y9 Tryz.prog 93 [.agg (y8 h)] [] (fun r h'=>h'= []∧r= .agg (zix h)):=by
 refine z6 Tryz.func93 rfl rfl rfl ?_;refine rn ?_;refine z8 rfl (w7 rfl rfl rfl fun b1=>?_);refine z8 rfl (y6 rfl fun b2=>?_);refine rn ?_;exact zdn (.cons _ _ _ _ (.agg _ _ _ _ _ _ _ rfl inferInstance inferInstance inferInstance rfl) .nil) (.drop [_,_] _ _) ⟨rfl,rfl⟩
theorem yai (h:Hist) (sort:Nat) (n:Int) (l:List ByteArray) (hs:(zix h)[sort]? =some (v7 l)) (hs4:sort < 4):y9 Tryz.prog 134 [.agg (y8 h),iv sort,iv n] [] (fun r h'=>h'= []∧r=bv (zb8 l n)):=by
 refine z6 Tryz.func134 rfl rfl rfl ?_;refine rn ?_;refine z8 rfl (w7 rfl rfl rfl fun b3=>?_);refine rn ?_;refine x5 (fun hg1_2=>?_) (fun hg1_2=>?_)
 ·refine rn ?_;refine qv rfl rfl (y3 rfl rfl (u0 (ycq _) (Sbs.refl _))) ?_;refine q1 ?_;refine qq rfl rfl (zdw rfl rfl (by omega) (by simpa using hs)) ?_;refine rn ?_;exact u6 rfl (.drop1 _ _ _) ⟨rfl,A4 bv (by first|(simp only [zb8, *,B9,B0,C2,E3,D1,E8,C4,F1,G4,F2,B3,D8,D3];done)|(simp_all [zb8];done)|(simp_all [zb8] <;> omega))⟩
 refine rn ?_;exact u6 rfl (.drop1 _ _ _) ⟨rfl,A4 bv (by first|(simp only [zb8, *,B9,B0,C2,E3,D1,E8,C4,F1,G4,F2,B3,D8,D3];done)|(simp_all [zb8];done)|(simp_all [zb8] <;> omega))⟩
theorem bvz1_7908 {a b:Bool} (h:a=b:=by first|(simp only [zon, *,B9,B0,C2,E3,D1,E8,C4,F1,G4,F2,B3,D8,D3];done)|(simp_all [zon];done)|(simp_all [zon] <;> omega)):bv a=bv b:=A4 bv h
theorem zuu (h:Hist) (v:Ver):y9 Tryz.prog 178 [.agg (y8 h),.agg (yf2 v)] [] (fun r h'=>h'= []∧r=bv (zon h.ts v)):=by
 refine z6 Tryz.func178 rfl rfl rfl ?_;refine rn ?_;refine z8 rfl (w7 rfl rfl rfl fun b2=>?_);refine z8 rfl (w7 rfl rfl rfl fun b3=>?_);refine rn ?_;refine z7 rfl (fun hc7=>?_) (fun hc7=>?_)
 ·refine rn ?_;exact u6 rfl (.drop [_,_] _ _) ⟨rfl,bvz1_7908⟩
 refine rn ?_;refine qv rfl rfl (y3 rfl rfl (u0 (yai _ 0 _ _ rfl (by decide)) (Sbs.refl _))) ?_;refine rn ?_;refine x5 (fun hg3_4=>?_) (fun hg3_4=>?_)
 ·refine rn ?_;refine x5 (fun hg3_9=>?_) (fun hg3_9=>?_)
  ·refine rn ?_;exact u6 rfl (.drop [_,_] _ _) ⟨rfl,bvz1_7908⟩
  refine rn ?_;exact u6 rfl (.drop [_,_] _ _) ⟨rfl,bvz1_7908⟩
 refine rn ?_;exact u6 rfl (.drop [_,_] _ _) ⟨rfl,bvz1_7908⟩
theorem bvz2_1971 {a b:Bool} (h:a=b:=by first|(simp only [zjk, *,B9,B0,C2,E3,D1,E8,C4,F1,G4,F2,B3,D8,D3];done)|(simp_all [zjk];done)|(simp_all [zjk] <;> omega)):bv a=bv b:=A4 bv h
theorem zsd (a b:Ev) (ha:a.scan.length≤4611686018427387904) (hb:b.scan.length≤4611686018427387904):y9 Tryz.prog 101 [.agg (evR a),.agg (evR b)] [] (fun r h'=>h'= []∧r=bv (zjk a b)):=by
 refine z6 Tryz.func101 rfl rfl rfl ?_;refine rn ?_;refine z8 rfl (w7 rfl rfl rfl fun b2=>?_);refine z8 rfl (w7 rfl rfl rfl fun b3=>?_);refine rn ?_;refine x5 (fun hg1_5=>?_) (fun hg1_5=>?_)
 ·refine rn ?_;refine x5 (fun hg1_12=>?_) (fun hg1_12=>?_)
  ·refine rn ?_;refine x5 (fun hg1_19=>?_) (fun hg1_19=>?_)
   ·refine rn ?_;refine x5 (fun hg2_1=>?_) (fun hg2_1=>?_)
    ·refine rn ?_;refine x5 (fun hg2_8=>?_) (fun hg2_8=>?_)
     ·refine rn ?_;refine x5 (fun hg2_15=>?_) (fun hg2_15=>?_)
      ·refine rn ?_;refine x5 (fun hg2_22=>?_) (fun hg2_22=>?_)
       ·refine rn ?_;refine qv rfl rfl (y3 rfl rfl (u0 (yd8 _ _ ha hb) (Sbs.refl _))) ?_;refine rn ?_;exact u6 rfl (.drop [_,_] _ _) ⟨rfl,bvz2_1971⟩
       refine rn ?_;exact u6 rfl (.drop [_,_] _ _) ⟨rfl,bvz2_1971⟩
      refine rn ?_;exact u6 rfl (.drop [_,_] _ _) ⟨rfl,bvz2_1971⟩
     refine rn ?_;exact u6 rfl (.drop [_,_] _ _) ⟨rfl,bvz2_1971⟩
    refine rn ?_;exact u6 rfl (.drop [_,_] _ _) ⟨rfl,bvz2_1971⟩
   refine rn ?_;exact u6 rfl (.drop [_,_] _ _) ⟨rfl,bvz2_1971⟩
  refine rn ?_;exact u6 rfl (.drop [_,_] _ _) ⟨rfl,bvz2_1971⟩
 refine rn ?_;exact u6 rfl (.drop [_,_] _ _) ⟨rfl,bvz2_1971⟩
theorem ymj (a b:H.Ord) (ha:a.ts.length≤4611686018427387904) (hb:b.ts.length≤4611686018427387904):y9 Tryz.prog 96 [.agg (zb7 a),.agg (zb7 b)] [] (fun r h'=>h'= []∧r=bv (zm9 a b)):=by
 refine z6 Tryz.func96 rfl rfl rfl ?_;refine rn ?_;refine z8 rfl (w7 rfl rfl rfl fun b2=>?_);refine z8 rfl (w7 rfl rfl rfl fun b3=>?_);refine rn ?_;refine x5 (fun hg1_5=>?_) (fun hg1_5=>?_)
 ·refine rn ?_;refine qv rfl rfl (y3 rfl rfl (u0 (zq1 _ _ ha hb) (Sbs.refl _))) ?_;refine rn ?_;exact u6 rfl (.drop [_,_] _ _) ⟨rfl,A4 bv (by first|(simp only [zm9, *,B9,B0,C2,E3,D1,E8,C4,F1,G4,F2,B3,D8,D3];done)|(simp_all [zm9];done)|(simp_all [zm9] <;> omega))⟩
 refine rn ?_;exact u6 rfl (.drop [_,_] _ _) ⟨rfl,A4 bv (by first|(simp only [zm9, *,B9,B0,C2,E3,D1,E8,C4,F1,G4,F2,B3,D8,D3];done)|(simp_all [zm9];done)|(simp_all [zm9] <;> omega))⟩
theorem bvz3_9325 {a b:Bool} (h:a=b:=by first|(simp only [zsw, *,B9,B0,C2,E3,D1,E8,C4,F1,G4,F2,B3,D8,D3];done)|(simp_all [zsw];done)|(simp_all [zsw] <;> omega)):bv a=bv b:=A4 bv h
theorem ymk (a b:Mat) (ha:a.ts.length≤4611686018427387904) (hb:b.ts.length≤4611686018427387904):y9 Tryz.prog 98 [.agg (zck a),.agg (zck b)] [] (fun r h'=>h'= []∧r=bv (zsw a b)):=by
 refine z6 Tryz.func98 rfl rfl rfl ?_;refine rn ?_;refine z8 rfl (w7 rfl rfl rfl fun b2=>?_);refine z8 rfl (w7 rfl rfl rfl fun b3=>?_);refine rn ?_;refine x5 (fun hg1_5=>?_) (fun hg1_5=>?_)
 ·refine rn ?_;refine x5 (fun hg1_12=>?_) (fun hg1_12=>?_)
  ·refine rn ?_;refine x5 (fun hg1_19=>?_) (fun hg1_19=>?_)
   ·refine rn ?_;refine qv rfl rfl (y3 rfl rfl (u0 (zq1 _ _ ha hb) (Sbs.refl _))) ?_;refine rn ?_;exact u6 rfl (.drop [_,_] _ _) ⟨rfl,bvz3_9325⟩
   refine rn ?_;exact u6 rfl (.drop [_,_] _ _) ⟨rfl,bvz3_9325⟩
  refine rn ?_;exact u6 rfl (.drop [_,_] _ _) ⟨rfl,bvz3_9325⟩
 refine rn ?_;exact u6 rfl (.drop [_,_] _ _) ⟨rfl,bvz3_9325⟩
theorem ygq (s:ByteArray) (i:Nat) (c:Int) (bs bi bc:Nat) (hi:i≤s.size):y9 Tryz.prog 220 [pZ bs,pZ bi,pZ bc] [.box bs 9 [sv s],.box bi 3 [iv (i:Nat)],.box bc 21 [.v (.int .i32 c)],.glob 5 276 x6,.glob 6 279 y7] (fun r h'=>h'= [.box bs 9 [sv s],.box bi 3 [iv (i:Nat)],.box bc 21 [.v (.int .i32 c)],.glob 5 276 x6,.glob 6 279 y7]∧r= .tup [.v (.int .i32 c),bv (zr3 s i c)]):=by
 refine z6 Tryz.func220 rfl rfl rfl ?_;refine x7 (y5 ?_);refine q1 ?_;refine q1 ?_;refine u1 (j8 ?_);refine x7 (y5 ?_);refine q1 ?_;refine q1 ?_;refine qq rfl rfl (zei rfl rfl hi) ?_;refine qv rfl rfl (y3 rfl rfl (y4.quiet (R:=fun x=>x=_) (h2:= [_,_,_]) (E9 (l₁:= [_,_,_])) (y4.of_fun (zz9 (s.extract i s.size))))) ?_;refine rn ?_;refine x5 (fun hg2_3=>?_) (fun hg2_3=>?_)
 ·refine rn ?_;exact zb9 rfl rfl (.refl _ _) ⟨rfl,A4 (fun b=>AV.tup [.v (.int .i32 c),bv b]) (by first|(simp only [zr3, *,B9,B0,C2,E3,D1,E8,C4,F1,G4,F2,B3,D8,D3];done)|(simp_all [zr3];done))⟩
 refine rn ?_;exact zb9 rfl rfl (.refl _ _) ⟨rfl,A4 (fun b=>AV.tup [.v (.int .i32 c),bv b]) (by first|(simp only [zr3, *,B9,B0,C2,E3,D1,E8,C4,F1,G4,F2,B3,D8,D3];done)|(simp_all [zr3];done))⟩
theorem ybo (s:ByteArray) (bs:Nat) (y:AV) (p:Nat→Int→Bool) (I:List Res→Prop) (J:Nat→List Res→Prop) (hy:∀(i bi bc it:Nat) (L:List Res),i < s.size→I L→y4 Tryz.prog y [iv i,.fn (.func 220) [] [pZ bs,pZ bi,pZ bc]] (.box bc 21 [.v (.int .i32 (Utf8.decode s i).1)]:: .box bi 3 [iv (i:Nat)]:: .obj it (.stringIter s (i+(Utf8.decode s i).2)):: .box bs 9 [sv s]::L) (fun r h'=>∃L',h'= .box bc 21 [.v (.int .i32 (Utf8.decode s i).1)]:: .box bi 3 [iv (i:Nat)]:: .obj it (.stringIter s (i+(Utf8.decode s i).2)):: .box bs 9 [sv s]::L'∧((p i (Utf8.decode s i).1=true∧r=bv true∧I L')∨(p i (Utf8.decode s i).1=false∧r=bv false∧J i L')))) (L0:List Res) (h0:I L0):y9 Tryz.prog 219 [y,pZ bs] (.box bs 9 [sv s]::L0) (fun r h'=>∃L',h'= .box bs 9 [sv s]::L'∧((zeg s p 0=s.size∧I L')∨(zeg s p 0 < s.size∧J (zeg s p 0) L'))):=by
 refine z6 Tryz.func219 rfl rfl rfl ?_;refine rn ?_;refine z8 rfl (zle rfl rfl fun b7=>?_)
 refine rn ?_;refine u4 (fun x:Nat×List Res=>zeg s p 0=zeg s p x.1∧I x.2) (fun x=>⟨[(7,pZ b7),(0,y),(1,pZ bs)],.obj b7 (.stringIter s x.1):: .box bs 9 [sv s]::x.2,[]⟩) (fun x=>s.size - x.1) (0,L0) ⟨rfl,h0⟩
  (w6 (.cons _ _ _ rfl (.cons _ _ _ rfl (.cons _ _ _ rfl (.nil))))) ?_
 rintro ⟨k,L⟩ ⟨hw,hI⟩;simp only at hw hI;refine x7 (y5 ?_);refine z8 rfl (znc rfl rfl (fun hp=>?_) (fun hp=>?_))
 ·refine rn ?_;refine z7 rfl (fun hc9=>?_) (fun hc9=>?_)
  ·first|cases hc9|exact absurd hc9 (by decide)|(exfalso;simp_all;done)
  refine rn ?_;exact zfi .nil (.drop1 _ _ _) ⟨_,rfl,.inl ⟨by rw [hw,zib hp],hI⟩⟩
 refine rn ?_;refine z7 rfl (fun hc9=>?_) (fun hc9=>?_)
 ·refine rn ?_;refine z8 rfl (y6 rfl fun b3=>?_);refine z8 rfl (y6 rfl fun b4=>?_);first|refine z8 rfl (zak rfl rfl rfl ?_)|refine z8 rfl (za6 rfl rfl rfl rfl (A7 rfl) ?_)
  first|refine z8 rfl (zak rfl rfl rfl ?_)|refine z8 rfl (za6 rfl rfl rfl rfl (A7 rfl) ?_)
  refine u1 (j8 ?_);refine x7 (y5 ?_);refine q1 ?_;refine q1 ?_;refine u1 (j8 ?_);refine x7 (y5 ?_);refine q1 ?_;refine q1 ?_;refine q1 ?_;refine z8 rfl (q7 rfl rfl (hy k b3 b4 b7 L hp hI) rfl ?_);rintro av h' ⟨L',rfl,⟨hp1,rfl,hI2⟩|⟨hp1,rfl,hJ⟩⟩
  ·refine rn ?_;refine z7 rfl (fun hc17=>?_) (fun hc17=>?_)
   ·first|cases hc17|exact absurd hc17 (by decide)|(exfalso;simp_all;done)
   refine rn ?_;exact ⟨(k+(Utf8.decode s k).2,L'),⟨hw.trans (zjn hp hp1),hI2⟩,(w8 (za1 (h1:= [_,_])) (w6 (.cons _ _ _ rfl (.cons _ _ _ rfl (.cons _ _ _ rfl (.nil)))))),by have:=zjm s k;simp only at hp ⊢;omega⟩
  refine rn ?_;refine z7 rfl (fun hc17=>?_) (fun hc17=>?_)
  ·refine rn ?_;exact zdn .nil (.drop [_,_,_] _ _) ⟨_,rfl,.inr (by rw [hw,zi4 hp hp1];exact ⟨hp,hJ⟩)⟩
  first|cases hc17|exact absurd hc17 (by decide)|(exfalso;simp_all;done)
 first|cases hc9|exact absurd hc9 (by decide)|(exfalso;simp_all;done)
theorem yu6 (s:ByteArray) (h:List Res):y9 Tryz.prog 200 [sv s] h (fun r h'=>∃bs,h'= .box bs 9 [sv s]::h∧r= .fn (.func 219) [] [pZ bs]):=by
 refine z6 Tryz.func200 rfl rfl rfl ?_;refine rn ?_;refine z8 rfl (w7 rfl rfl rfl fun b1=>?_);refine rn ?_;exact u6 rfl (.refl _ _) ⟨_,rfl,rfl⟩
theorem yh9 (s:ByteArray) (fv:AV) (g:Int→Bool) (hone:fv.cellsOf=some [fv]) (hgo:∀c h,y4 Tryz.prog fv [.v (.int .i32 c)] h (fun r h'=>h'=h∧r=bv (g c))):y9 Tryz.prog 169 [sv s,fv] [.glob 5 276 x6,.glob 6 279 y7] (fun r h'=>h'= [.glob 5 276 x6,.glob 6 279 y7]∧r=iv (zeg s (zd9 s g) 0:Nat)):=by
 refine z6 Tryz.func169 rfl rfl rfl ?_;refine rn ?_;refine z8 rfl (w7 rfl hone rfl fun b3=>?_);refine rn ?_;refine zke ?_;refine rn ?_;refine z8 rfl (y6 rfl fun b5=>?_);refine rn ?_;refine z8 rfl (q7 rfl rfl (y4.of_fun (yu6 s _)) rfl ?_);rintro _ _ ⟨bs,rfl,rfl⟩;refine rn ?_;refine zoi (fun pend h''=>(pend=none∨pend=some (.exit 0))∧h''= .box bs 9 [sv s]:: .box b5 3 [iv (zeg s (zd9 s g) 0:Nat)]:: .box b3 243 [fv]:: [.glob 5 276 x6,.glob 6 279 y7]) rfl (fun fn l q lp hlp=>?_) (fun q h'' hK=>?_) (fun q h'' c hK=>?_)
 ·suffices hy:∀(i bi bc it:Nat) (L:List Res),i < s.size→L=lp .ready none:: .defs q:: .box b5 3 [iv s.size]:: .box b3 243 [fv]:: [.glob 5 276 x6,.glob 6 279 y7]→y4 Tryz.prog (yv l) [iv i,.fn (.func 220) [] [pZ bs,pZ bi,pZ bc]] (.box bc 21 [.v (.int .i32 (Utf8.decode s i).1)]:: .box bi 3 [iv (i:Nat)]:: .obj it (.stringIter s (i+(Utf8.decode s i).2)):: .box bs 9 [sv s]::L)
   (fun r h'=>∃L',h'= .box bc 21 [.v (.int .i32 (Utf8.decode s i).1)]:: .box bi 3 [iv (i:Nat)]:: .obj it (.stringIter s (i+(Utf8.decode s i).2)):: .box bs 9 [sv s]::L'∧((zd9 s g i (Utf8.decode s i).1=true∧r=bv true∧L'=lp .ready none:: .defs q:: .box b5 3 [iv s.size]:: .box b3 243 [fv]:: [.glob 5 276 x6,.glob 6 279 y7])∨(zd9 s g i (Utf8.decode s i).1=false∧r=bv false∧L'=lp .done (some (.exit 0)):: .defs q:: .box b5 3 [iv (i:Nat)]:: .box b3 243 [fv]:: [.glob 5 276 x6,.glob 6 279 y7]))) by
   refine y9.mono (y9.perm (pt2 _ _ _ _) (ybo s bs (yv l) (zd9 s g) _ (fun i L=>L=lp .done (some (.exit 0)):: .defs q:: .box b5 3 [iv (i:Nat)]:: .box b3 243 [fv]:: [.glob 5 276 x6,.glob 6 279 y7]) hy _ rfl)) ?_;rintro _ _ ⟨L',rfl,⟨hw,rfl⟩|⟨hw,rfl⟩⟩
   ·exact ⟨_,_,_,(pt2 _ _ _ _).symm,by simp,.inl rfl,by rw [hw]⟩
   exact ⟨_,_,_,(pt2 _ _ _ _).symm,by simp,.inr rfl,rfl⟩
  rintro i bi bc it _ hi rfl;refine y4.perm (pt4 _ _ _ _ _ _) (y4.permR (zyc hlp rfl rfl ?_));refine rn ?_;refine ⟨[(6,iv (i:Nat)),(7,.fn (.func 220) [] [pZ bs,pZ bi,pZ bc]),(5,pZ b5),(3,pZ b3)],w6 (.cons _ _ _ rfl (.cons _ _ _ rfl (.cons _ _ _ rfl (.cons _ _ _ rfl .nil)))),?_⟩;refine rn ?_;refine qv rfl rfl (y3 rfl rfl (y4.qt (y4.of_acall (fs:= []) (cs:= [pZ bs,pZ bi,pZ bc]) (ygq s i (Utf8.decode s i).1 bs bi bc (by omega))) ((pt4 _ _ _ _ _ _).trans (.cons _ ((pt2 _ _ _ _).trans (.cons _ ((pt1 _ _ _).trans (.cons _ ((pt5 _ _ _ _ _ _ _).trans (.cons _ (pt5 _ _ _ _ _ _ _))))))))))) ?_;refine rn ?_;refine x5 (fun hg6_2=>?_) (fun hg6_2=>?_)
  ·refine rn ?_;refine zdk rfl ?_;refine rn ?_;exact zmy (.refl _) ⟨_,((pt1 _ _ _).trans (.cons _ ((pt1 _ _ _).trans (.cons _ ((pt1 _ _ _).trans (.cons _ (pt1 _ _ _))))))),_,rfl,.inr ⟨by simp_all [zd9],rfl,rfl⟩⟩
  refine rn ?_;refine qv rfl rfl (y3 rfl rfl (hgo _ _)) ?_;refine rn ?_;refine z7 rfl (fun hc28=>?_) (fun hc28=>?_)
  ·refine rn ?_;exact zmy (.refl _) ⟨_,((pt1 _ _ _).trans (.cons _ ((pt1 _ _ _).trans (.cons _ ((pt1 _ _ _).trans (.cons _ (pt1 _ _ _))))))),_,rfl,.inr ⟨by simp_all [zd9],rfl,rfl⟩⟩
  refine rn ?_;exact zi6 (.refl _) ⟨_,((pt1 _ _ _).trans (.cons _ ((pt1 _ _ _).trans (.cons _ ((pt1 _ _ _).trans (.cons _ (pt1 _ _ _))))))),_,rfl,.inl ⟨by simp_all [zd9],rfl,rfl⟩⟩
 ·obtain ⟨_,rfl⟩:=hK;refine rn ?_;refine ⟨fun l h=>(by cases h),?_⟩;exact zio (.refl _) (.cons _ _ _ _ (.tmp _ _ rfl) .nil) (.drop [_,_,_] _ _) ⟨rfl,rfl⟩
 obtain ⟨hc,rfl⟩:=hK;obtain rfl:c= .exit 0:=by simpa using hc
 refine rn ?_;refine ⟨fun l h=>(by cases h),?_⟩;exact zio (.refl _) (.cons _ _ _ _ (.tmp _ _ rfl) .nil) (.drop [_,_,_] _ _) ⟨rfl,rfl⟩
theorem bvz4_6824 {a b:Bool} (h:a=b:=by first|(simp only [wordB, *,B9,B0,C2,E3,D1,E8,C4,F1,G4,F2,B3,D8,D3];done)|(simp_all [wordB,yep];done)):bv a=bv b:=A4 bv h
theorem yw0 (s:ByteArray):y9 Tryz.prog 130 [sv s] [.glob 5 276 x6,.glob 6 279 y7] (fun r h'=>h'= [.glob 5 276 x6,.glob 6 279 y7]∧r=bv (wordB s)):=by
 refine z6 Tryz.func130 rfl rfl rfl ?_;refine rn ?_;refine x5 (fun hg1_2=>?_) (fun hg1_2=>?_)
 ·refine rn ?_;refine x5 (fun hg1_7=>?_) (fun hg1_7=>?_)
  ·refine rn ?_;have h1:0 < s.size:=ya8 hg1_2;refine qq rfl rfl (j4 0 rfl rfl (by omega)) ?_;refine rn ?_;refine qv rfl rfl (y3 rfl rfl (u0 (zs2 _) (Sbs.refl _))) ?_;refine rn ?_;refine x5 (fun hg1_14=>?_) (fun hg1_14=>?_)
   ·refine rn ?_;refine qv rfl rfl (y3 rfl rfl (y4.of_fun (yh9 s (.fn (.func 170) [] []) zdz rfl (fun c h=>(u0 (yc7 c) (Sbs.refl _)))))) ?_;refine rn ?_;exact u6 rfl (.refl _ _) ⟨rfl,bvz4_6824⟩
   refine rn ?_;exact u6 rfl (.refl _ _) ⟨rfl,bvz4_6824⟩
  refine rn ?_;exact u6 rfl (.refl _ _) ⟨rfl,bvz4_6824⟩
 refine rn ?_;exact u6 rfl (.refl _ _) ⟨rfl,bvz4_6824⟩
theorem ytd (e:Ev) (h:Hist) (be bh:Nat):y9 Tryz.prog 175 [pZ be,pZ bh] [.box be 66 (evR e),.box bh 28 (y8 h)] (fun r h'=>h'= [.box be 66 (evR e),.box bh 28 (y8 h)]∧r= .tup [.agg (evR ⟨0,0,e.s,e.l,0,⟨0,0⟩,0,[]⟩),bv (zeu h e)]):=by
 refine z6 Tryz.func175 rfl rfl rfl ?_;refine rn ?_;refine z8 rfl (y6 rfl fun b2=>?_);refine rn ?_;refine zev 16 [(b2,66,_)] rfl (E9 (l₁:= [_])) ?_;refine rn ?_;refine dv rfl rfl (by exact y3 rfl rfl (u0 (yai _ 1 _ _ rfl (by decide)) (Sbs.refl _))) ?_;refine rn ?_;refine ze6 (fun hg1_9=>?_) (fun hg1_9=>?_)
 ·refine rn ?_;refine dv rfl rfl (by exact y3 rfl rfl (u0 (zz0 _) (Sbs.refl _))) ?_;refine rn ?_;refine dw 0 rfl rfl rfl rfl rfl (A7 rfl) ?_;refine rn2 ?_;show zc9 _ _ _ _ _ _ ⟨_,.box b2 66 _::_,_⟩;refine rn ?_;exact zdn (.cons _ _ _ _ (.agg _ _ _ _ _ _ _ rfl inferInstance inferInstance inferInstance rfl) (.cons _ _ _ _ (.tmp _ _ rfl) .nil)) (.trans (.drop1 _ _ _) (zcc (by exact Sb.aggs (by exact ⟨.refl _,.refl _,.refl _,.refl _,.refl _,.refl _,.refl _,.refl _,.nil _ _,trivial⟩)) (by exact .refl _))) ⟨rfl,A4 (fun b=>AV.tup [.agg (evR ⟨0,0,e.s,e.l,0,⟨0,0⟩,0,[]⟩),bv b]) (by first|(simp only [zeu, *,B9,B0,C2,E3,D1,E8,C4,F1,G4,F2,B3,D8,D3];done)|(simp_all [zeu];done)|(simp_all [zeu] <;> omega))⟩
 refine rn ?_;refine dw 0 rfl rfl rfl rfl rfl (A7 rfl) ?_;refine rn2 ?_;show zc9 _ _ _ _ _ _ ⟨_,.box b2 66 _::_,_⟩;refine rn ?_;exact zdn (.cons _ _ _ _ (.agg _ _ _ _ _ _ _ rfl inferInstance inferInstance inferInstance rfl) (.cons _ _ _ _ (.tmp _ _ rfl) .nil)) (.trans (.drop1 _ _ _) (zcc (by exact Sb.aggs (by exact ⟨.refl _,.refl _,.refl _,.refl _,.refl _,.refl _,.refl _,.refl _,.nil _ _,trivial⟩)) (by exact .refl _))) ⟨rfl,A4 (fun b=>AV.tup [.agg (evR ⟨0,0,e.s,e.l,0,⟨0,0⟩,0,[]⟩),bv b]) (by first|(simp only [zeu, *,B9,B0,C2,E3,D1,E8,C4,F1,G4,F2,B3,D8,D3];done)|(simp_all [zeu];done)|(simp_all [zeu] <;> omega))⟩
theorem ytc (e:Ev) (h:Hist) (be bh:Nat):y9 Tryz.prog 177 [pZ be,pZ bh] [.box be 66 (evR e),.box bh 28 (y8 h)] (fun r h'=>h'= [.box be 66 (evR e),.box bh 28 (y8 h)]∧r= .tup [.agg (evR ⟨0,0,0,0,e.o,e.v,0,[]⟩),bv (zbu h e)]):=by
 refine z6 Tryz.func177 rfl rfl rfl ?_;refine rn ?_;refine z8 rfl (y6 rfl fun b2=>?_);refine rn ?_;refine zev 30 [(b2,66,_)] rfl (E9 (l₁:= [_])) ?_;refine rn ?_;refine dv rfl rfl (by exact y3 rfl rfl (u0 (yai _ 2 _ _ rfl (by decide)) (Sbs.refl _))) ?_;refine rn ?_;refine ze6 (fun hg1_9=>?_) (fun hg1_9=>?_)
 ·refine rn ?_;refine dv rfl rfl (by exact y3 rfl rfl (u0 (zuu h e.v) (Sbs.refl _))) ?_;refine rn ?_;refine ze6 (fun hg1_15=>?_) (fun hg1_15=>?_)
  ·refine rn ?_;refine ze6 (fun hg1_23=>?_) (fun hg1_23=>?_)
   ·refine rn ?_;refine dw 0 rfl rfl rfl rfl rfl (A7 rfl) ?_;refine rn2 ?_;show zc9 _ _ _ _ _ _ ⟨_,.box b2 66 _::_,_⟩;refine rn ?_;exact zdn (.cons _ _ _ _ (.agg _ _ _ _ _ _ _ rfl inferInstance inferInstance inferInstance rfl) (.cons _ _ _ _ (.tmp _ _ rfl) .nil)) (.trans (.drop1 _ _ _) (zcc (by exact Sb.aggs (by exact ⟨.refl _,.refl _,.refl _,.refl _,.refl _,.refl _,.refl _,.refl _,.nil _ _,trivial⟩)) (by exact .refl _))) ⟨rfl,A4 (fun b=>AV.tup [.agg (evR ⟨0,0,0,0,e.o,e.v,0,[]⟩),bv b]) (by first|(simp only [zbu, *,B9,B0,C2,E3,D1,E8,C4,F1,G4,F2,B3,D8,D3];done)|(simp_all [zbu];done)|(simp_all [zbu] <;> omega))⟩
   refine rn ?_;refine dw 0 rfl rfl rfl rfl rfl (A7 rfl) ?_;refine rn2 ?_;show zc9 _ _ _ _ _ _ ⟨_,.box b2 66 _::_,_⟩;refine rn ?_;exact zdn (.cons _ _ _ _ (.agg _ _ _ _ _ _ _ rfl inferInstance inferInstance inferInstance rfl) (.cons _ _ _ _ (.tmp _ _ rfl) .nil)) (.trans (.drop1 _ _ _) (zcc (by exact Sb.aggs (by exact ⟨.refl _,.refl _,.refl _,.refl _,.refl _,.refl _,.refl _,.refl _,.nil _ _,trivial⟩)) (by exact .refl _))) ⟨rfl,A4 (fun b=>AV.tup [.agg (evR ⟨0,0,0,0,e.o,e.v,0,[]⟩),bv b]) (by first|(simp only [zbu, *,B9,B0,C2,E3,D1,E8,C4,F1,G4,F2,B3,D8,D3];done)|(simp_all [zbu];done)|(simp_all [zbu] <;> omega))⟩
  refine rn ?_;refine dw 0 rfl rfl rfl rfl rfl (A7 rfl) ?_;refine rn2 ?_;show zc9 _ _ _ _ _ _ ⟨_,.box b2 66 _::_,_⟩;refine rn ?_;exact zdn (.cons _ _ _ _ (.agg _ _ _ _ _ _ _ rfl inferInstance inferInstance inferInstance rfl) (.cons _ _ _ _ (.tmp _ _ rfl) .nil)) (.trans (.drop1 _ _ _) (zcc (by exact Sb.aggs (by exact ⟨.refl _,.refl _,.refl _,.refl _,.refl _,.refl _,.refl _,.refl _,.nil _ _,trivial⟩)) (by exact .refl _))) ⟨rfl,A4 (fun b=>AV.tup [.agg (evR ⟨0,0,0,0,e.o,e.v,0,[]⟩),bv b]) (by first|(simp only [zbu, *,B9,B0,C2,E3,D1,E8,C4,F1,G4,F2,B3,D8,D3];done)|(simp_all [zbu];done)|(simp_all [zbu] <;> omega))⟩
 refine rn ?_;refine dw 0 rfl rfl rfl rfl rfl (A7 rfl) ?_;refine rn2 ?_;show zc9 _ _ _ _ _ _ ⟨_,.box b2 66 _::_,_⟩;refine rn ?_;exact zdn (.cons _ _ _ _ (.agg _ _ _ _ _ _ _ rfl inferInstance inferInstance inferInstance rfl) (.cons _ _ _ _ (.tmp _ _ rfl) .nil)) (.trans (.drop1 _ _ _) (zcc (by exact Sb.aggs (by exact ⟨.refl _,.refl _,.refl _,.refl _,.refl _,.refl _,.refl _,.refl _,.nil _ _,trivial⟩)) (by exact .refl _))) ⟨rfl,A4 (fun b=>AV.tup [.agg (evR ⟨0,0,0,0,e.o,e.v,0,[]⟩),bv b]) (by first|(simp only [zbu, *,B9,B0,C2,E3,D1,E8,C4,F1,G4,F2,B3,D8,D3];done)|(simp_all [zbu];done)|(simp_all [zbu] <;> omega))⟩
theorem ytb (e:Ev) (h:Hist) (be bh:Nat):y9 Tryz.prog 179 [pZ be,pZ bh] [.box be 66 (evR e),.box bh 28 (y8 h)] (fun r h'=>h'= [.box be 66 (evR e),.box bh 28 (y8 h)]∧r= .tup [.agg (evR ⟨0,0,0,0,e.o,e.v,0,[]⟩),bv (ze3 h e)]):=by
 refine z6 Tryz.func179 rfl rfl rfl ?_;refine rn ?_;refine z8 rfl (y6 rfl fun b2=>?_);refine rn ?_;refine zev 16 [(b2,66,_)] rfl (E9 (l₁:= [_])) ?_;refine rn ?_;refine dv rfl rfl (by exact y3 rfl rfl (u0 (yai _ 2 _ _ rfl (by decide)) (Sbs.refl _))) ?_;refine rn ?_;refine ze6 (fun hg1_9=>?_) (fun hg1_9=>?_)
 ·refine rn ?_;refine dv rfl rfl (by exact y3 rfl rfl (u0 (zuu h e.v) (Sbs.refl _))) ?_;refine rn ?_;refine dw 0 rfl rfl rfl rfl rfl (A7 rfl) ?_;refine rn2 ?_;show zc9 _ _ _ _ _ _ ⟨_,.box b2 66 _::_,_⟩;refine rn ?_;exact zdn (.cons _ _ _ _ (.agg _ _ _ _ _ _ _ rfl inferInstance inferInstance inferInstance rfl) (.cons _ _ _ _ (.tmp _ _ rfl) .nil)) (.trans (.drop1 _ _ _) (zcc (by exact Sb.aggs (by exact ⟨.refl _,.refl _,.refl _,.refl _,.refl _,.refl _,.refl _,.refl _,.nil _ _,trivial⟩)) (by exact .refl _))) ⟨rfl,A4 (fun b=>AV.tup [.agg (evR ⟨0,0,0,0,e.o,e.v,0,[]⟩),bv b]) (by first|(simp only [ze3, *,B9,B0,C2,E3,D1,E8,C4,F1,G4,F2,B3,D8,D3];done)|(simp_all [ze3];done)|(simp_all [ze3] <;> omega))⟩
 refine rn ?_;refine dw 0 rfl rfl rfl rfl rfl (A7 rfl) ?_;refine rn2 ?_;show zc9 _ _ _ _ _ _ ⟨_,.box b2 66 _::_,_⟩;refine rn ?_;exact zdn (.cons _ _ _ _ (.agg _ _ _ _ _ _ _ rfl inferInstance inferInstance inferInstance rfl) (.cons _ _ _ _ (.tmp _ _ rfl) .nil)) (.trans (.drop1 _ _ _) (zcc (by exact Sb.aggs (by exact ⟨.refl _,.refl _,.refl _,.refl _,.refl _,.refl _,.refl _,.refl _,.nil _ _,trivial⟩)) (by exact .refl _))) ⟨rfl,A4 (fun b=>AV.tup [.agg (evR ⟨0,0,0,0,e.o,e.v,0,[]⟩),bv b]) (by first|(simp only [ze3, *,B9,B0,C2,E3,D1,E8,C4,F1,G4,F2,B3,D8,D3];done)|(simp_all [ze3];done)|(simp_all [ze3] <;> omega))⟩
theorem yow (s:Seen) (h:Hist) (bh:Nat):y9 Tryz.prog 181 [.agg (zav s),pZ bh] [.box bh 28 (y8 h)] (fun r h'=>h'= [.box bh 28 (y8 h)]∧r=bv (zgk h s)):=by
 refine z6 Tryz.func181 rfl rfl rfl ?_;refine rn ?_;refine z8 rfl (w7 rfl rfl rfl fun b2=>?_);refine rn ?_;refine qv rfl rfl (y3 rfl rfl (u0 (yai _ 2 _ _ rfl (by decide)) (Sbs.refl _))) ?_;refine rn ?_;refine x5 (fun hg1_4=>?_) (fun hg1_4=>?_)
 ·refine rn ?_;refine qv rfl rfl (y3 rfl rfl (u0 (zuu h s.v) (Sbs.refl _))) ?_;refine rn ?_;exact u6 rfl (.drop1 _ _ _) ⟨rfl,A4 bv (by first|(simp only [zgk, *,B9,B0,C2,E3,D1,E8,C4,F1,G4,F2,B3,D8,D3];done)|(simp_all [zgk];done)|(simp_all [zgk] <;> omega))⟩
 refine rn ?_;exact u6 rfl (.drop1 _ _ _) ⟨rfl,A4 bv (by first|(simp only [zgk, *,B9,B0,C2,E3,D1,E8,C4,F1,G4,F2,B3,D8,D3];done)|(simp_all [zgk];done)|(simp_all [zgk] <;> omega))⟩
theorem yta (e:Ev) (h:Hist) (be bh:Nat) (hl:e.scan.length≤4611686018427387904):y9 Tryz.prog 180 [pZ bh,pZ be] [.box be 66 (evR e),.box bh 28 (y8 h)] (fun r h'=>h'= [.box be 66 (evR e),.box bh 28 (y8 h)]∧r= .tup [.agg (evR ⟨0,0,0,0,0,⟨0,0⟩,e.p,e.scan⟩),bv (zdh h e)]):=by
 refine z6 Tryz.func180 rfl rfl rfl ?_;refine rn ?_;refine z8 rfl (y6 rfl fun b2=>?_);refine rn ?_;refine zev 22 [(b2,66,_)] rfl (E9 (l₁:= [_])) ?_;refine rn ?_;refine dv rfl rfl (by exact y3 rfl rfl (u0 (yai _ 3 _ _ rfl (by decide)) (Sbs.refl _))) ?_;refine rn ?_;refine ze6 (fun hg2_9=>?_) (fun hg2_9=>?_)
 ·refine rn ?_;refine ze6 (fun hg2_15=>?_) (fun hg2_15=>?_)
  ·refine rn ?_;refine dv rfl rfl (by exact y3 rfl rfl (y4.of_fun (ypk e.scan (.fn (.func 181) [] [pZ bh]) (zgk h) [.box be 66 (evR e),.box bh 28 (y8 h)] rfl (fun s hs=>y4.quiet (R:=fun x=>x=bv (zgk h s)) (h2:= [_]) (E9 (l₁:= [_])) (y4.of_acall (fs:= []) (cs:= [pZ bh]) (yow s h bh))) hl))) ?_;refine rn ?_;refine dw 0 rfl rfl rfl rfl rfl (A7 rfl) ?_;refine rn2 ?_;show zc9 _ _ _ _ _ _ ⟨_,.box b2 66 _::_,_⟩;refine rn ?_;exact zdn (.cons _ _ _ _ (.agg _ _ _ _ _ _ _ rfl inferInstance inferInstance inferInstance rfl) (.cons _ _ _ _ (.tmp _ _ rfl) .nil)) (.trans (.drop1 _ _ _) (zcc (by exact Sb.aggs (by exact ⟨.refl _,.refl _,.refl _,.refl _,.refl _,.refl _,.refl _,.refl _,.refl _,trivial⟩)) (by exact .refl _))) ⟨rfl,A4 (fun b=>AV.tup [.agg (evR ⟨0,0,0,0,0,⟨0,0⟩,e.p,e.scan⟩),bv b]) (by first|(simp only [zdh, *,B9,B0,C2,E3,D1,E8,C4,F1,G4,F2,B3,D8,D3];done)|(simp_all [zdh];done)|(simp_all [zdh] <;> omega))⟩
  refine rn ?_;refine dw 0 rfl rfl rfl rfl rfl (A7 rfl) ?_;refine rn2 ?_;show zc9 _ _ _ _ _ _ ⟨_,.box b2 66 _::_,_⟩;refine rn ?_;exact zdn (.cons _ _ _ _ (.agg _ _ _ _ _ _ _ rfl inferInstance inferInstance inferInstance rfl) (.cons _ _ _ _ (.tmp _ _ rfl) .nil)) (.trans (.drop1 _ _ _) (zcc (by exact Sb.aggs (by exact ⟨.refl _,.refl _,.refl _,.refl _,.refl _,.refl _,.refl _,.refl _,.refl _,trivial⟩)) (by exact .refl _))) ⟨rfl,A4 (fun b=>AV.tup [.agg (evR ⟨0,0,0,0,0,⟨0,0⟩,e.p,e.scan⟩),bv b]) (by first|(simp only [zdh, *,B9,B0,C2,E3,D1,E8,C4,F1,G4,F2,B3,D8,D3];done)|(simp_all [zdh];done)|(simp_all [zdh] <;> omega))⟩
 refine rn ?_;refine dw 0 rfl rfl rfl rfl rfl (A7 rfl) ?_;refine rn2 ?_;show zc9 _ _ _ _ _ _ ⟨_,.box b2 66 _::_,_⟩;refine rn ?_;exact zdn (.cons _ _ _ _ (.agg _ _ _ _ _ _ _ rfl inferInstance inferInstance inferInstance rfl) (.cons _ _ _ _ (.tmp _ _ rfl) .nil)) (.trans (.drop1 _ _ _) (zcc (by exact Sb.aggs (by exact ⟨.refl _,.refl _,.refl _,.refl _,.refl _,.refl _,.refl _,.refl _,.refl _,trivial⟩)) (by exact .refl _))) ⟨rfl,A4 (fun b=>AV.tup [.agg (evR ⟨0,0,0,0,0,⟨0,0⟩,e.p,e.scan⟩),bv b]) (by first|(simp only [zdh, *,B9,B0,C2,E3,D1,E8,C4,F1,G4,F2,B3,D8,D3];done)|(simp_all [zdh];done)|(simp_all [zdh] <;> omega))⟩
theorem ys9  :y9 Tryz.prog 183 [] [] (fun r h'=>h'= []∧r= .tup [.agg (evR ⟨0,0,0,0,0,⟨0,0⟩,0,[]⟩),bv true]):=by
 refine z6 Tryz.func183 rfl rfl rfl ?_;refine rn ?_;refine z8 rfl (y6 rfl fun b0=>?_);refine rn ?_;exact zdn (.cons _ _ _ _ (.agg _ _ _ _ _ _ _ rfl inferInstance inferInstance inferInstance rfl) (.cons _ _ _ _ (.tmp _ _ rfl) .nil)) (.trans (.drop1 _ _ _) (zcc (by exact Sb.aggs (by exact ⟨.refl _,.refl _,.refl _,.refl _,.refl _,.refl _,.refl _,.refl _,.nil _ _,trivial⟩)) (by exact .refl _))) ⟨rfl,A4 (fun b=>AV.tup [.agg (evR ⟨0,0,0,0,0,⟨0,0⟩,0,[]⟩),bv b]) (by rfl)⟩
theorem ys8  :y9 Tryz.prog 184 [] [] (fun r h'=>h'= []∧r= .tup [.agg (evR ⟨0,0,0,0,0,⟨0,0⟩,0,[]⟩),bv true]):=by
 refine z6 Tryz.func184 rfl rfl rfl ?_;refine rn ?_;refine z8 rfl (y6 rfl fun b0=>?_);refine rn ?_;exact zdn (.cons _ _ _ _ (.agg _ _ _ _ _ _ _ rfl inferInstance inferInstance inferInstance rfl) (.cons _ _ _ _ (.tmp _ _ rfl) .nil)) (.trans (.drop1 _ _ _) (zcc (by exact Sb.aggs (by exact ⟨.refl _,.refl _,.refl _,.refl _,.refl _,.refl _,.refl _,.refl _,.nil _ _,trivial⟩)) (by exact .refl _))) ⟨rfl,A4 (fun b=>AV.tup [.agg (evR ⟨0,0,0,0,0,⟨0,0⟩,0,[]⟩),bv b]) (by rfl)⟩
theorem yi0 (h:Hist) (e:Ev) (b2 b3 k:Nat) (hl:e.scan.length≤4611686018427387904) (hk:e.kind=k) (h1:1≤k) (h7:k < 7):
 ∃av,(([.v .nilFunc,.fn (.func 175) [] [pZ b3,pZ b2],.fn (.func 177) [] [pZ b3,pZ b2],.fn (.func 179) [] [pZ b3,pZ b2],.fn (.func 180) [] [pZ b2,pZ b3],.fn (.func 183) [] [],.fn (.func 184) [] []]):List AV)[k * 1]? =some av∧y4 Tryz.prog av [] [.box b3 66 (evR e),.box b2 28 (y8 h)] (fun r h'=>h'= [.box b3 66 (evR e),.box b2 28 (y8 h)]∧r= .tup [.agg (evR (zhf h e).1),bv (zhf h e).2]):=by
 rcases (by omega:k=1∨k=2∨k=3∨k=4∨k=5∨k=6) with rfl|rfl|rfl|rfl|rfl|rfl
 ·refine ⟨_,rfl,?_⟩;have hc:zhf h e=(⟨0,0,e.s,e.l,0,⟨0,0⟩,0,[]⟩,zeu h e):=by unfold zhf;rw [hk];rfl
  rw [hc];exact y4.of_acall (fs:= []) (cs:= [pZ b3,pZ b2]) (ytd e h b3 b2)
 ·refine ⟨_,rfl,?_⟩;have hc:zhf h e=(⟨0,0,0,0,e.o,e.v,0,[]⟩,zbu h e):=by unfold zhf;rw [hk];rfl
  rw [hc];exact y4.of_acall (fs:= []) (cs:= [pZ b3,pZ b2]) (ytc e h b3 b2)
 ·refine ⟨_,rfl,?_⟩;have hc:zhf h e=(⟨0,0,0,0,e.o,e.v,0,[]⟩,ze3 h e):=by unfold zhf;rw [hk];rfl
  rw [hc];exact y4.of_acall (fs:= []) (cs:= [pZ b3,pZ b2]) (ytb e h b3 b2)
 ·refine ⟨_,rfl,?_⟩;have hc:zhf h e=(⟨0,0,0,0,0,⟨0,0⟩,e.p,e.scan⟩,zdh h e):=by unfold zhf;rw [hk];rfl
  rw [hc];exact y4.of_acall (fs:= []) (cs:= [pZ b2,pZ b3]) (yta e h b3 b2 hl)
 ·refine ⟨_,rfl,?_⟩;have hc:zhf h e=(⟨0,0,0,0,0,⟨0,0⟩,0,[]⟩,true):=by unfold zhf;rw [hk];rfl
  rw [hc];exact y4.pure (R:=fun x=>x=_) (y4.of_acall (fs:= []) (cs:= []) ys9)
 refine ⟨_,rfl,?_⟩;have hc:zhf h e=(⟨0,0,0,0,0,⟨0,0⟩,0,[]⟩,true):=by unfold zhf;rw [hk];rfl
 rw [hc];exact y4.pure (R:=fun x=>x=_) (y4.of_acall (fs:= []) (cs:= []) ys8)
theorem bvz5_3777 {a b:Bool} (h:a=b:=by first|(simp only [zcj, *,B9,B0,C2,E3,D1,E8,C4,F1,G4,F2,B3,D8,D3];done)|(simp_all [zcj];done)|(simp_all [zcj] <;> omega)):bv a=bv b:=A4 bv h
theorem yv7 (h:Hist) (e:Ev) (hl:e.scan.length≤4611686018427387904):y9 Tryz.prog 137 [.agg (y8 h),.agg (evR e)] [] (fun r h'=>h'= []∧r=bv (zcj h e)):=by
 refine z6 Tryz.func137 rfl rfl rfl ?_;refine rn ?_;refine z8 rfl (w7 rfl rfl rfl fun b2=>?_);refine z8 rfl (w7 rfl rfl rfl fun b3=>?_);refine rn ?_;refine z8 rfl (y6 rfl fun b5=>?_);refine rn ?_;refine x5 (fun hg2_3=>?_) (fun hg2_3=>?_)
 ·refine rn ?_;refine zdk rfl ?_;refine rn ?_;exact u6 rfl (.drop [_,_,_] _ _) ⟨rfl,bvz5_3777⟩
 refine rn ?_;refine x5 (fun hg2_8=>?_) (fun hg2_8=>?_)
 ·refine rn ?_;refine zdk rfl ?_;refine rn ?_;exact u6 rfl (.drop [_,_,_] _ _) ⟨rfl,bvz5_3777⟩
 refine rn ?_;refine qv rfl rfl (y3 rfl rfl (u0 (yai h 0 e.t _ rfl (by decide)) (Sbs.refl _))) ?_;refine rn ?_;refine z7 rfl (fun hc27=>?_) (fun hc27=>?_)
 ·refine rn ?_;exact u6 rfl (.drop [_,_,_] _ _) ⟨rfl,bvz5_3777⟩
 have hlo:1≤e.kind:=by simpa using hg2_3
 have hhi:e.kind < 7:=by simpa using hg2_8
 obtain ⟨k,hk⟩:=Int.eq_ofNat_of_zero_le (show 0≤e.kind by omega);obtain ⟨av,hav,hfc⟩:=yi0 h e b2 b3 k hl hk (by omega) (by omega);refine k7 ?_;refine j8 ?_;refine x7 (y5 ?_);refine q1 ?_;refine q1 ?_;refine qq rfl rfl (k9 rfl (by rw [←hk];rfl) (by omega)) ?_;refine qq rfl rfl (zab rfl (by simpa using hav)) ?_;refine qv rfl rfl (y3 rfl rfl (y4.quiet (R:=fun x=>x=_) (h2:= [_]) (E9 (l₁:= [_])) hfc)) ?_;refine rn ?_;refine z8 rfl (y6 rfl fun b6=>?_);refine rn ?_;refine zev 6 [(b6,66,_)] rfl (E9 (l₁:= [_])) ?_;refine rn ?_;refine dw 0 rfl rfl rfl rfl rfl (A7 rfl) ?_;refine rn2 ?_;show zc9 _ _ _ _ _ _ ⟨_,[.box b6 66 _,.box b5 _ _,.box b3 66 (evR e),.box b2 28 (y8 h)],_⟩;refine rn ?_;refine x5 (fun hg6_1=>?_) (fun hg6_1=>?_)
 ·refine rn ?_;refine qv rfl rfl (y3 rfl rfl (u0 (zsd {(zhf h e).1 with kind:=e.kind,t:=e.t} e (yeo h e hl) hl) (by exact Sbs.refl _))) ?_;refine rn ?_;exact u6 rfl (.drop [_,_,_,_] _ _) ⟨rfl,bvz5_3777⟩
 refine rn ?_;exact u6 rfl (.drop [_,_,_,_] _ _) ⟨rfl,bvz5_3777⟩
theorem ygk (h:Hist) (b:Nat) (t:Int):y9 Tryz.prog 133 [iv t,pZ b] [.box b 28 (y8 h)] (fun r h'=>h'= [.box b 28 (y8 h)]∧r=bv (zb8 h.ts t)):=by
 refine z6 Tryz.func133 rfl rfl rfl ?_;refine rn ?_;refine qv rfl rfl (y3 rfl rfl (u0 (yai h 0 _ _ rfl (by decide)) (Sbs.refl _))) ?_;refine rn ?_;exact u6 rfl (.refl _ _) ⟨rfl,A4 bv (by rfl)⟩
theorem ybh {full:Bool} (h:Hist) (b:Nat) (ts:List Int) (hl:ts.length≤4611686018427387904):y9 Tryz.prog 131 [.list full 1 (ts.map zag),pZ b] [.box b 28 (y8 h)] (fun r h'=>h'= [.box b 28 (y8 h)]∧r=bv (tsB h ts)):=by
 refine z6 Tryz.func131 rfl rfl rfl ?_;refine rn ?_;refine x5 (fun hg1_3=>?_) (fun hg1_3=>?_)
 ·refine rn ?_;refine qv rfl rfl (y3 rfl rfl (y4.of_fun (yt7 ts (.fn (.func 133) [] [pZ b]) (zb8 h.ts) [.box b 28 (y8 h)] rfl (fun t _=>y4.of_acall (fs:= []) (cs:= [pZ b]) (ygk h b t)) hl))) ?_;refine rn ?_;exact u6 rfl (.refl _ _) ⟨rfl,A4 bv (by first|(simp only [tsB, *,B9,B0,C2,E3,D1,E8,C4,F1,G4,F2,B3,D8,D3];done)|(simp_all [tsB];done)|(simp_all [tsB] <;> omega))⟩
 refine rn ?_;exact u6 rfl (.refl _ _) ⟨rfl,A4 bv (by first|(simp only [tsB, *,B9,B0,C2,E3,D1,E8,C4,F1,G4,F2,B3,D8,D3];done)|(simp_all [tsB];done)|(simp_all [tsB] <;> omega))⟩
theorem ymc (h:Hist) (b:Nat) (e:Ev) (hl:e.scan.length≤4611686018427387904):y9 Tryz.prog 136 [.agg (evR e),pZ b] [.box b 28 (y8 h)] (fun r h'=>h'= [.box b 28 (y8 h)]∧r=bv (zcj h e)):=by
 refine z6 Tryz.func136 rfl rfl rfl ?_;refine rn ?_;refine z8 rfl (w7 rfl rfl rfl fun b2=>?_);refine rn ?_;refine qv rfl rfl (y3 rfl rfl (u0 (yv7 h e hl) (Sbs.refl _))) ?_;refine rn ?_;exact u6 rfl (.drop1 _ _ _) ⟨rfl,A4 bv (by rfl)⟩
theorem ymb (h:Hist) (b c:Nat) (m:H.Ord) (hl:m.ts.length≤4611686018427387904):y9 Tryz.prog 139 [.agg (zb7 m),pZ b,pZ c] [.box b 28 (y8 h),.box c 207 [.fn (.func 131) [] [pZ b]]] (fun r h'=>h'= [.box b 28 (y8 h),.box c 207 [.fn (.func 131) [] [pZ b]]]∧r=bv (zrq h m)):=by
 refine z6 Tryz.func139 rfl rfl rfl ?_;refine rn ?_;refine z8 rfl (w7 rfl rfl rfl fun b3=>?_);refine rn ?_;refine qv rfl rfl (y3 rfl rfl (u0 (yai h 2 _ _ rfl (by decide)) (Sbs.refl _))) ?_;refine rn ?_;refine x5 (fun hg1_4=>?_) (fun hg1_4=>?_)
 ·refine rn ?_;refine qv rfl rfl (y3 rfl rfl (y4.quiet (R:=fun x=>x=bv (tsB h m.ts)) (h2:= [_,_]) (List.Perm.swap _ _ _) (y4.of_acall (fs:= []) (cs:= [pZ b]) (ybh h b m.ts hl)))) ?_;refine rn ?_;exact u6 rfl (.drop1 _ _ _) ⟨rfl,A4 bv (by first|(simp only [zrq, *,B9,B0,C2,E3,D1,E8,C4,F1,G4,F2,B3,D8,D3];done)|(simp_all [zrq];done)|(simp_all [zrq] <;> omega))⟩
 refine rn ?_;exact u6 rfl (.drop1 _ _ _) ⟨rfl,A4 bv (by first|(simp only [zrq, *,B9,B0,C2,E3,D1,E8,C4,F1,G4,F2,B3,D8,D3];done)|(simp_all [zrq];done)|(simp_all [zrq] <;> omega))⟩
theorem bvz6_5268 {a b:Bool} (h:a=b:=by first|(simp only [zvo, *,B9,B0,C2,E3,D1,E8,C4,F1,G4,F2,B3,D8,D3];done)|(simp_all [zvo];done)|(simp_all [zvo] <;> omega)):bv a=bv b:=A4 bv h
theorem yma (h:Hist) (b c:Nat) (m:Mat) (hl:m.ts.length≤4611686018427387904):y9 Tryz.prog 141 [.agg (zck m),pZ b,pZ c] [.box b 28 (y8 h),.box c 207 [.fn (.func 131) [] [pZ b]]] (fun r h'=>h'= [.box b 28 (y8 h),.box c 207 [.fn (.func 131) [] [pZ b]]]∧r=bv (zvo h m)):=by
 refine z6 Tryz.func141 rfl rfl rfl ?_;refine rn ?_;refine z8 rfl (w7 rfl rfl rfl fun b3=>?_);refine rn ?_;refine qv rfl rfl (y3 rfl rfl (u0 (yai h 3 _ _ rfl (by decide)) (Sbs.refl _))) ?_;refine rn ?_;refine x5 (fun hg1_4=>?_) (fun hg1_4=>?_)
 ·refine rn ?_;refine qv rfl rfl (y3 rfl rfl (u0 (yai h 2 _ _ rfl (by decide)) (Sbs.refl _))) ?_;refine rn ?_;refine x5 (fun hg1_10=>?_) (fun hg1_10=>?_)
  ·refine rn ?_;refine qv rfl rfl (y3 rfl rfl (y4.quiet (R:=fun x=>x=bv (tsB h m.ts)) (h2:= [_,_]) (List.Perm.swap _ _ _) (y4.of_acall (fs:= []) (cs:= [pZ b]) (ybh h b m.ts hl)))) ?_;refine rn ?_;exact u6 rfl (.drop1 _ _ _) ⟨rfl,bvz6_5268⟩
  refine rn ?_;exact u6 rfl (.drop1 _ _ _) ⟨rfl,bvz6_5268⟩
 refine rn ?_;exact u6 rfl (.drop1 _ _ _) ⟨rfl,bvz6_5268⟩
theorem bvz7_7959 {a b:Bool} (h:a=b:=by first|(simp only [zut, *,B9,B0,C2,E3,D1,E8,C4,F1,G4,F2,B3,D8,D3];done)|(simp_all [zut];done)|(simp_all [zut] <;> omega)):bv a=bv b:=A4 bv h
theorem yl9 (h:Hist) (b:Nat) (w:Wan):y9 Tryz.prog 143 [.agg (zar w),pZ b] [.box b 28 (y8 h)] (fun r h'=>h'= [.box b 28 (y8 h)]∧r=bv (zut h w)):=by
 refine z6 Tryz.func143 rfl rfl rfl ?_;refine rn ?_;refine z8 rfl (w7 rfl rfl rfl fun b2=>?_);refine rn ?_;refine qv rfl rfl (y3 rfl rfl (u0 (yai h 1 _ _ rfl (by decide)) (Sbs.refl _))) ?_;refine rn ?_;refine x5 (fun hg1_4=>?_) (fun hg1_4=>?_)
 ·refine rn ?_;refine x5 (fun hg1_9=>?_) (fun hg1_9=>?_)
  ·refine rn ?_;exact u6 rfl (.drop1 _ _ _) ⟨rfl,bvz7_7959⟩
  refine rn ?_;exact u6 rfl (.drop1 _ _ _) ⟨rfl,bvz7_7959⟩
 refine rn ?_;exact u6 rfl (.drop1 _ _ _) ⟨rfl,bvz7_7959⟩
theorem bvz8_1587 {a b:Bool} (h:a=b:=by first|(simp only [zaa, *,B9,B0,C2,E3,D1,E8,C4,F1,G4,F2,B3,D8,D3];done)|(simp_all [zaa];done)):bv a=bv b:=A4 bv h
theorem yql (h:Hist) (la:Lim 4611686018427387904 h):y9 Tryz.prog 103 [.agg (y8 h)] [.glob 3 148 x3,.glob 5 276 x6,.glob 6 279 y7] (fun r h'=>h'= [.glob 3 148 x3,.glob 5 276 x6,.glob 6 279 y7]∧r=bv (zaa h)):=by
 refine z6 Tryz.func103 rfl rfl rfl ?_;refine rn ?_;refine z8 rfl (w7 rfl rfl rfl fun b1=>?_);refine rn ?_;refine zke ?_;refine zh9 (⟨[(1,pZ b1),(3,bv (okK h 0))],.box b1 28 (y8 h):: [.glob 3 148 x3,.glob 5 276 x6,.glob 6 279 y7],[]⟩) ?_ ?_
 ·refine rn ?_;refine x5 (fun hg1_4=>?_) (fun hg1_4=>?_)
  ·refine rn ?_;rw [show okK h 0=_ from zxa h,hg1_4];exact (w6 (.cons _ _ _ rfl (.cons _ _ _ rfl (.nil))))
  refine rn ?_;rw [show okK h 0=_ from zxa h,hg1_4];exact (w6 (.cons _ _ _ rfl (.cons _ _ _ rfl (.nil))))
 refine x7 ?_;refine zyn ?_;refine rn0 ?_;refine zh9 (⟨[(3,bv (okK h 4)),(1,pZ b1)],.box b1 28 (y8 h):: [.glob 3 148 x3,.glob 5 276 x6,.glob 6 279 y7],[]⟩) ?_ ?_
 ·refine rn ?_;refine qv rfl rfl (y3 rfl rfl (u0 (ycq _) (Sbs.refl _))) ?_
  refine rn ?_;refine u4 (fun k:Nat=>k≤4) (fun k=>⟨[(29,iv k),(28,.agg (zix h)),(1,pZ b1),(3,bv (okK h k))],.box b1 28 (y8 h):: [.glob 3 148 x3,.glob 5 276 x6,.glob 6 279 y7],[]⟩) (fun k=>4 - k) 0 (by omega)
   (w6 (.cons _ _ _ rfl (.cons _ _ _ rfl (.cons _ _ _ rfl (.cons _ _ _ rfl (.nil)))))) ?_
  rintro k hk;refine rn ?_;refine z7 rfl (fun hc30=>?_) (fun hc30=>?_)
  ·have hk4:k < 4:=by simp at hc30;omega
   refine k7 ?_;refine j8 ?_;refine x7 ?_;refine k8 ?_;refine x7 (y5 ?_);refine q1 ?_;refine qq rfl rfl (zdw rfl rfl (by omega) (by have:=zp8 h hk4;simpa using this)) ?_;refine rn ?_;refine z8 rfl (zbm (enc:=ya9) rfl fun b33=>?_);refine rn0 ?_;refine zh9 (⟨[(5,v7 (nmK h k)),(3,bv (okj h k 0)),(6,.v (.map (some b33))),(29,iv k),(28,.agg (zix h)),(1,pZ b1)],.map b33 (zan ya9 []):: .box b1 28 (y8 h):: [.glob 3 148 x3,.glob 5 276 x6,.glob 6 279 y7],[]⟩) ?_ ?_
   ·refine rn ?_;refine x5 (fun hg6_1=>?_) (fun hg6_1=>?_)
    ·refine q1 ?_;refine q1 ?_;refine q1 ?_;refine qq rfl rfl (k9 rfl rfl (by omega)) ?_;refine qq rfl rfl (zab rfl (zvu hk4)) ?_;refine rn ?_;rw [yj9 h k,hg6_1];first|exact (w6 (.cons _ _ _ rfl (.cons _ _ _ rfl (.cons _ _ _ rfl (.cons _ _ _ rfl (.cons _ _ _ rfl (.cons _ _ _ rfl (.nil))))))))|(rw [B9];exact (w6 (.cons _ _ _ rfl (.cons _ _ _ rfl (.cons _ _ _ rfl (.cons _ _ _ rfl (.cons _ _ _ rfl (.cons _ _ _ rfl (.nil)))))))))
    refine rn ?_;rw [yj9 h k,hg6_1];first|exact (w6 (.cons _ _ _ rfl (.cons _ _ _ rfl (.cons _ _ _ rfl (.cons _ _ _ rfl (.cons _ _ _ rfl (.cons _ _ _ rfl (.nil))))))))|(rw [B9];exact (w6 (.cons _ _ _ rfl (.cons _ _ _ rfl (.cons _ _ _ rfl (.cons _ _ _ rfl (.cons _ _ _ rfl (.cons _ _ _ rfl (.nil)))))))))
   refine rn ?_;refine u4 (fun j:Nat=>j≤(nmK h k).length∧(0 < j→okj h k 0=true)∧zbj [] (nmK h k)=zbj ((nmK h k).take j) ((nmK h k).drop j)) (fun j=>⟨[(45,iv j),(43,v7 (nmK h k)),(44,iv ((nmK h k).map zaq).length),(3,bv (okj h k 0)),(6,.v (.map (some b33))),(29,iv k),(28,.agg (zix h)),(1,pZ b1)],.map b33 (zan ya9 (ykc ((nmK h k).take j))):: .box b1 28 (y8 h):: [.glob 3 148 x3,.glob 5 276 x6,.glob 6 279 y7],[]⟩) (fun j=>(nmK h k).length - j) 0 ⟨by omega,by omega,by simp⟩
    (w6 (.cons _ _ _ rfl (.cons _ _ _ rfl (.cons _ _ _ rfl (.cons _ _ _ rfl (.cons _ _ _ rfl (.cons _ _ _ rfl (.cons _ _ _ rfl (.cons _ _ _ rfl (.nil)))))))))) ?_
   rintro j ⟨hj,hok,hf⟩;have hlk:=la.nm k;refine rn ?_;refine z7 rfl (fun hc46=>?_) (fun hc46=>?_)
   ·have hj2:j < (nmK h k).length:=by simpa using hc46
    have hrow:(v7 (nmK h k))= .list false 1 ((nmK h k).map zaq):=rfl;have hrow2:((nmK h k).map zaq)[j]? =some (zaq (nmK h k)[j]):=by simp [hj2]
    have hd:=A8 hj2;refine k7 ?_;refine rn0 ?_;refine x7 ?_;refine k8 ?_;refine x7 (y5 ?_);refine rn0 ?_;refine x7 ?_;refine zh9 (⟨[(3,bv (okj h k 0 && wordB (nmK h k)[j] && !yak (nmK h k)[j] ((nmK h k).take j))),(8,sv (nmK h k)[j]),(45,iv j),(43,v7 (nmK h k)),(44,iv ((nmK h k).map zaq).length),(6,.v (.map (some b33))),(29,iv k),(28,.agg (zix h)),(1,pZ b1)],.map b33 (zan ya9 (ykc ((nmK h k).take j))):: .box b1 28 (y8 h):: [.glob 3 148 x3,.glob 5 276 x6,.glob 6 279 y7],[]⟩) ?_ ?_
    ·refine rn ?_;refine x5 (fun hg10_1=>?_) (fun hg10_1=>?_)
     ·refine rn ?_;refine qv rfl rfl (y3 rfl rfl (y4.qt (y4.of_fun (yw0 ((nmK h k)[j]))) ((pt3 _ _ _ _ _).trans (.cons _ (pt3 _ _ _ _ _))))) ?_;refine rn ?_;refine x5 (fun hg10_5=>?_) (fun hg10_5=>?_)
      ·refine rn ?_;refine qq rfl rfl (zsl (enc:=ya9) (k:=(nmK h k)[j]) rfl rfl (zzz _ _)) ?_;refine rn ?_;first|(rw [hg10_1,hg10_5];exact (w6 (.cons _ _ _ rfl (.cons _ _ _ rfl (.cons _ _ _ rfl (.cons _ _ _ rfl (.cons _ _ _ rfl (.cons _ _ _ rfl (.cons _ _ _ rfl (.cons _ _ _ rfl (.cons _ _ _ rfl (.nil))))))))))))|(rw [hg10_1];exact (w6 (.cons _ _ _ rfl (.cons _ _ _ rfl (.cons _ _ _ rfl (.cons _ _ _ rfl (.cons _ _ _ rfl (.cons _ _ _ rfl (.cons _ _ _ rfl (.cons _ _ _ rfl (.cons _ _ _ rfl (.nil))))))))))))
      refine rn ?_;first|(rw [hg10_1,hg10_5];exact (w6 (.cons _ _ _ rfl (.cons _ _ _ rfl (.cons _ _ _ rfl (.cons _ _ _ rfl (.cons _ _ _ rfl (.cons _ _ _ rfl (.cons _ _ _ rfl (.cons _ _ _ rfl (.cons _ _ _ rfl (.nil))))))))))))|(rw [hg10_1];exact (w6 (.cons _ _ _ rfl (.cons _ _ _ rfl (.cons _ _ _ rfl (.cons _ _ _ rfl (.cons _ _ _ rfl (.cons _ _ _ rfl (.cons _ _ _ rfl (.cons _ _ _ rfl (.cons _ _ _ rfl (.nil))))))))))))
     refine rn ?_;first|(rw [hg10_1,hg10_5];exact (w6 (.cons _ _ _ rfl (.cons _ _ _ rfl (.cons _ _ _ rfl (.cons _ _ _ rfl (.cons _ _ _ rfl (.cons _ _ _ rfl (.cons _ _ _ rfl (.cons _ _ _ rfl (.cons _ _ _ rfl (.nil))))))))))))|(rw [hg10_1];exact (w6 (.cons _ _ _ rfl (.cons _ _ _ rfl (.cons _ _ _ rfl (.cons _ _ _ rfl (.cons _ _ _ rfl (.cons _ _ _ rfl (.cons _ _ _ rfl (.cons _ _ _ rfl (.cons _ _ _ rfl (.nil))))))))))))
    refine rn ?_;refine z7 rfl (fun hc61=>?_) (fun hc61=>?_)
    ·have hfl:(okj h k 0 && wordB (nmK h k)[j] && !yak (nmK h k)[j] ((nmK h k).take j))=false:=zj2 hc61;have hbad:okK h 4=false:=yrm hk4 (yvl (hf.trans (by rw [hd])) hfl)
     refine rn ?_;first
      |exact (w6 (.cons _ _ _ rfl (.cons _ _ _ rfl (.nil))))
      |(rw [hbad,←hfl];exact (w8 (za1 (h1:= [_])) (w6 (.cons _ _ _ rfl (.cons _ _ _ rfl (.nil))))))
    obtain ⟨hok2,hw,hfresh⟩:=yrn (zj3 hc61);refine rn ?_;refine z8 rfl (zlf (enc:=ya9) (k:=(nmK h k)[j]) rfl rfl rfl ?_);refine rn ?_;have hu:=zwp ((nmK h k)[j]) ((nmK h k).take j) (yrv.1 hfresh);rw [←A5 hj2] at hu;exact ⟨j+1,⟨by omega,fun _=>hok2,by rw [hf,hd,zbj,hw,A5 hj2];simp [hfresh]⟩,by simp only [hu,hok2,hw,hfresh,B9,D3];exact (w6 (.cons _ _ _ rfl (.cons _ _ _ rfl (.cons _ _ _ rfl (.cons _ _ _ rfl (.cons _ _ _ rfl (.cons _ _ _ rfl (.cons _ _ _ rfl (.cons _ _ _ rfl (.nil)))))))))),by omega⟩
   have hj3:j=(nmK h k).length:=by
    have:(nmK h k).length≤j:=by simpa using hc46
    omega
   refine rn ?_;have hend:=yrl (h:=h) (k:=k) (by rw [hf,hj3,E5];rfl);exact ⟨k+1,by omega,by rw [←hend];exact (w8 (za1 (h1:= [_])) (w6 (.cons _ _ _ rfl (.cons _ _ _ rfl (.cons _ _ _ rfl (.cons _ _ _ rfl (.nil))))))),by omega⟩
  have hk4:k=4:=by simp at hc30;omega
  subst hk4
  refine rn ?_;first
   |exact (w6 (.cons _ _ _ rfl (.cons _ _ _ rfl (.nil))))
   |(rw [hbad,←hfl];exact (w8 (za1 (h1:= [_])) (w6 (.cons _ _ _ rfl (.cons _ _ _ rfl (.nil))))))
 refine rn ?_;refine z8 rfl (y6 rfl fun b9=>?_);refine rn ?_;refine x5 (fun hg16_1=>?_) (fun hg16_1=>?_)
 ·refine rn ?_;refine qv rfl rfl (y3 rfl rfl (y4.of_fun (ywk h.evs (.fn (.func 136) [] [pZ b1]) (zcj h) (.box b9 207 [.fn (.func 131) [] [pZ b1]]:: .box b1 28 (y8 h):: [.glob 3 148 x3,.glob 5 276 x6,.glob 6 279 y7]) rfl (fun e he=>y4.qt (y4.of_acall (fs:= []) (cs:= [pZ b1]) (ymc h b1 e (la.scans e he))) (pt1 _ _ _)) la.evs))) ?_;refine rn ?_;refine x5 (fun hg16_7=>?_) (fun hg16_7=>?_)
  ·refine rn ?_;refine qv rfl rfl (y3 rfl rfl (y4.of_fun (yt5 h.ords (.fn (.func 139) [] [pZ b1,pZ b9]) (zrq h) (.box b9 207 [.fn (.func 131) [] [pZ b1]]:: .box b1 28 (y8 h):: [.glob 3 148 x3,.glob 5 276 x6,.glob 6 279 y7]) rfl (fun e he=>y4.qt (y4.of_acall (fs:= []) (cs:= [pZ b1,pZ b9]) (ymb h b1 b9 e (la.ordts e he))) (pt1 _ _ _)) la.ords))) ?_;refine rn ?_;refine x5 (fun hg16_13=>?_) (fun hg16_13=>?_)
   ·refine rn ?_;refine qv rfl rfl (y3 rfl rfl (y4.of_fun (yt6 h.mats (.fn (.func 141) [] [pZ b1,pZ b9]) (zvo h) (.box b9 207 [.fn (.func 131) [] [pZ b1]]:: .box b1 28 (y8 h):: [.glob 3 148 x3,.glob 5 276 x6,.glob 6 279 y7]) rfl (fun e he=>y4.qt (y4.of_acall (fs:= []) (cs:= [pZ b1,pZ b9]) (yma h b1 b9 e (la.matts e he))) (pt1 _ _ _)) la.mats))) ?_;refine rn ?_;refine x5 (fun hg16_19=>?_) (fun hg16_19=>?_)
    ·refine rn ?_;refine qv rfl rfl (y3 rfl rfl (y4.of_fun (yt4 h.wants (.fn (.func 143) [] [pZ b1]) (zut h) (.box b9 207 [.fn (.func 131) [] [pZ b1]]:: .box b1 28 (y8 h):: [.glob 3 148 x3,.glob 5 276 x6,.glob 6 279 y7]) rfl (fun e he=>y4.qt (y4.of_acall (fs:= []) (cs:= [pZ b1]) (yl9 h b1 e)) (pt1 _ _ _)) la.wants))) ?_;refine rn ?_;refine ⟨fun l h=>(by cases h),?_⟩;exact u6 rfl (.drop [_,_] _ _) ⟨rfl,bvz8_1587⟩
    refine rn ?_;refine ⟨fun l h=>(by cases h),?_⟩;exact u6 rfl (.drop [_,_] _ _) ⟨rfl,bvz8_1587⟩
   refine rn ?_;refine ⟨fun l h=>(by cases h),?_⟩;exact u6 rfl (.drop [_,_] _ _) ⟨rfl,bvz8_1587⟩
  refine rn ?_;refine ⟨fun l h=>(by cases h),?_⟩;exact u6 rfl (.drop [_,_] _ _) ⟨rfl,bvz8_1587⟩
 refine rn ?_;refine ⟨fun l h=>(by cases h),?_⟩;exact u6 rfl (.drop [_,_] _ _) ⟨rfl,bvz8_1587⟩
theorem zy5 {σ:Type} (step:σ→Nat×Int→Option σ) (ok:Nat×Int→Prop) (IJ:Option σ→List Res→Prop) (y:AV) (hy:∀(s:σ) (L:List Res) (sort:Nat) (n:Int) (cells:List AV),ok (sort,n)→IJ (some s) L→y4 Tryz.prog y [iv sort,.pp (iv n::cells)] L (fun r h'=>r=bv (step s (sort,n)).isSome∧IJ (step s (sort,n)) h')) (sort:Nat) (n:Int) (hs:ok (sort,n)) (cells:List AV) (bm by_:Nat) (st:Option σ) (L:List Res) (hI:IJ st L):y9 Tryz.prog 145 [iv sort,.pp (iv n::cells),pZ bm,pZ by_] (.box bm 4 [bv (st).isSome]:: .box by_ 215 [y]::L) (fun r h'=>∃L',IJ (goes step st [(sort,n)]) L'∧h'= .box bm 4 [bv (goes step st [(sort,n)]).isSome]:: .box by_ 215 [y]::L'):=by
 refine z6 Tryz.func145 rfl rfl rfl ?_;refine rn ?_;refine x5 (fun hg0_1=>?_) (fun hg0_1=>?_)
 ·refine rn ?_;obtain ⟨s,rfl⟩:=O7.1 hg0_1;refine z8 rfl (q7 rfl rfl (y4.fr2 (hy s L sort n cells hs hI)) rfl ?_);rintro _ _ ⟨L2,rfl,rfl,hI2⟩
  refine rn ?_;first
   |exact zfi .nil (.refl _ _) ⟨L2,hI2,rfl⟩
   |(obtain rfl:=X3.1 (show ¬st.isSome=true by simp [hg0_1])
     exact zfi .nil (.refl _ _) ⟨L,hI,rfl⟩)
 refine rn ?_;first
  |exact zfi .nil (.refl _ _) ⟨L2,hI2,rfl⟩
  |(obtain rfl:=X3.1 (show ¬st.isSome=true by simp [hg0_1])
    exact zfi .nil (.refl _ _) ⟨L,hI,rfl⟩)
theorem yns {σ:Type} (step:σ→Nat×Int→Option σ) (ok:Nat×Int→Prop) (IJ:Option σ→List Res→Prop) (y:AV) (hy:∀(s:σ) (L:List Res) (sort:Nat) (n:Int) (cells:List AV),ok (sort,n)→IJ (some s) L→y4 Tryz.prog y [iv sort,.pp (iv n::cells)] L (fun r h'=>r=bv (step s (sort,n)).isSome∧IJ (step s (sort,n)) h')) (v:Ver) (hv:∀x∈zga v,ok x) (cells:List AV) (bs bm by_:Nat) (st:Option σ) (L:List Res) (hI:IJ st L):y9 Tryz.prog 146 [.pp (iv v.t::iv v.k::cells),pZ bs] (.box bs 216 [.fn (.func 145) [] [pZ bm,pZ by_]]:: .box bm 4 [bv (st).isSome]:: .box by_ 215 [y]::L) (fun r h'=>∃L',IJ (goes step st (zga v)) L'∧h'= .box bs 216 [.fn (.func 145) [] [pZ bm,pZ by_]]:: .box bm 4 [bv (goes step st (zga v)).isSome]:: .box by_ 215 [y]::L'):=by
 refine z6 Tryz.func146 rfl rfl rfl ?_;refine rn ?_;refine z7 rfl (fun hc7=>?_) (fun hc7=>?_)
 ·refine j5 4 rfl ?_;refine rn ?_;refine z8 rfl (q7 rfl rfl (y4.fr1 (y4.of_acall (fs:= []) (cs:= [pZ bm,pZ by_]) (zy5 step ok IJ y hy 0 v.t (hv _ (by rw [zga,A6 hc7];simp)) (iv v.k::cells) bm by_ _ _ hI))) rfl ?_);rintro _ _ ⟨_,rfl,L2,hI2,rfl⟩
  refine rn ?_;first
   |(have hm:zga v= [(0,v.t)]:=by rw [zga,A6 hc7]
     rw [hm];exact zfi .nil (.refl _ _) ⟨L2,hI2,rfl⟩)
   |(have hm:zga v= []:=by rw [zga,A0 (by rw [hc7];decide)]
     rw [hm];exact zfi .nil (.refl _ _) ⟨L,hI,rfl⟩)
 refine rn ?_;first
  |(have hm:zga v= [(0,v.t)]:=by rw [zga,A6 hc7]
    rw [hm];exact zfi .nil (.refl _ _) ⟨L2,hI2,rfl⟩)
  |(have hm:zga v= []:=by rw [zga,A0 (by rw [hc7];decide)]
    rw [hm];exact zfi .nil (.refl _ _) ⟨L,hI,rfl⟩)
theorem yl3 {σ:Type} (step:σ→Nat×Int→Option σ) (ok:Nat×Int→Prop) (IJ:Option σ→List Res→Prop) (y:AV) (hone:y.cellsOf=some [y]) (hy:∀(s:σ) (L:List Res) (sort:Nat) (n:Int) (cells:List AV),ok (sort,n)→IJ (some s) L→y4 Tryz.prog y [iv sort,.pp (iv n::cells)] L (fun r h'=>r=bv (step s (sort,n)).isSome∧IJ (step s (sort,n)) h')) (h:Hist) (la:Lim 4611686018427387904 h) (b1 bh:Nat) (hok:∀x∈zcn h,ok x) (s0:σ) (L0:List Res) (h0:IJ (some s0) L0):y9 Tryz.prog 144 [y,pZ b1] (.box b1 168 [pZ bh]:: .box bh 28 (y8 h)::L0) (fun r h'=>∃L',IJ (goes step (some s0) (zcn h)) L'∧h'= .box b1 168 [pZ bh]:: .box bh 28 (y8 h)::L'):=by
 refine z6 Tryz.func144 rfl rfl rfl ?_;refine rn ?_;refine z8 rfl (w7 rfl hone rfl fun by_=>?_);refine rn ?_;refine z8 rfl (y6 rfl fun bm=>?_);refine rn ?_;refine z8 rfl (y6 rfl fun bs=>?_)
 refine rn ?_;refine u4 (fun x:Nat×Option σ×List Res=>x.1≤h.evs.length∧IJ x.2.1 x.2.2∧Rem step ok x.2.1 (((h.evs.drop x.1).flatMap evL)++(h.ords.flatMap yfo++(h.mats.flatMap yal++h.wants.flatMap zur))) (goes step (some s0) (zcn h))) (fun x=>⟨[(22,iv x.1),(21,iv (h.evs.map evR).length),(1,pZ b1),(4,pZ bs),(5,.fn (.func 146) [] [pZ bs])],.box b1 168 [pZ bh]:: .box bh 28 (y8 h):: .box bs 216 [.fn (.func 145) [] [pZ bm,pZ by_]]:: .box bm 4 [bv (x.2.1).isSome]:: .box by_ 215 [y]::x.2.2,[]⟩) (fun x=>h.evs.length - x.1) (0,some s0,L0) ⟨by omega,h0,rfl,hok⟩
  (w8 (zau ((pt3 _ _ _ _ _).trans (.cons _ (pt3 _ _ _ _ _)))) (w6 (.cons _ _ _ rfl (.cons _ _ _ rfl (.cons _ _ _ rfl (.cons _ _ _ rfl (.cons _ _ _ rfl (.nil)))))))) ?_
 rintro ⟨k,st,L⟩ ⟨hk,hI,hF⟩;simp only at hk hI hF;refine rn ?_;refine z7 rfl (fun hc23=>?_) (fun hc23=>?_)
 ·have k2:k < h.evs.length:=by simpa using hc23
  obtain ⟨e,he⟩:∃e,e=h.evs[k]:=⟨_,rfl⟩;have hrowe:(h.evs.map evR)[k]? =some (evR e):=by rw [he];simp [k2]
  have hde:=A8 k2;rw [hde,←he] at hF;simp only [I6,evL,G7,E0] at hF;obtain ⟨hx,hF⟩:=hF.cons;obtain ⟨hkx,hF⟩:=hF.app;have hle:=la.evs;have hls:=la.scans e (by rw [he];simp);refine rn ?_;refine j5 4 rfl ?_;refine rn ?_;refine z8 rfl (q7 rfl rfl (y4.fr3 (y4.of_acall (fs:= []) (cs:= [pZ bm,pZ by_]) (zy5 step ok IJ y hy 0 e.t hx _ bm by_ _ _ hI))) rfl ?_);rintro _ _ ⟨_,rfl,L,hI,rfl⟩;refine rn0 ?_;refine zhj (fun L=>IJ (goes step (goes step st [(0,e.t)]) (zgr e)) L) (fun L=>⟨[(7,.pp (evR e)),(22,iv k),(21,iv (h.evs.map evR).length),(1,pZ b1),(4,pZ bs),(5,.fn (.func 146) [] [pZ bs])],.box b1 168 [pZ bh]:: .box bh 28 (y8 h):: .box bs 216 [.fn (.func 145) [] [pZ bm,pZ by_]]:: .box bm 4 [bv (goes step (goes step st [(0,e.t)]) (zgr e)).isSome]:: .box by_ 215 [y]::L,[]⟩) ?_ ?_
  ·refine rn ?_;refine z7 rfl (fun hc40=>?_) (fun hc40=>?_)
   ·have hkl:=zvw (e:=e) (by simpa using hc40);refine j5 4 rfl ?_;refine rn ?_;refine z8 rfl (q7 rfl rfl (y4.fr3 (y4.of_acall (fs:= []) (cs:= [pZ bm,pZ by_]) (zy5 step ok IJ y hy 1 e.s (hkx _ (by rw [hkl];simp)) _ bm by_ _ _ hI))) rfl ?_);rintro _ _ ⟨_,rfl,L,hI,rfl⟩;refine rn ?_;refine ⟨L,?_,?_⟩
    ·show IJ (goes step _ (zgr e)) L;rw [hkl];exact hI
    rw [hkl];exact (w6 (.cons _ _ _ rfl (.cons _ _ _ rfl (.cons _ _ _ rfl (.cons _ _ _ rfl (.cons _ _ _ rfl (.cons _ _ _ rfl (.nil))))))))
   have hn1:e.kind≠1:=by simpa using hc40
   refine rn ?_;refine z7 rfl (fun hc47=>?_) (fun hc47=>?_)
   ·have hk23:e.kind=2∨e.kind=3:=by simp at hc47;omega
    have hkl:=znh hk23;refine rn ?_;refine z7 rfl (fun hc47=>?_) (fun hc47=>?_)
    ·have hk23:e.kind=2∨e.kind=3:=by simp at hc47;omega
     have hkl:=znh hk23;refine rn ?_;refine j5 4 rfl ?_;refine rn ?_;refine z8 rfl (q7 rfl rfl (y4.fr3 (y4.of_acall (fs:= []) (cs:= [pZ bm,pZ by_]) (zy5 step ok IJ y hy 2 e.o (hkx _ (by rw [hkl];simp)) _ bm by_ _ _ hI))) rfl ?_);rintro _ _ ⟨_,rfl,L,hI,rfl⟩;refine rn ?_;refine z8 rfl (q7 rfl rfl (y4.fr2 (y4.of_acall (fs:= []) (cs:= [pZ bs]) (yns step ok IJ y hy e.v (fun x hx=>hkx x (by rw [hkl];simp [hx])) _ bs bm by_ _ _ hI))) rfl ?_);rintro _ _ ⟨_,rfl,L,hI,rfl⟩;refine rn ?_;refine ⟨L,?_,?_⟩
     ·show IJ (goes step _ (zgr e)) L;rw [hkl];exact hI
     rw [hkl];exact (w6 (.cons _ _ _ rfl (.cons _ _ _ rfl (.cons _ _ _ rfl (.cons _ _ _ rfl (.cons _ _ _ rfl (.cons _ _ _ rfl (.nil))))))))
    first|cases hc47|exact absurd hc47 (by decide)|(exfalso;simp_all;done)
   have hn23:=hc47;simp at hn23;refine rn ?_;refine z7 rfl (fun hc47=>?_) (fun hc47=>?_)
   ·have hk23:e.kind=2∨e.kind=3:=by simp at hc47;omega
    have hkl:=znh hk23;refine rn ?_;refine j5 4 rfl ?_;refine rn ?_;refine z8 rfl (q7 rfl rfl (y4.fr3 (y4.of_acall (fs:= []) (cs:= [pZ bm,pZ by_]) (zy5 step ok IJ y hy 2 e.o (hkx _ (by rw [hkl];simp)) _ bm by_ _ _ hI))) rfl ?_);rintro _ _ ⟨_,rfl,L,hI,rfl⟩;refine rn ?_;refine z8 rfl (q7 rfl rfl (y4.fr2 (y4.of_acall (fs:= []) (cs:= [pZ bs]) (yns step ok IJ y hy e.v (fun x hx=>hkx x (by rw [hkl];simp [hx])) _ bs bm by_ _ _ hI))) rfl ?_);rintro _ _ ⟨_,rfl,L,hI,rfl⟩;refine rn ?_;refine ⟨L,?_,?_⟩
    ·show IJ (goes step _ (zgr e)) L;rw [hkl];exact hI
    rw [hkl];exact (w6 (.cons _ _ _ rfl (.cons _ _ _ rfl (.cons _ _ _ rfl (.cons _ _ _ rfl (.cons _ _ _ rfl (.cons _ _ _ rfl (.nil))))))))
   have hn23:=hc47;simp at hn23;refine rn ?_;refine z7 rfl (fun hc60=>?_) (fun hc60=>?_)
   ·have hkl:=yda (e:=e) (by simpa using hc60);refine j5 4 rfl ?_;refine rn ?_;refine z8 rfl (q7 rfl rfl (y4.fr3 (y4.of_acall (fs:= []) (cs:= [pZ bm,pZ by_]) (zy5 step ok IJ y hy 3 e.p (hkx _ (by rw [hkl];simp)) _ bm by_ _ _ hI))) rfl ?_);rintro _ _ ⟨_,rfl,L,hI,rfl⟩;refine rn ?_;refine ⟨L,?_,?_⟩
    ·show IJ (goes step _ (zgr e)) L;rw [hkl];exact hI
    rw [hkl];exact (w6 (.cons _ _ _ rfl (.cons _ _ _ rfl (.cons _ _ _ rfl (.cons _ _ _ rfl (.cons _ _ _ rfl (.cons _ _ _ rfl (.nil))))))))
   have hn4:e.kind≠4:=by simpa using hc60
   have hkl:=ydb (e:=e) hn1 (by omega) (by omega) hn4;refine rn ?_;refine ⟨L,?_,?_⟩
   ·show IJ (goes step _ (zgr e)) L;rw [hkl];exact hI
   rw [hkl];exact (w6 (.cons _ _ _ rfl (.cons _ _ _ rfl (.cons _ _ _ rfl (.cons _ _ _ rfl (.cons _ _ _ rfl (.cons _ _ _ rfl (.nil))))))))
  rintro L hI;revert hI hF;generalize goes step (goes step st [(0,e.t)]) (zgr e)=st2;intro hF hI
  refine rn ?_;refine u4 (fun x:Nat×Option σ×List Res=>x.1≤e.scan.length∧IJ x.2.1 x.2.2∧Rem step ok x.2.1 (((e.scan.drop x.1).flatMap zsc)++(((h.evs.drop (k+1)).flatMap evL)++(h.ords.flatMap yfo++(h.mats.flatMap yal++h.wants.flatMap zur)))) (goes step (some s0) (zcn h))) (fun x=>⟨[(72,iv x.1),(71,iv (e.scan.map zav).length),(7,.pp (evR e)),(22,iv k),(21,iv (h.evs.map evR).length),(1,pZ b1),(4,pZ bs),(5,.fn (.func 146) [] [pZ bs])],.box b1 168 [pZ bh]:: .box bh 28 (y8 h):: .box bs 216 [.fn (.func 145) [] [pZ bm,pZ by_]]:: .box bm 4 [bv (x.2.1).isSome]:: .box by_ 215 [y]::x.2.2,[]⟩) (fun x=>e.scan.length - x.1) (0,st2,L) ⟨by omega,hI,hF⟩
   (w6 (.cons _ _ _ rfl (.cons _ _ _ rfl (.cons _ _ _ rfl (.cons _ _ _ rfl (.cons _ _ _ rfl (.cons _ _ _ rfl (.cons _ _ _ rfl (.cons _ _ _ rfl (.nil)))))))))) ?_
  rintro ⟨j,st,L⟩ ⟨hj,hI,hF⟩;simp only at hj hI hF;refine rn ?_;refine z7 rfl (fun hc73=>?_) (fun hc73=>?_)
  ·have j2:j < e.scan.length:=by simpa using hc73
   obtain ⟨x,hx⟩:∃x,x=e.scan[j]:=⟨_,rfl⟩;have hrowx:(e.scan.map zav)[j]? =some (zav x):=by rw [hx];simp [j2]
   have hdx:=A8 j2;rw [hdx,←hx] at hF;simp only [I6,zsc,G7,E0] at hF;obtain ⟨hx,hF⟩:=hF.cons;obtain ⟨hkx,hF⟩:=hF.app;refine rn ?_;refine j5 8 rfl ?_;refine rn ?_;refine z8 rfl (q7 rfl rfl (y4.fr3 (y4.of_acall (fs:= []) (cs:= [pZ bm,pZ by_]) (zy5 step ok IJ y hy 2 x.o hx _ bm by_ _ _ hI))) rfl ?_);rintro _ _ ⟨_,rfl,L,hI,rfl⟩;refine rn ?_;refine z8 rfl (q7 rfl rfl (y4.fr2 (y4.of_acall (fs:= []) (cs:= [pZ bs]) (yns step ok IJ y hy x.v hkx _ bs bm by_ _ _ hI))) rfl ?_);rintro _ _ ⟨_,rfl,L,hI,rfl⟩;refine rn ?_;exact ⟨(j+1,_,L),⟨by omega,hI,hF⟩,(w6 (.cons _ _ _ rfl (.cons _ _ _ rfl (.cons _ _ _ rfl (.cons _ _ _ rfl (.cons _ _ _ rfl (.cons _ _ _ rfl (.cons _ _ _ rfl (.cons _ _ _ rfl (.nil)))))))))),by simp only;omega⟩
  obtain rfl:j=e.scan.length:=by
   have:e.scan.length≤j:=by simpa using hc73
   omega
  rw [E5,N7,E7] at hF;refine rn ?_;exact ⟨(k+1,_,L),⟨by omega,hI,hF⟩,(w6 (.cons _ _ _ rfl (.cons _ _ _ rfl (.cons _ _ _ rfl (.cons _ _ _ rfl (.cons _ _ _ rfl (.nil))))))),by simp only;omega⟩
 obtain rfl:k=h.evs.length:=by
  have:h.evs.length≤k:=by simpa using hc23
  omega
 rw [E5,N7,E7] at hF
 refine rn ?_;refine u4 (fun x:Nat×Option σ×List Res=>x.1≤h.ords.length∧IJ x.2.1 x.2.2∧Rem step ok x.2.1 (((h.ords.drop x.1).flatMap yfo)++(h.mats.flatMap yal++h.wants.flatMap zur)) (goes step (some s0) (zcn h))) (fun x=>⟨[(100,iv x.1),(99,iv (h.ords.map zb7).length),(1,pZ b1),(4,pZ bs),(5,.fn (.func 146) [] [pZ bs])],.box b1 168 [pZ bh]:: .box bh 28 (y8 h):: .box bs 216 [.fn (.func 145) [] [pZ bm,pZ by_]]:: .box bm 4 [bv (x.2.1).isSome]:: .box by_ 215 [y]::x.2.2,[]⟩) (fun x=>h.ords.length - x.1) (0,st,L) ⟨by omega,hI,hF⟩
  (w6 (.cons _ _ _ rfl (.cons _ _ _ rfl (.cons _ _ _ rfl (.cons _ _ _ rfl (.cons _ _ _ rfl (.nil))))))) ?_
 rintro ⟨k,st,L⟩ ⟨hk,hI,hF⟩;simp only at hk hI hF;refine rn ?_;refine z7 rfl (fun hc101=>?_) (fun hc101=>?_)
 ·have k2:k < h.ords.length:=by simpa using hc101
  obtain ⟨r,hr⟩:∃r,r=h.ords[k]:=⟨_,rfl⟩;have hrowr:(h.ords.map zb7)[k]? =some (zb7 r):=by rw [hr];simp [k2]
  have hdr:=A8 k2;rw [hdr,←hr] at hF;simp only [I6,yfo,G7,E0] at hF;obtain ⟨hx,hF⟩:=hF.cons;have hle:=la.ords;have hls:=la.ordts r (by rw [hr];simp);refine rn ?_;refine j5 8 rfl ?_;refine rn ?_;refine z8 rfl (q7 rfl rfl (y4.fr3 (y4.of_acall (fs:= []) (cs:= [pZ bm,pZ by_]) (zy5 step ok IJ y hy 2 r.o hx _ bm by_ _ _ hI))) rfl ?_);rintro _ _ ⟨_,rfl,L,hI,rfl⟩
  refine rn ?_;refine u4 (fun x:Nat×Option σ×List Res=>x.1≤r.ts.length∧IJ x.2.1 x.2.2∧Rem step ok x.2.1 (((r.ts.drop x.1).map fun t=>((0:Nat),t))++(((h.ords.drop (k+1)).flatMap yfo)++(h.mats.flatMap yal++h.wants.flatMap zur))) (goes step (some s0) (zcn h))) (fun x=>⟨[(121,iv x.1),(120,iv (r.ts.map zag).length),(9,iv k),(100,iv k),(99,iv (h.ords.map zb7).length),(1,pZ b1),(4,pZ bs),(5,.fn (.func 146) [] [pZ bs])],.box b1 168 [pZ bh]:: .box bh 28 (y8 h):: .box bs 216 [.fn (.func 145) [] [pZ bm,pZ by_]]:: .box bm 4 [bv (x.2.1).isSome]:: .box by_ 215 [y]::x.2.2,[]⟩) (fun x=>r.ts.length - x.1) (0,_,L) ⟨by omega,hI,hF⟩
   (w6 (.cons _ _ _ rfl (.cons _ _ _ rfl (.cons _ _ _ rfl (.cons _ _ _ rfl (.cons _ _ _ rfl (.cons _ _ _ rfl (.cons _ _ _ rfl (.cons _ _ _ rfl (.nil)))))))))) ?_
  rintro ⟨j,st,L⟩ ⟨hj,hI,hF⟩;simp only at hj hI hF;refine rn ?_;refine z7 rfl (fun hc122=>?_) (fun hc122=>?_)
  ·have j2:j < r.ts.length:=by simpa using hc122
   obtain ⟨t,ht⟩:∃t,t=r.ts[j]:=⟨_,rfl⟩;have hrowt:(r.ts.map zag)[j]? =some (zag t):=by rw [ht];simp [j2]
   have hdt:=A8 j2;rw [hdt,←ht] at hF;simp only [F6,G7] at hF;obtain ⟨hx,hF⟩:=hF.cons;refine rn ?_;refine j5 11 rfl ?_;refine rn ?_;refine z8 rfl (q7 rfl rfl (y4.fr3 (y4.of_acall (fs:= []) (cs:= [pZ bm,pZ by_]) (zy5 step ok IJ y hy 0 t hx _ bm by_ _ _ hI))) rfl ?_);rintro _ _ ⟨_,rfl,L,hI,rfl⟩;refine rn ?_;exact ⟨(j+1,_,L),⟨by omega,hI,hF⟩,(w6 (.cons _ _ _ rfl (.cons _ _ _ rfl (.cons _ _ _ rfl (.cons _ _ _ rfl (.cons _ _ _ rfl (.cons _ _ _ rfl (.cons _ _ _ rfl (.cons _ _ _ rfl (.nil)))))))))),by simp only;omega⟩
  obtain rfl:j=r.ts.length:=by
   have:r.ts.length≤j:=by simpa using hc122
   omega
  rw [E5,I1,E7] at hF;refine rn ?_;exact ⟨(k+1,_,L),⟨by omega,hI,hF⟩,(w6 (.cons _ _ _ rfl (.cons _ _ _ rfl (.cons _ _ _ rfl (.cons _ _ _ rfl (.cons _ _ _ rfl (.nil))))))),by simp only;omega⟩
 obtain rfl:k=h.ords.length:=by
  have:h.ords.length≤k:=by simpa using hc101
  omega
 rw [E5,N7,E7] at hF
 refine rn ?_;refine u4 (fun x:Nat×Option σ×List Res=>x.1≤h.mats.length∧IJ x.2.1 x.2.2∧Rem step ok x.2.1 (((h.mats.drop x.1).flatMap yal)++h.wants.flatMap zur) (goes step (some s0) (zcn h))) (fun x=>⟨[(143,iv x.1),(142,iv (h.mats.map zck).length),(1,pZ b1),(4,pZ bs),(5,.fn (.func 146) [] [pZ bs])],.box b1 168 [pZ bh]:: .box bh 28 (y8 h):: .box bs 216 [.fn (.func 145) [] [pZ bm,pZ by_]]:: .box bm 4 [bv (x.2.1).isSome]:: .box by_ 215 [y]::x.2.2,[]⟩) (fun x=>h.mats.length - x.1) (0,st,L) ⟨by omega,hI,hF⟩
  (w6 (.cons _ _ _ rfl (.cons _ _ _ rfl (.cons _ _ _ rfl (.cons _ _ _ rfl (.cons _ _ _ rfl (.nil))))))) ?_
 rintro ⟨k,st,L⟩ ⟨hk,hI,hF⟩;simp only at hk hI hF;refine rn ?_;refine z7 rfl (fun hc144=>?_) (fun hc144=>?_)
 ·have k2:k < h.mats.length:=by simpa using hc144
  obtain ⟨r,hr⟩:∃r,r=h.mats[k]:=⟨_,rfl⟩;have hrowr:(h.mats.map zck)[k]? =some (zck r):=by rw [hr];simp [k2]
  have hdr:=A8 k2;rw [hdr,←hr] at hF;simp only [I6,yal,G7,E0] at hF;obtain ⟨hx,hF⟩:=hF.cons;obtain ⟨hx2,hF⟩:=hF.cons;have hle:=la.mats;have hls:=la.matts r (by rw [hr];simp);refine rn ?_;refine j5 4 rfl ?_;refine rn ?_;refine z8 rfl (q7 rfl rfl (y4.fr3 (y4.of_acall (fs:= []) (cs:= [pZ bm,pZ by_]) (zy5 step ok IJ y hy 3 r.p hx _ bm by_ _ _ hI))) rfl ?_);rintro _ _ ⟨_,rfl,L,hI,rfl⟩;refine rn ?_;refine j5 4 rfl ?_;refine rn ?_;refine z8 rfl (q7 rfl rfl (y4.fr3 (y4.of_acall (fs:= []) (cs:= [pZ bm,pZ by_]) (zy5 step ok IJ y hy 2 r.o hx2 _ bm by_ _ _ hI))) rfl ?_);rintro _ _ ⟨_,rfl,L,hI,rfl⟩
  refine rn ?_;refine u4 (fun x:Nat×Option σ×List Res=>x.1≤r.ts.length∧IJ x.2.1 x.2.2∧Rem step ok x.2.1 (((r.ts.drop x.1).map fun t=>((0:Nat),t))++(((h.mats.drop (k+1)).flatMap yal)++h.wants.flatMap zur)) (goes step (some s0) (zcn h))) (fun x=>⟨[(167,iv x.1),(166,iv (r.ts.map zag).length),(12,.pp (zck r)),(143,iv k),(142,iv (h.mats.map zck).length),(1,pZ b1),(4,pZ bs),(5,.fn (.func 146) [] [pZ bs])],.box b1 168 [pZ bh]:: .box bh 28 (y8 h):: .box bs 216 [.fn (.func 145) [] [pZ bm,pZ by_]]:: .box bm 4 [bv (x.2.1).isSome]:: .box by_ 215 [y]::x.2.2,[]⟩) (fun x=>r.ts.length - x.1) (0,_,L) ⟨by omega,hI,hF⟩
   (w6 (.cons _ _ _ rfl (.cons _ _ _ rfl (.cons _ _ _ rfl (.cons _ _ _ rfl (.cons _ _ _ rfl (.cons _ _ _ rfl (.cons _ _ _ rfl (.cons _ _ _ rfl (.nil)))))))))) ?_
  rintro ⟨j,st,L⟩ ⟨hj,hI,hF⟩;simp only at hj hI hF;refine rn ?_;refine z7 rfl (fun hc168=>?_) (fun hc168=>?_)
  ·have j2:j < r.ts.length:=by simpa using hc168
   obtain ⟨t,ht⟩:∃t,t=r.ts[j]:=⟨_,rfl⟩;have hrowt:(r.ts.map zag)[j]? =some (zag t):=by rw [ht];simp [j2]
   have hdt:=A8 j2;rw [hdt,←ht] at hF;simp only [F6,G7] at hF;obtain ⟨hx,hF⟩:=hF.cons;refine rn ?_;refine j5 7 rfl ?_;refine rn ?_;refine z8 rfl (q7 rfl rfl (y4.fr3 (y4.of_acall (fs:= []) (cs:= [pZ bm,pZ by_]) (zy5 step ok IJ y hy 0 t hx _ bm by_ _ _ hI))) rfl ?_);rintro _ _ ⟨_,rfl,L,hI,rfl⟩;refine rn ?_;exact ⟨(j+1,_,L),⟨by omega,hI,hF⟩,(w6 (.cons _ _ _ rfl (.cons _ _ _ rfl (.cons _ _ _ rfl (.cons _ _ _ rfl (.cons _ _ _ rfl (.cons _ _ _ rfl (.cons _ _ _ rfl (.cons _ _ _ rfl (.nil)))))))))),by simp only;omega⟩
  obtain rfl:j=r.ts.length:=by
   have:r.ts.length≤j:=by simpa using hc168
   omega
  rw [E5,I1,E7] at hF;refine rn ?_;exact ⟨(k+1,_,L),⟨by omega,hI,hF⟩,(w6 (.cons _ _ _ rfl (.cons _ _ _ rfl (.cons _ _ _ rfl (.cons _ _ _ rfl (.cons _ _ _ rfl (.nil))))))),by simp only;omega⟩
 obtain rfl:k=h.mats.length:=by
  have:h.mats.length≤k:=by simpa using hc144
  omega
 rw [E5,N7,E7] at hF
 refine rn ?_;refine u4 (fun x:Nat×Option σ×List Res=>x.1≤h.wants.length∧IJ x.2.1 x.2.2∧Rem step ok x.2.1 (((h.wants.drop x.1).flatMap zur)++ []) (goes step (some s0) (zcn h))) (fun x=>⟨[(185,iv x.1),(184,iv (h.wants.map zar).length),(1,pZ b1),(4,pZ bs),(5,.fn (.func 146) [] [pZ bs])],.box b1 168 [pZ bh]:: .box bh 28 (y8 h):: .box bs 216 [.fn (.func 145) [] [pZ bm,pZ by_]]:: .box bm 4 [bv (x.2.1).isSome]:: .box by_ 215 [y]::x.2.2,[]⟩) (fun x=>h.wants.length - x.1) (0,st,L) ⟨by omega,hI,by rw [F8];exact hF⟩
  (w6 (.cons _ _ _ rfl (.cons _ _ _ rfl (.cons _ _ _ rfl (.cons _ _ _ rfl (.cons _ _ _ rfl (.nil))))))) ?_
 rintro ⟨k,st,L⟩ ⟨hk,hI,hF⟩;simp only at hk hI hF;refine rn ?_;refine z7 rfl (fun hc186=>?_) (fun hc186=>?_)
 ·have k2:k < h.wants.length:=by simpa using hc186
  obtain ⟨r,hr⟩:∃r,r=h.wants[k]:=⟨_,rfl⟩;have hrowr:(h.wants.map zar)[k]? =some (zar r):=by rw [hr];simp [k2]
  have hdr:=A8 k2;rw [hdr,←hr] at hF;simp only [I6,zur,G7,E0,E7] at hF;obtain ⟨hx,hF⟩:=hF.cons;have hle:=la.wants;refine rn ?_;refine j5 8 rfl ?_;refine rn ?_;refine z8 rfl (q7 rfl rfl (y4.fr3 (y4.of_acall (fs:= []) (cs:= [pZ bm,pZ by_]) (zy5 step ok IJ y hy 1 r.s hx _ bm by_ _ _ hI))) rfl ?_);rintro _ _ ⟨_,rfl,L,hI,rfl⟩;refine rn ?_;exact ⟨(k+1,_,L),⟨by omega,hI,hF⟩,(w6 (.cons _ _ _ rfl (.cons _ _ _ rfl (.cons _ _ _ rfl (.cons _ _ _ rfl (.cons _ _ _ rfl (.nil))))))),by simp only;omega⟩
 obtain rfl:k=h.wants.length:=by
  have:h.wants.length≤k:=by simpa using hc186
  omega
 rw [E5,N7,E7] at hF;refine rn ?_;have hF':st=goes step (some s0) (zcn h):=hF.fin;exact zfi .nil (.trans (.perm ((pt2 _ _ _ _).trans (.cons _ ((pt2 _ _ _ _).trans (.cons _ (pt2 _ _ _ _))))) _) (.drop [_,_,_] _ _)) ⟨L,hF' ▸ hI,rfl⟩
theorem yqf (bh:Nat) (h:List Res):y9 Tryz.prog 104 [pZ bh] h (fun r h'=>∃b1,h'= .box b1 168 [pZ bh]::h∧r= .fn (.func 144) [] [pZ b1]):=by
 refine z6 Tryz.func104 rfl rfl rfl ?_;refine rn ?_;refine z8 rfl (w7 rfl rfl rfl fun b1=>?_);refine rn ?_;exact u6 rfl (.refl _ _) ⟨_,rfl,rfl⟩
def IJC (lp:LP) (q b2 b3:Nat):Option (List Int)→List Res→Prop
 |some m,L=>L=lp .ready none:: .defs q:: .box b3 148 ((m).map iv):: .box b2 32 [iv 0]:: [.glob 3 148 x3,.glob 5 276 x6,.glob 6 279 y7]∧m.length=4
 |none,L=>∃m:List Int,L=lp .done (some .ret):: .defs q:: .box b3 148 ((m).map iv):: .box b2 32 [iv 210]:: [.glob 3 148 x3,.glob 5 276 x6,.glob 6 279 y7]
theorem ytl (h:Hist) (la:Lim 4611686018427387904 h):y9 Tryz.prog 51 [.agg (y8 h)] [.glob 3 148 x3,.glob 5 276 x6,.glob 6 279 y7] (fun r h'=>h'= [.glob 3 148 x3,.glob 5 276 x6,.glob 6 279 y7]∧r=iv (zee h)):=by
 refine z6 Tryz.func51 rfl rfl rfl ?_;refine rn ?_;refine z8 rfl (w7 rfl rfl rfl fun b1=>?_);refine z8 rfl (y6 rfl fun b2=>?_);refine rn ?_;refine qv rfl rfl (y3 rfl rfl (y4.qt (y4.of_fun (yql h la)) ((pt2 _ _ _ _).trans (.cons _ ((pt2 _ _ _ _).trans (.cons _ (pt2 _ _ _ _))))))) ?_;refine rn ?_;refine z7 rfl (fun hc10=>?_) (fun hc10=>?_)
 ·have hs:zaa h=false:=zj2 hc10;refine rn ?_;exact zdn (.cons _ _ _ _ (.one _ _ _ _ _ _ _ rfl inferInstance inferInstance rfl) .nil) (.drop [_,_] _ _) ⟨rfl,A4 iv (yi8 hs).symm⟩
 have hs:zaa h=true:=zj3 hc10;refine rn ?_;refine z8 rfl (y6 rfl fun b3=>?_);refine rn ?_;refine z8 rfl (q7 rfl rfl (y4.of_fun (yqf b1 _)) rfl ?_);rintro _ _ ⟨b1',rfl,rfl⟩;refine rn ?_;refine zoi (fun pend h''=>(pend=none∧∃m:List Int,znf h=some m∧m.length=4∧h''= .box b1' 168 [pZ b1]:: .box b1 28 (y8 h):: .box b3 148 ((m).map iv):: .box b2 32 [iv 0]:: [.glob 3 148 x3,.glob 5 276 x6,.glob 6 279 y7])∨(pend=some .ret∧znf h=none∧∃m:List Int,h''= .box b1' 168 [pZ b1]:: .box b1 28 (y8 h):: .box b3 148 ((m).map iv):: .box b2 32 [iv 210]:: [.glob 3 148 x3,.glob 5 276 x6,.glob 6 279 y7])) rfl (fun fn l q lp hlp=>?_) (fun q h'' hK=>?_) (fun q h'' c hK=>?_)
 ·suffices hy:∀(s:List Int) (L:List Res) (sort:Nat) (n:Int) (cells:List AV),OkN h (sort,n)→IJC lp q b2 b3 (some s) L→y4 Tryz.prog (yv l) [iv sort,.pp (iv n::cells)] L (fun r h'=>r=bv (zah s (sort,n)).isSome∧IJC lp q b2 b3 (zah s (sort,n)) h') by
   refine y9.mono (y9.perm ((pt2 _ _ _ _).trans (.cons _ (pt4 _ _ _ _ _ _))) (yl3 zah (OkN h) (IJC lp q b2 b3) (yv l) rfl hy h la b1' b1 (zr9 hs) [0,0,0,0] _ ⟨rfl,rfl⟩)) ?_;rintro _ _ ⟨L',hI,rfl⟩;cases hm:goes zah (some [0,0,0,0]) (zcn h) with
   |some m=>
    rw [hm] at hI;obtain ⟨rfl,hl⟩:=hI;exact ⟨_,_,_,((pt2 _ _ _ _).trans (.cons _ (pt2 _ _ _ _))),by simp,.inl ⟨rfl,m,hm,hl,rfl⟩⟩
   |none=>
    rw [hm] at hI;obtain ⟨m,rfl⟩:=hI;exact ⟨_,_,_,((pt2 _ _ _ _).trans (.cons _ (pt2 _ _ _ _))),by simp,.inr ⟨rfl,hm,m,rfl⟩⟩
  rintro m _ sort n cells ⟨hs4,hn0,hn1⟩ ⟨rfl,hl⟩;simp only at hs4 hn0 hn1;have hnm:=la.nm sort;refine zyc hlp rfl rfl ?_;refine rn ?_;refine ⟨[(4,iv sort),(5,.pp (iv n::cells)),(3,pZ b3),(2,pZ b2)],(w6 (.cons _ _ _ rfl (.cons _ _ _ rfl (.cons _ _ _ rfl (.cons _ _ _ rfl (.nil)))))),?_⟩;refine rn ?_;refine j5 6 rfl ?_;refine dq rfl rfl qrA ?_;refine dq rfl rfl qrA ?_;refine dq rfl rfl qrA ?_;refine dq rfl rfl qrA ?_;refine dq rfl rfl (k9 rfl rfl hs4) ?_;refine dq rfl rfl (zab rfl (yv1 hl hs4)) ?_;refine rn ?_;refine z7 rfl (fun hc20=>?_) (fun hc20=>?_)
  ·refine rn ?_;have hst:zah m (sort,n)=none:=by rw [zah];exact A6 (by simpa using hc20)
   exact zpz (.refl _) (by rw [hst];exact ⟨rfl,_,rfl⟩)
  refine rn ?_;refine j5 9 rfl ?_;refine dq rfl rfl qrA ?_;refine dq rfl rfl qrA ?_;refine dq rfl rfl (k9 rfl rfl hs4) ?_;refine dq rfl rfl (zab rfl (yv1 hl hs4)) ?_;refine rn2 ?_;refine qq rfl rfl (k9 rfl rfl hs4) ?_;refine z8 rfl (za6 rfl rfl rfl rfl (by simp [hl];omega) ?_);refine rn ?_;have hst:zah m (sort,n)=some (m.set sort (max (m.getD sort 0) (n+1))):=by rw [zah];exact A0 (by simpa using hc20)
  exact zi6 (.refl _) (by rw [hst];exact ⟨rfl,by rw [←yxa hl hs4];rfl,by simpa using hl⟩)
 ·obtain ⟨_,m,hm,hl,rfl⟩|⟨hc,_⟩:=hK
  rotate_left
  ·cases hc
  refine rn ?_;refine qv rfl rfl (y3 rfl rfl (u0 (ycq _) (Sbs.refl _))) ?_
  refine rn ?_;refine u4 (fun k:Nat=>k≤4∧∀j,j < k→m.getD j 0=(nmK h j).length) (fun k=>⟨[(33,iv k),(32,.agg (zix h)),(3,pZ b3),(2,pZ b2)],.defs q:: .box b1' 168 [pZ b1]:: .box b1 28 (y8 h):: .box b3 148 ((m).map iv):: .box b2 32 [iv 0]:: [.glob 3 148 x3,.glob 5 276 x6,.glob 6 279 y7],[q]⟩) (fun k=>4 - k) 0 ⟨by omega,fun j hj=>absurd hj (H6 j)⟩
   (w6 (.cons _ _ _ rfl (.cons _ _ _ rfl (.cons _ _ _ rfl (.cons _ _ _ rfl (.nil)))))) ?_
  rintro k ⟨hk,hz⟩;refine rn ?_;refine z7 rfl (fun hc34=>?_) (fun hc34=>?_)
  ·have hk4:k < 4:=by simp at hc34;omega
   refine k7 ?_;refine j8 ?_;refine x7 ?_;refine k8 ?_;refine x7 (y5 ?_);refine q1 ?_;refine qq rfl rfl (zdw rfl rfl (by omega) (by have:=zp8 h hk4;simpa using this)) ?_;refine q1 ?_;refine q1 ?_;refine u1 (j8 ?_);refine x7 (y5 ?_);refine q1 ?_;refine qq rfl rfl (k9 rfl rfl hk4) ?_;refine qq rfl rfl (zab rfl (yv1 hl hk4)) ?_;refine rn ?_;refine z7 rfl (fun hc42=>?_) (fun hc42=>?_)
   ·refine rn ?_;exact zio (.refl _) (.cons _ _ _ _ (.one _ _ _ _ _ _ _ rfl inferInstance inferInstance rfl) .nil) (.drop [_,_,_,_] _ _) ⟨rfl,A4 iv (yi9 hm hk4 (by simpa using hc42)).symm⟩
   refine rn ?_;exact ⟨k+1,⟨by omega,fun j hj=>by
    by_cases hjk:j=k
    ·subst hjk;simpa using hc42
    exact hz j (by omega)⟩,(w6 (.cons _ _ _ rfl (.cons _ _ _ rfl (.cons _ _ _ rfl (.cons _ _ _ rfl (.nil)))))),by omega⟩
  have hk4:k=4:=by simp at hc34;omega
  subst hk4;refine rn ?_;exact zio (.refl _) (.cons _ _ _ _ (.one _ _ _ _ _ _ _ rfl inferInstance inferInstance rfl) .nil) (.drop [_,_,_,_] _ _) ⟨rfl,A4 iv (yja hs hm hl hz).symm⟩
 obtain ⟨hc,_⟩|⟨hc,hm,m,rfl⟩:=hK
 ·cases hc
 obtain rfl:c= .ret:=by simpa using hc
 refine rn ?_;exact zio (.refl _) (.cons _ _ _ _ (.one _ _ _ _ _ _ _ rfl inferInstance inferInstance rfl) .nil) (.drop [_,_,_,_] _ _) ⟨rfl,A4 iv (yad hm).symm⟩
attribute [local irreducible] zem jch zfo
def u3:List AV:= [.any,.fn (.func 245) [] [],.fn (.func 249) [] [],.fn (.func 250) [] [],.fn (.func 251) [] [],.fn (.func 252) [] [],.fn (.func 253) [] [],.fn (.func 254) [] [],.fn (.func 255) [] [],.fn (.func 256) [] [],.fn (.func 257) [] []]
def yut (k:Nat):AV:=u3.getD k .any
theorem ypd {k:Nat} (h2:k≤10):u3[k]? =some (yut k):=by
 have:k < u3.length:=by show k < 11;omega
 rw [yut,F7,B4 this];rfl
theorem yjj (h:Hist) (la:Lim 3000 h) (b:Nat) (G:List Res) {k:Nat} (h1:1≤k) (h2:k≤10):y4 Tryz.prog (yut k) [pZ b] (.box b 203 (zcf h)::G) (fun r h'=>h'=G∧r=zbo (zc1 h k)):=by
 match k,h1,h2 with
 |1,_,_=>exact y4.of_acall (fs:= []) (cs:= []) (yrf h la b G)
 |2,_,_=>exact y4.of_acall (fs:= []) (cs:= []) (yxi h la b G)
 |3,_,_=>exact y4.of_acall (fs:= []) (cs:= []) (yre h la b G)
 |4,_,_=>exact y4.of_acall (fs:= []) (cs:= []) (yg5 h la b G)
 |5,_,_=>exact y4.of_acall (fs:= []) (cs:= []) (yxe h la b G)
 |6,_,_=>exact y4.of_acall (fs:= []) (cs:= []) (yvc h la b G)
 |7,_,_=>exact y4.of_acall (fs:= []) (cs:= []) (yq8 h la b G)
 |8,_,_=>exact y4.of_acall (fs:= []) (cs:= []) (yg8 h la b G)
 |9,_,_=>exact y4.of_acall (fs:= []) (cs:= []) (yrb h la b G)
 |10,_,_=>exact y4.of_acall (fs:= []) (cs:= []) (yva h la b G)
 |k+11,_,h2=>omega
theorem ynf {o:Option Nat} {i:Int} {b:Bool} (h:zbo o= .tup [iv i,bv b]):i=yxk o∧b=o.isSome:=by
 cases o with
 |none=>simp only [zbo,AV.tup.injEq,P9,AV.v.injEq,Value.int.injEq,Value.bool.injEq,Z3,Z5] at h;exact ⟨h.1.symm,h.2.symm⟩
 |some n=>simp only [zbo,AV.tup.injEq,P9,AV.v.injEq,Value.int.injEq,Value.bool.injEq,Z3,Z5] at h;exact ⟨h.1.symm,h.2.symm⟩
theorem zqh {h:Hist} (hm:zfy h=true):Lim 3000 h:=by
 unfold zfy at hm;simp only [B5] at hm;exact zov hm.1
theorem yrd (h:Hist) (la:Lim 4611686018427387904 h):y9 Tryz.prog 91 [.agg (y8 h)] [.glob 3 148 x3,.glob 5 276 x6,.glob 6 279 y7,.glob 2 197 u3] (fun r h'=>h'= [.glob 3 148 x3,.glob 5 276 x6,.glob 6 279 y7,.glob 2 197 u3]∧r=zij h):=by
 refine z6 Tryz.func91 rfl rfl rfl ?_;refine rn ?_;refine z8 rfl (w7 rfl rfl rfl fun b1=>?_);refine z8 rfl (y6 rfl fun b2=>?_);refine rn ?_;refine qv rfl rfl (y3 rfl rfl (y4.qt (y4.of_fun (ytl h la)) ((pt2 _ _ _ _).trans (.cons _ ((pt2 _ _ _ _).trans (.cons _ (pt2 _ _ _ _))))))) ?_;refine rn ?_;refine z7 rfl (fun hc12=>?_) (fun hc12=>?_)
 ·have hm:¬zfy h=true:=by intro q;rw [zee,A6 q] at hc12;cases hc12
  have he:zee h=210:=by rw [zee,A0 hm]
  refine rn ?_;exact zdn (.cons _ _ _ _ (.agg _ _ _ _ _ _ _ rfl inferInstance inferInstance inferInstance rfl) (.cons _ _ _ _ (.tmp _ _ rfl) (.cons _ _ _ _ (.tmp _ _ rfl) .nil))) (.drop [_,_] _ _) ⟨rfl,by rw [zij,A0 hm,he];rfl⟩
 have hm:zfy h=true:=yen.1 (by simpa using hc12);have la3:=zqh hm;refine rn ?_;refine zdf (fun k:Nat=>(1≤k∧k≤11)∧za5 (zc1 h) rules10=za5 (zc1 h) (rules10.drop (k - 1))) (fun k=>⟨[(6,iv k),(1,pZ b1),(2,pZ b2)],(.box b2 152 [iv 0,iv 0]:: .box b1 28 (y8 h):: .glob 3 148 x3:: .glob 5 276 x6:: .glob 6 279 y7:: .glob 2 197 u3:: []),[]⟩) (fun k=>11 - k) 1 ⟨by omega,rfl⟩ es ?_;rintro k ⟨⟨k1,k3⟩,zk⟩;obtain ⟨pi,pb,hpv⟩:∃i b,zbo (zc1 h k)= .tup [iv i,bv b]:=zd7 _;obtain ⟨ei,eb⟩:=ynf hpv;refine rn ?_;refine z7 rfl (fun hc16=>?_) (fun hc16=>?_)
 ·have k2:k≤10:=by have:=oT hc16;omega
  refine k7 ?_;refine rn0 ?_;refine x7 ?_;refine k8 ?_;refine x7 ?_;refine zml 11 [5,6] [7,8,9,10] (fun he=>he=(.box b2 152 [iv 0,iv 0]:: .box b1 28 (y8 h):: .glob 3 148 x3:: .glob 5 276 x6:: .glob 6 279 y7:: .glob 2 197 u3:: [])∨∃b,he= .box b 203 (zcf h)::(.box b2 152 [iv 0,iv 0]:: .box b1 28 (y8 h):: .glob 3 148 x3:: .glob 5 276 x6:: .glob 6 279 y7:: .glob 2 197 u3:: [])) rfl rfl (.inl rfl) ?_;refine jq rfl (fun he hC=>by rcases hC with rfl|⟨b,rfl⟩ <;> exact qrA) ?_;refine jq rfl (fun he hC=>by rcases hC with rfl|⟨b,rfl⟩ <;> exact (by exact k9 rfl rfl (by show k < 11;omega))) ?_;refine jq rfl (fun he hC=>by rcases hC with rfl|⟨b,rfl⟩ <;> exact (by exact zab rfl (show u3[0+k * 1]? =some (yut k) by rw [H9,Nat.mul_one];exact ypd k2))) ?_;refine jq rfl (fun he hC=>by rcases hC with rfl|⟨b,rfl⟩ <;> exact qrA) ?_;refine jq rfl (fun he hC=>by rcases hC with rfl|⟨b,rfl⟩ <;> exact (by exact zal (out:=zcf h) rfl (by rfl))) ?_;refine je rfl ?_;refine je rfl ?_;refine je rfl ?_;refine je rfl ?_;refine je rfl ?_;refine je rfl ?_;refine yig ?_;refine jce rfl fun u=>?_;refine w7 rfl rfl rfl fun b5=>⟨_,_,rfl,.inr ⟨_,rfl⟩,?_⟩;refine jce rfl fun u=>?_;refine q7 rfl rfl (yjj h la3 b5 _ k1 k2) rfl ?_;rintro _ _ ⟨rfl,rfl⟩;rw [hpv];refine ⟨_,_,rfl,.inl rfl,?_⟩;refine jcn ?_;refine lq rfl rfl (by exact qrA) ?_;refine lq rfl rfl (by exact qrA) ?_;refine lq rfl rfl (by exact qrA) ?_;refine lq rfl rfl (by exact qrA) ?_;refine ln ?_;refine rn ?_;refine z7 rfl (fun hc29=>?_) (fun hc29=>?_)
  ·refine rn ?_;exact zdn (.cons _ _ _ _ (.agg _ _ _ _ _ _ _ rfl inferInstance inferInstance inferInstance rfl) (.cons _ _ _ _ (.tmp _ _ rfl) (.cons _ _ _ _ (.tmp _ _ rfl) .nil))) (.drop [_,_] _ _) ⟨rfl,by
    cases hp:zc1 h k with
    |none=>rw [hp] at eb;rw [eb] at hc29;cases hc29
    |some n=>rw [hp] at ei;subst ei;rw [zij,A6 hm,zlk,ztg k1 k2 zk hp];rfl⟩
  refine rn ?_;exact ⟨k+1,⟨by omega,zpa k1 k2 zk (by cases hp:zc1 h k with|none=>rfl|some n=>rw [hp] at eb;rw [eb] at hc29;cases hc29)⟩,eA,by omega⟩
 have k2:11≤k:=by have:=oF hc16;omega
 refine rn ?_;exact zdn (.cons _ _ _ _ (.agg _ _ _ _ _ _ _ rfl inferInstance inferInstance inferInstance rfl) (.cons _ _ _ _ (.tmp _ _ rfl) (.cons _ _ _ _ (.tmp _ _ rfl) .nil))) (.drop [_,_] _ _) ⟨rfl,by rw [zij,A6 hm,zlk,zpb k2 k3 zk];rfl⟩
theorem yq3 (h:Hist) (la:Lim 4611686018427387904 h):y9 Tryz.prog 45 [.agg (y8 h)] [.glob 3 148 x3,.glob 5 276 x6,.glob 6 279 y7,.glob 2 197 u3] (fun r h'=>h'= [.glob 3 148 x3,.glob 5 276 x6,.glob 6 279 y7,.glob 2 197 u3]∧r=bv (zb6 h)):=by
 refine z6 Tryz.func45 rfl rfl rfl ?_;refine rn ?_;refine z8 rfl (w7 rfl rfl rfl fun b1=>?_);refine q1 ?_;refine u1 (j8 ?_);refine x7 (y5 ?_);obtain ⟨fi,fj,fb,fe,hf,hfb⟩:=zth h;refine rn ?_;refine qv rfl rfl (y3 rfl rfl (y4.qt (y4.of_fun (yrd h la)) ((pt1 _ _ _).trans (.cons _ ((pt1 _ _ _).trans (.cons _ ((pt1 _ _ _).trans (.cons _ (pt1 _ _ _))))))))) ?_;rw [hf];refine rn ?_;refine z8 rfl (y6 rfl fun b3=>?_);refine rn ?_;refine x5 (fun hg2_2=>?_) (fun hg2_2=>?_)
 ·refine rn ?_;refine rq 2 ?_;exact ⟨rfl,A4 bv (by rw [hfb];simp_all)⟩
 refine rn ?_;refine rq 2 ?_;exact ⟨rfl,A4 bv (by rw [hfb];simp_all)⟩
theorem zqn (h:Hist) (la:Lim 4611686018427387904 h):y9 Tryz.prog 23 [.agg (y8 h)] [.glob 3 148 x3,.glob 5 276 x6,.glob 6 279 y7,.glob 2 197 u3] (fun r h'=>h'= [.glob 3 148 x3,.glob 5 276 x6,.glob 6 279 y7,.glob 2 197 u3]∧r=iv (v6 h)):=by
 refine z6 Tryz.func23 rfl rfl rfl ?_;refine rn ?_;refine z8 rfl (w7 rfl rfl rfl fun b1=>?_);refine rn ?_;refine qv rfl rfl (y3 rfl rfl (y4.qt (y4.of_fun (ytl h la)) ((pt1 _ _ _).trans (.cons _ ((pt1 _ _ _).trans (.cons _ (pt1 _ _ _))))))) ?_;refine rn ?_;refine z7 rfl (fun hc7=>?_) (fun hc7=>?_)
 ·have hm:¬zfy h=true:=by intro q;rw [zee,A6 q] at hc7;cases hc7
  have he:zee h=210:=by rw [zee,A0 hm]
  refine rn ?_;refine rq 1 ?_;exact ⟨rfl,by rw [v6,A0 hm,he];rfl⟩
 have hm:zfy h=true:=yen.1 (by simpa using hc7);refine rn ?_;refine qv rfl rfl (y3 rfl rfl (y4.qt (y4.of_fun (yq3 h la)) ((pt1 _ _ _).trans (.cons _ ((pt1 _ _ _).trans (.cons _ ((pt1 _ _ _).trans (.cons _ (pt1 _ _ _))))))))) ?_;refine rn ?_;refine z7 rfl (fun hc11=>?_) (fun hc11=>?_)
 ·refine rn ?_;refine rq 1 ?_;exact ⟨rfl,by rw [v6,A6 hm];simp_all;rfl⟩
 refine rn ?_;refine rq 1 ?_;exact ⟨rfl,by rw [v6,A6 hm];simp_all;rfl⟩
theorem zxy (h:Hist) (kd:Int) (W:List Res):y9 Tryz.prog 120 [.agg (y8 h),iv kd] W (fun r h'=>∃b1 b2,h'= .box b1 28 (y8 h):: .box b2 3 [iv kd]::W∧r= .fn (.func 158) [] [pZ b1,pZ b2]):=by
 refine z6 Tryz.func120 rfl rfl rfl ?_;refine rn ?_;refine z8 rfl (w7 rfl rfl rfl fun b2=>?_);refine z8 rfl (w7 rfl rfl rfl fun b3=>?_);refine rn ?_;exact u6 rfl (.perm (pt1 _ _ _) _) ⟨_,_,rfl,rfl⟩
theorem zs4 {σ:Type} (h:Hist) (la:h.evs.length≤1000000) (kd:Int) (y:AV) (b1 b2:Nat) (p q:Nat→σ→Prop) (I F:Nat→σ→List Res) (x0:σ) (hp0:p 0 x0) (hy:∀k x,(hk:k < h.evs.length)→p k x→(h.evs[k].kind==kd)=true→y4 Tryz.prog y [iv k,.agg (evR h.evs[k])] (.box b1 28 (y8 h):: .box b2 3 [iv kd]::I k x) (fun r h'=>∃x',(r=bv true∧p (k+1) x'∧h'= .box b1 28 (y8 h):: .box b2 3 [iv kd]::I (k+1) x')∨(r=bv false∧q k x'∧h'= .box b1 28 (y8 h):: .box b2 3 [iv kd]::F k x'))) (hs:∀k x,(hk:k < h.evs.length)→p k x→(h.evs[k].kind==kd)=false→∃x',p (k+1) x'∧I (k+1) x'=I k x):y9 Tryz.prog 158 [y,pZ b1,pZ b2] (.box b1 28 (y8 h):: .box b2 3 [iv kd]::I 0 x0) (fun r h'=>(∃x,p h.evs.length x∧h'=I h.evs.length x)∨∃k x,q k x∧h'=F k x):=by
 refine z6 Tryz.func158 rfl rfl rfl ?_;refine rn ?_;refine zb5 h.evs.length p (fun k x=>⟨[(9,iv k),(0,y),(2,pZ b2),(7,zll h.evs),(8,iv (h.evs.map evR).length)],.box b1 28 (y8 h):: .box b2 3 [iv kd]::I k x,[]⟩) x0 hp0 es ?_;intro k x lk zk;refine rn ?_;refine z7 rfl (fun hc10=>?_) (fun hc10=>?_)
 ·have hk:=zaw hc10;have rk:=zam (f:=evR) hk;refine rn ?_;refine z8 rfl (y6 rfl fun b5=>?_);refine rn ?_;refine x5 (fun hg3_4=>?_) (fun hg3_4=>?_)
  ·refine q1 ?_;refine q1 ?_;refine q1 ?_;refine z8 rfl (q7 rfl rfl (y4.fr1 (hy k x hk zk (by simpa using hg3_4))) rfl ?_);rintro _ _ ⟨_,rfl,x',⟨rfl,hp,rfl⟩|⟨rfl,hq,rfl⟩⟩
   ·refine rn ?_;refine z7 rfl (fun hc24=>?_) (fun hc24=>?_)
    ·first|cases hc24|exact absurd hc24 (by decide)|(exfalso;simp_all;done)
    refine rn ?_;exact ⟨hk,x',hp,eA⟩
   refine rn ?_;refine z7 rfl (fun hc24=>?_) (fun hc24=>?_)
   ·refine rn ?_;exact zdn .nil (.drop [_,_,_] _ _) (.inr ⟨k,x',hq,rfl⟩)
   first|cases hc24|exact absurd hc24 (by decide)|(exfalso;simp_all;done)
  refine rn ?_;refine zfd rfl ?_;refine rn ?_;obtain ⟨x',hp,e⟩:=hs k x hk zk (by simpa using hg3_4);exact ⟨hk,x',hp,by rw [e];exact eA⟩
 have qk:=zaz hc10 lk;subst qk;refine rn ?_;exact zfi .nil (.drop [_,_] _ _) (.inl ⟨x,zk,rfl⟩)
def zrt {α:Type} (kd:Int) (x:Nat→Ev→α) (p:Nat→Ev→Bool) (k:Nat) (e:Ev):Option α:=if (e.kind==kd && p k e)=true then some (x k e) else none
theorem ys3 {α:Type} {kd:Int} {x:Nat→Ev→α} {p:Nat→Ev→Bool} {k:Nat} {e:Ev} (h:(e.kind==kd)=false):zrt kd x p k e=none:=by rw [zrt,h];simp
theorem ys2 {α:Type} {kd:Int} {x:Nat→Ev→α} {p:Nat→Ev→Bool} {k:Nat} {e:Ev} (h:p k e=false):zrt kd x p k e=none:=by rw [zrt,h];simp
theorem ys1 {α:Type} {kd:Int} {x:Nat→Ev→α} {p:Nat→Ev→Bool} {k:Nat} {e:Ev} (h1:(e.kind==kd)=true) (h:p k e=true):zrt kd x p k e=some (x k e):=by rw [zrt,h1,h];simp
theorem ykn {α:Type} {f:Nat→Ev→Option α} {l:List Ev} {k:Nat} (h:k < l.length) (hf:f k l[k]=none):zmg f l (k+1)=zmg f l k:=by rw [ydt h,hf];simp
theorem ys0 {α:Type} {f:Nat→Ev→Option α} {l:List Ev} {k:Nat} {a:α} (h:k < l.length) (hf:f k l[k]=some a):zmg f l (k+1)=zmg f l k++ [a]:=by rw [ydt h,hf];rfl
theorem ykf (h:Hist) (la:h.evs.length≤1000000) (kd:Int) (fv:AV) (hone:fv.cellsOf=some [fv]) (W:List Res) (x:Nat→Ev→Int) (p:Nat→Ev→Bool) (hp:∀k,(hk:k < h.evs.length)→(h.evs[k].kind==kd)=true→y4 Tryz.prog fv [iv k,.agg (evR h.evs[k])] W (fun r h'=>h'=W∧r= .tup [iv (x k h.evs[k]),bv (p k h.evs[k])])):y9 Tryz.prog 73 [.agg (y8 h),iv kd,fv] W (fun r h'=>∃s:SV,h'= .row s.v 1 3 ((zmg (zrt kd x p) h.evs h.evs.length).map zag)::W∧r= .v s.v):=by
 refine z6 Tryz.func73 rfl rfl rfl ?_;refine rn ?_;refine z8 rfl (w7 rfl rfl rfl fun b3=>?_);refine z8 rfl (w7 rfl hone rfl fun b5=>?_);refine rn ?_;refine z8 rfl (y6 rfl fun b7=>?_);refine rn ?_;refine z8 rfl (q7 rfl rfl (y4.of_fun (zxy h kd _)) rfl ?_);rintro _ _ ⟨b1,b2,rfl,rfl⟩;refine rn ?_;refine zgv (s':=⟨[(14,.fn (.func 158) [] [pZ b1,pZ b2]),(5,pZ b5),(7,pZ b7)],.box b1 28 (y8 h):: .box b2 3 [iv kd]:: .box b7 54 [.v (⟨none,0,0⟩:SV).v]:: .row (⟨none,0,0⟩:SV).v 1 3 ((zmg (zrt kd x p) h.evs 0).map zag):: .box b5 129 [fv]:: .box b3 28 (y8 h)::W,[]⟩) (w8 (w8 (zaf 1 3) (zau ((pt1 _ _ _).trans (.cons _ ((pt1 _ _ _).trans (.cons _ (pt1 _ _ _))))))) es) ?_;refine zoi (fun pend h''=>pend=none∧∃s:SV,h''= .box b7 54 [.v s.v]:: .row s.v 1 3 ((zmg (zrt kd x p) h.evs h.evs.length).map zag):: .box b5 129 [fv]:: .box b3 28 (y8 h)::W) rfl (fun fn l q lp hlp=>?_) (fun q h'' hK=>?_) (fun q h'' c hK=>?_)
 ·suffices hy:∀k (s:SV),(hk:k < h.evs.length)→True→(h.evs[k].kind==kd)=true→y4 Tryz.prog (yv l) [iv k,.agg (evR h.evs[k])] (.box b1 28 (y8 h):: .box b2 3 [iv kd]::lp .ready none:: .defs q:: .box b7 54 [.v s.v]:: .row s.v 1 3 ((zmg (zrt kd x p) h.evs k).map zag):: .box b5 129 [fv]:: .box b3 28 (y8 h)::W) (fun r h'=>∃s':SV,(r=bv true∧True∧h'= .box b1 28 (y8 h):: .box b2 3 [iv kd]::lp .ready none:: .defs q:: .box b7 54 [.v s'.v]:: .row s'.v 1 3 ((zmg (zrt kd x p) h.evs (k+1)).map zag):: .box b5 129 [fv]:: .box b3 28 (y8 h)::W)∨(r=bv false∧False∧h'= .box b1 28 (y8 h):: .box b2 3 [iv kd]:: [])) by
   refine y9.mono (y9.perm ((pt2 _ _ _ _).trans (.cons _ (pt2 _ _ _ _))) (zs4 h la kd (yv l) b1 b2 (fun _ _=>True) (fun _ _=>False) (fun k (s:SV)=>lp .ready none:: .defs q:: .box b7 54 [.v s.v]:: .row s.v 1 3 ((zmg (zrt kd x p) h.evs k).map zag):: .box b5 129 [fv]:: .box b3 28 (y8 h)::W) (fun _ _=> []) ⟨none,0,0⟩ trivial hy (fun k s hk _ hn=>⟨s,trivial,by rw [ykn hk (ys3 hn)]⟩))) ?_;rintro _ _ (⟨s,_,rfl⟩|⟨_,_,hF,_⟩)
   ·exact ⟨none,.ready,_,.refl _,by simp,rfl,s,rfl⟩
   exact hF.elim
  intro k s hk _ hkd;refine y4.perm (pt2 _ _ _ _) (y4.ventE ?_);refine zez hlp rfl rfl ?_;refine rn ?_;refine z8 rfl (y6 rfl fun b9=>?_);refine rn ?_;refine ⟨[(8,iv k),(9,pZ b9),(5,pZ b5),(7,pZ b7)],.box b9 66 (evR h.evs[k]):: .box b1 28 (y8 h):: .box b2 3 [iv kd]:: .defs q:: .box b7 54 [.v s.v]:: .row s.v 1 3 ((zmg (zrt kd x p) h.evs k).map zag):: .box b5 129 [fv]:: .box b3 28 (y8 h)::W,w8 (zau (pt1 _ _ _)) es,?_⟩;refine rn ?_;refine qv rfl rfl (y3 rfl rfl (y4.qt (h2:= [_,_,_,_,_,_,_,_,_]) (hp k hk hkd) (zd8 [_,_,_,_,_,_,_,_,_] _))) ?_;refine rn ?_;refine z7 rfl (fun hc24=>?_) (fun hc24=>?_)
  ·refine y5 ?_;refine q1 ?_;refine q1 ?_;refine q1 ?_;refine q1 ?_;refine q1 ?_;refine qq rfl rfl (zzt rfl (by rfl) (by rfl)) ?_;refine rn ?_;refine qv rfl rfl (q8 rfl rfl) ?_;refine yjn s.v ?_;refine z8 rfl (j3 rfl rfl (by simp only [oM,E6,F3];have:=zqw (zrt kd x p) h.evs k;omega) rfl (fun s33=>?_) (zja [x k h.evs[k]]));refine zac s33 fun sv hsv=>?_;subst hsv;refine rn ?_;exact zi6 (.refl _) ⟨_,_,.trans (.perm ((pt1 _ _ _).trans (.cons _ ((pt1 _ _ _).trans (.cons _ (pt1 _ _ _))))) _) (.drop [_] _ _),sv,.inl ⟨rfl,trivial,by rw [ys0 hk (ys1 hkd hc24),D9];rfl⟩⟩
  refine rn ?_;exact zi6 (.refl _) ⟨_,_,.trans (.perm ((pt1 _ _ _).trans (.cons _ ((pt1 _ _ _).trans (.cons _ (pt1 _ _ _))))) _) (.drop [_] _ _),s,.inl ⟨rfl,trivial,by rw [ykn hk (ys2 hc24)]⟩⟩
 ·obtain ⟨_,s,rfl⟩:=hK;refine rn ?_;exact zio (.refl _) (.cons _ _ _ _ (.tmp _ _ rfl) .nil) (.trans (.drop1 _ _ _) (.trans (.perm (pt1 _ _ _) _) (.trans (.drop [_] _ _) (.trans (.perm (pt1 _ _ _) _) (.drop [_] _ _))))) ⟨s,rfl,rfl⟩
 obtain ⟨hc,_⟩:=hK;exact absurd hc (by simp)
theorem ynx (k s:Int) (e:Ev) (b2 b3 rm:Nat) (M:List (Int×Bool)):y9 Tryz.prog 74 [iv k,.agg (evR e),pZ b2,pZ b3] [.box b2 3 [iv s],.box b3 126 [mpv rm],.map rm (zan zcm (zce bv M))] (fun r h'=>h'= [.box b2 3 [iv s],.box b3 126 [mpv rm],.map rm (zan zcm (zce bv M))]∧r= .tup [iv e.t,bv (e.s==s && (zch e.t M).getD false)]):=by
 refine z6 Tryz.func74 rfl rfl rfl ?_;refine rn ?_;refine z8 rfl (w7 rfl rfl rfl fun b5=>?_);refine rn ?_;refine j5 13 rfl ?_;refine rn ?_;refine ze6 (fun hg1_6=>?_) (fun hg1_6=>?_)
 ·refine dq rfl rfl qrA ?_;refine dq rfl rfl qrA ?_;refine dq rfl rfl qrA ?_;refine dq rfl rfl (zc0 (enc:=zcm) (k:=e.t) false rfl rfl) ?_;refine rn ?_;refine rq 1 ?_;exact ⟨rfl,by rw [hg1_6];rfl⟩
 refine rn ?_;refine rq 1 ?_;exact ⟨rfl,by rw [hg1_6];rfl⟩
theorem yny (k s:Int) (e:Ev) (b2 b3 rm:Nat) (M:List (Int×Bool)):y9 Tryz.prog 161 [iv k,.agg (evR e),pZ b2,pZ b3] [.box b2 3 [iv s],.box b3 126 [mpv rm],.map rm (zan zcm (zce bv M))] (fun r h'=>h'= [.box b2 3 [iv s],.box b3 126 [mpv rm],.map rm (zan zcm (zce bv M))]∧r= .tup [iv e.t,bv (e.o==s && (zch e.t M).getD false)]):=by
 refine z6 Tryz.func161 rfl rfl rfl ?_;refine rn ?_;refine z8 rfl (w7 rfl rfl rfl fun b5=>?_);refine rn ?_;refine j5 13 rfl ?_;refine rn ?_;refine ze6 (fun hg1_6=>?_) (fun hg1_6=>?_)
 ·refine dq rfl rfl qrA ?_;refine dq rfl rfl qrA ?_;refine dq rfl rfl qrA ?_;refine dq rfl rfl (zc0 (enc:=zcm) (k:=e.t) false rfl rfl) ?_;refine rn ?_;refine rq 1 ?_;exact ⟨rfl,by rw [hg1_6];rfl⟩
 refine rn ?_;refine rq 1 ?_;exact ⟨rfl,by rw [hg1_6];rfl⟩
theorem yvu (x:Int) (s:Ord) (b1:Nat):y9 Tryz.prog 160 [.agg (zb7 s),pZ b1] [.box b1 3 [iv x]] (fun r h'=>h'= [.box b1 3 [iv x]]∧r=bv (s.o==x)):=by
 refine z6 Tryz.func160 rfl rfl rfl ?_;refine rn ?_;refine z8 rfl (w7 rfl rfl rfl fun b2=>?_);refine rn ?_;refine rq 1 ?_;exact ⟨rfl,rfl⟩
theorem ydf (h:Hist) (la:h.evs.length≤1000000) (W:List Res):y9 Tryz.prog 72 [.agg (y8 h)] W (fun r h'=>∃rm,h'= .map rm (zan zcm (zce bv (zmh h.evs)))::W∧r=mpv rm):=by
 refine z6 Tryz.func72 rfl rfl rfl ?_;refine rn ?_;refine z8 rfl (w7 rfl rfl rfl fun b1=>?_);refine rn ?_;refine z8 rfl (zbm (enc:=zcm) rfl fun b6=>?_);refine z8 rfl (y6 rfl fun b3=>?_);refine rn ?_;refine z8 rfl (q7 rfl rfl (y4.of_fun (zxy h 5 _)) rfl ?_);rintro _ _ ⟨e1,e2,rfl,rfl⟩;refine rn ?_;refine zgv (s':=⟨[(8,.fn (.func 158) [] [pZ e1,pZ e2]),(3,pZ b3)],.box e1 28 (y8 h):: .box e2 3 [iv 5]:: .box b3 126 [mpv b6]:: .map b6 (zan zcm (zce bv (zmh (h.evs.take 0)))):: .box b1 28 (y8 h)::W,[]⟩) es ?_;refine zoi (fun pend h''=>pend=none∧h''= .box b3 126 [mpv b6]:: .map b6 (zan zcm (zce bv (zmh (h.evs.take h.evs.length)))):: .box b1 28 (y8 h)::W) rfl (fun fn l q lp hlp=>?_) (fun q h'' hK=>?_) (fun q h'' c hK=>?_)
 ·suffices hy:∀k (x:Unit),(hk:k < h.evs.length)→True→(h.evs[k].kind==5)=true→y4 Tryz.prog (yv l) [iv k,.agg (evR h.evs[k])] (.box e1 28 (y8 h):: .box e2 3 [iv 5]::lp .ready none:: .defs q:: .box b3 126 [mpv b6]:: .map b6 (zan zcm (zce bv (zmh (h.evs.take k)))):: .box b1 28 (y8 h)::W) (fun r h'=>∃x':Unit,(r=bv true∧True∧h'= .box e1 28 (y8 h):: .box e2 3 [iv 5]::lp .ready none:: .defs q:: .box b3 126 [mpv b6]:: .map b6 (zan zcm (zce bv (zmh (h.evs.take (k+1))))):: .box b1 28 (y8 h)::W)∨(r=bv false∧False∧h'= .box e1 28 (y8 h):: .box e2 3 [iv 5]:: [])) by
   refine y9.mono (y9.perm ((pt2 _ _ _ _).trans (.cons _ (pt2 _ _ _ _))) (zs4 h la 5 (yv l) e1 e2 (fun _ _=>True) (fun _ _=>False) (fun k (_:Unit)=>lp .ready none:: .defs q:: .box b3 126 [mpv b6]:: .map b6 (zan zcm (zce bv (zmh (h.evs.take k)))):: .box b1 28 (y8 h)::W) (fun _ _=> []) () trivial hy (fun k s hk _ hn=>⟨s,trivial,by rw [ytg hk hn]⟩))) ?_;rintro _ _ (⟨s,_,rfl⟩|⟨_,_,hF,_⟩)
   ·exact ⟨none,.ready,_,.refl _,by simp,rfl,rfl⟩
   exact hF.elim
  intro k s hk _ hkd;refine y4.perm (pt2 _ _ _ _) (y4.ventE ?_);refine zez hlp rfl rfl ?_;refine rn ?_;refine z8 rfl (y6 rfl fun b5=>?_);refine rn ?_;refine ⟨[(5,pZ b5),(3,pZ b3)],.box b5 66 (evR h.evs[k]):: .box e1 28 (y8 h):: .box e2 3 [iv 5]:: .defs q:: .box b3 126 [mpv b6]:: .map b6 (zan zcm (zce bv (zmh (h.evs.take k)))):: .box b1 28 (y8 h)::W,w8 (zau (pt1 _ _ _)) es,?_⟩;refine rn ?_;refine z8 rfl (zby (g:=bv) (enc:=zcm) (k:=h.evs[k].t) (v:=true) rfl rfl rfl ?_);refine rn ?_;exact zi6 (.refl _) ⟨_,_,.trans (.perm ((pt1 _ _ _).trans (.cons _ ((pt1 _ _ _).trans (.cons _ (pt1 _ _ _))))) _) (.drop [_] _ _),(),.inl ⟨rfl,trivial,by rw [ytf hk hkd]⟩⟩
 ·obtain ⟨_,rfl⟩:=hK;refine rn ?_;exact zio (.refl _) (.cons _ _ _ _ (.tmp _ _ rfl) .nil) (.trans (.drop1 _ _ _) (.trans (.perm (pt1 _ _ _) _) (.drop [_] _ _))) ⟨b6,by rw [C7],rfl⟩
 obtain ⟨hc,_⟩:=hK;exact absurd hc (by simp)
theorem ye5 {h:Hist} {n many:Int} (he:zk6 h n many≠0) (X:List Int):(onE (zk6 h n many) X).map zag= []:=by rw [onE,A0 he];rfl
theorem yds {α:Type} (kd:Int) (g:Ev→α) (q:Ev→Bool) (l:List Ev):zmg (zrt kd (fun _ e=>g e) (fun _ e=>q e)) l l.length=(l.filter fun e=>e.kind==kd && q e).map g:=yip (fun _ _=>rfl) l
theorem ykg (h:Hist) (la:Lim 4611686018427387904 h) (n many:Int) (fv:AV) (hone:fv.cellsOf=some [fv]) (X:List Int) (W:List Res) (hp:zk6 h n many=0→y4 Tryz.prog fv [] (.glob 3 148 x3:: .glob 5 276 x6:: .glob 6 279 y7:: .glob 2 197 u3::W) (fun r h'=>∃s:SV,h'= .row s.v 1 3 (X.map zag):: .glob 3 148 x3:: .glob 5 276 x6:: .glob 6 279 y7:: .glob 2 197 u3::W∧r= .v s.v)):y9 Tryz.prog 70 [.agg (y8 h),iv n,iv many,fv] (.glob 3 148 x3:: .glob 5 276 x6:: .glob 6 279 y7:: .glob 2 197 u3::W) (fun r h'=>∃s:SV,h'= .row s.v 1 3 ((onE (zk6 h n many) X).map zag):: .glob 3 148 x3:: .glob 5 276 x6:: .glob 6 279 y7:: .glob 2 197 u3::W∧r= .tup [.v s.v,iv (zk6 h n many)]):=by
 refine z6 Tryz.func70 rfl rfl rfl ?_;refine rn ?_;refine z8 rfl (w7 rfl rfl rfl fun b4=>?_);refine rn ?_;refine qv rfl rfl (y3 rfl rfl (y4.qt (y4.of_fun (zqn h la)) ((pt1 _ _ _).trans (.cons _ ((pt1 _ _ _).trans (.cons _ ((pt1 _ _ _).trans (.cons _ (pt1 _ _ _))))))))) ?_;refine rn ?_;refine z7 rfl (fun hc15=>?_) (fun hc15=>?_)
 ·have hc:v6 h≠0:=by simpa using hc15
  refine rn ?_;exact zb9 rfl rfl (.trans (.drop [_] _ _) (j7 1 3 _)) ⟨⟨none,0,0⟩,by rw [ye5 (by rw [yt0 hc];exact hc)];rfl,by rw [yt0 hc];rfl⟩
 have hc:v6 h=0:=by simpa using hc15
 refine rn ?_;refine x5 (fun hg5_2=>?_) (fun hg5_2=>?_)
 ·refine rn ?_;refine zdk rfl ?_;have hn:¬(0≤n∧n < many):=by first|(have q:=oT hg5_2;omega)|(have q:=oT hc24;omega)
  refine rn ?_;exact zb9 rfl rfl (.trans (.drop [_] _ _) (j7 1 3 _)) ⟨⟨none,0,0⟩,by rw [ye5 (by rw [yjk hc hn];decide)];rfl,by rw [yjk hc hn];rfl⟩
 refine rn ?_;refine z7 rfl (fun hc24=>?_) (fun hc24=>?_)
 ·have hn:¬(0≤n∧n < many):=by first|(have q:=oT hg5_2;omega)|(have q:=oT hc24;omega)
  refine rn ?_;exact zb9 rfl rfl (.trans (.drop [_] _ _) (j7 1 3 _)) ⟨⟨none,0,0⟩,by rw [ye5 (by rw [yjk hc hn];decide)];rfl,by rw [yjk hc hn];rfl⟩
 have hn:0≤n∧n < many:=by have q:=oF hg5_2;have q':=oF hc24;omega
 refine rn ?_;refine z8 rfl (q7 rfl rfl (y4.fr1 (hp (ye4 hc hn))) rfl ?_);rintro _ _ ⟨_,rfl,s,rfl,rfl⟩;refine rn ?_;exact zb9 rfl rfl (.drop [_] _ _) ⟨s,by rw [ye4 hc hn];rfl,by rw [ye4 hc hn];rfl⟩
theorem ye6 {h:Hist} {n many:Int} (he:zk6 h n many=0):Lim 3000 h:=zqh (zgi (yjl he).1).1
theorem ype {h:Hist} {n many:Int} (he:zk6 h n many=0):h.evs.length≤1000000:=B8 (ye6 he).evs (by decide)
theorem zeq {h:Hist} (he:v6 h=0):Lim 3000 h:=zqh (zgi (zcb.1 he)).1
theorem yh7 (l:List Ev) (s:Int):zmg (zrt 1 (fun _ e=>e.t) (fun _ e=>e.s==s && (zch e.t (zmh l)).getD false)) l l.length=zbn l s:=by
 rw [yds 1 Ev.t (fun e=>e.s==s && (zch e.t (zmh l)).getD false),zbn];simp only [zyd]
theorem yn5 (l:List Ev) (x:Int):zmg (zrt 2 (fun _ e=>e.t) (fun _ e=>e.o==x && (zch e.t (zmh l)).getD false)) l l.length=ypx l x:=by
 rw [yds 2 Ev.t (fun e=>e.o==x && (zch e.t (zmh l)).getD false),ypx];simp only [zyd]
theorem yrj {h:Hist} {x:Int} (hc:decide (zbe (fun o:Ord=>o.o==x) 0 h.ords ≥ 0)=true):∃k,∃hk:k < h.ords.length,zbe (fun o:Ord=>o.o==x) 0 h.ords=(k:Int)∧zgg h x=h.ords[k].ts:=by
 have:=zj9 (fun o:Ord=>o.o==x) h.ords 0;cases hf:h.ords.find? (fun o=>o.o==x) with
 |none=>rw [hf] at this;simp only at this;rw [this] at hc;exact absurd hc (by decide)
 |some o=>
  rw [hf] at this;obtain ⟨k,hk,e,eo,_⟩:=this;exact ⟨k,hk,by rw [e,H9],by rw [zgg,hf,eo]⟩
theorem yri {h:Hist} {x:Int} (hc:decide (zbe (fun o:Ord=>o.o==x) 0 h.ords ≥ 0)=false):zgg h x=zb4 (ypx h.evs x):=by
 have:=zj9 (fun o:Ord=>o.o==x) h.ords 0;cases hf:h.ords.find? (fun o=>o.o==x) with
 |none=>rw [zgg,hf]
 |some o=>
  rw [hf] at this;obtain ⟨k,hk,e,eo,_⟩:=this;rw [e] at hc;have:=oF hc;omega
theorem ynz (h:Hist) (la:h.evs.length≤1000000) (s:Int) (b2 b4:Nat):y9 Tryz.prog 71 [pZ b2,pZ b4] (.glob 3 148 x3:: .glob 5 276 x6:: .glob 6 279 y7:: .glob 2 197 u3:: .box b2 28 (y8 h):: .box b4 3 [iv s]:: []) (fun r h'=>∃s':SV,h'= .row s'.v 1 3 ((zbn h.evs s).map zag):: .glob 3 148 x3:: .glob 5 276 x6:: .glob 6 279 y7:: .glob 2 197 u3:: .box b2 28 (y8 h):: .box b4 3 [iv s]:: []∧r= .v s'.v):=by
 refine z6 Tryz.func71 rfl rfl rfl ?_;refine rn ?_;refine z8 rfl (q7 rfl rfl (y4.of_fun (ydf h la _)) rfl ?_);rintro _ _ ⟨rm,rfl,rfl⟩;refine z8 rfl (y6 rfl fun b3=>?_);refine rn ?_;refine z8 rfl (q7 rfl rfl (y4.of_fun (ykf h la 1 _ rfl _ (fun _ e=>e.t) (fun _ e=>e.s==s && (zch e.t (zmh h.evs)).getD false) (fun k hk _=>y4.qt (y4.of_acall (fs:= []) (cs:= [pZ b4,pZ b3]) (ynx k s h.evs[k] b4 b3 rm (zmh h.evs))) (pt7 _ _ _ _ _ _ _ _ _)))) rfl ?_);rintro _ _ ⟨s',rfl,rfl⟩;refine rn ?_;exact u6 rfl (.trans (.perm ((pt1 _ _ _).trans (.cons _ (pt1 _ _ _))) _) (.drop [_,_] _ _)) ⟨s',by rw [yh7],rfl⟩
theorem yn0 (h:Hist) (la:Lim 4611686018427387904 h) (n:Int):y9 Tryz.prog 28 [.agg (y8 h),iv n] (.glob 3 148 x3:: .glob 5 276 x6:: .glob 6 279 y7:: .glob 2 197 u3:: []) (fun r h'=>∃s:SV,h'= .row s.v 1 3 ((onE (zk6 h n h.ss.length) (zbn h.evs n)).map zag):: .glob 3 148 x3:: .glob 5 276 x6:: .glob 6 279 y7:: .glob 2 197 u3:: []∧r= .tup [.v s.v,iv (zk6 h n h.ss.length)]):=by
 refine z6 Tryz.func28 rfl rfl rfl ?_;refine rn ?_;refine z8 rfl (w7 rfl rfl rfl fun b2=>?_);refine z8 rfl (w7 rfl rfl rfl fun b3=>?_);refine rn ?_;refine z8 rfl (q7 rfl rfl (y4.perm ((pt2 _ _ _ _).trans (.cons _ ((pt2 _ _ _ _).trans (.cons _ ((pt2 _ _ _ _).trans (.cons _ ((pt2 _ _ _ _).trans (.cons _ (pt1 _ _ _))))))))) (y4.of_fun (ykg h la n (h.ss.map zaq).length (.fn (.func 71) [] [pZ b2,pZ b3]) rfl (zbn h.evs n) [.box b2 28 (y8 h),.box b3 3 [iv n]] (fun he=>y4.of_acall (fs:= []) (cs:= [pZ b2,pZ b3]) (ynz h (ype he) n b2 b3))))) rfl ?_);rintro _ _ ⟨s,rfl,rfl⟩;refine rn ?_;exact zb9 rfl rfl (.trans (.perm ((pt5 _ _ _ _ _ _ _).trans (.cons _ (pt5 _ _ _ _ _ _ _))) _) (.drop [_,_] _ _)) ⟨s,by simp only [oM],by simp only [oM];rfl⟩
theorem yr9 (h:Hist) (la:Lim 4611686018427387904 h) (n:Int):y9 Tryz.prog 28 [.agg (y8 h),iv n] (.glob 3 148 x3:: .glob 5 276 x6:: .glob 6 279 y7:: .glob 2 197 u3:: []) (fun r h'=>h'= .glob 3 148 x3:: .glob 5 276 x6:: .glob 6 279 y7:: .glob 2 197 u3:: []∧r= .tup [zcs (onE (zk6 h n h.ss.length) (zbn h.evs n)),iv (zk6 h n h.ss.length)]):=
 (yn0 h la n).ventR (by rintro _ _ ⟨s,rfl,rfl⟩;exact ⟨_,_,zba [] [_],rfl,rfl⟩)
theorem ysd (h:Hist) (la:Lim 3000 h) (x:Int) (W:List Res):y9 Tryz.prog 122 [.agg (y8 h),iv x] W (fun r h'=>∃s:SV,h'= .row s.v 1 3 ((zgg h x).map zag)::W∧r= .v s.v):=by
 refine z6 Tryz.func122 rfl rfl rfl ?_;have le:h.evs.length≤1000000:=B8 la.evs (by decide);have lo:=la.ords;refine rn ?_;refine z8 rfl (w7 rfl rfl rfl fun b2=>?_);refine z8 rfl (w7 rfl rfl rfl fun b3=>?_);refine rn ?_;refine qv rfl rfl (y3 rfl rfl (y4.of_fun (zlj h.ords _ (fun o:Ord=>o.o==x) _ (fun a _=>y4.qt (y4.of_acall (fs:= []) (cs:= [pZ b3]) (yvu x a b3)) (.refl _)) (B8 la.ords (by decide))))) ?_;refine rn ?_;refine z7 rfl (fun hc13=>?_) (fun hc13=>?_)
 ·obtain ⟨k,hk,ek,hx⟩:=yrj hc13;have rk:=zam (f:=zb7) hk;rw [ek];refine rn ?_;refine z8 rfl (q7 rfl rfl (y4.fr (y4.rowS (y4.of_fun (zhe (h.ords[k].ts.map zag) (by rw [oM];exact B8 (la.ordts h.ords[k] (D0 hk)) (by decide)) (zja _)))) (.refl _)) rfl ?_);rintro _ _ ⟨_,rfl,s,rfl,rfl⟩;refine rn ?_;exact u6 rfl (.trans (.perm ((pt1 _ _ _).trans (.cons _ (pt1 _ _ _))) _) (.drop [_,_] _ _)) ⟨s,by rw [hx],rfl⟩
 have hx:=yri hc13;refine rn ?_;refine z8 rfl (q7 rfl rfl (y4.of_fun (ydf h le _)) rfl ?_);rintro _ _ ⟨rm,rfl,rfl⟩;refine z8 rfl (y6 rfl fun b6=>?_);refine rn ?_;refine z8 rfl (q7 rfl rfl (y4.of_fun (ykf h le 2 _ rfl _ (fun _ e=>e.t) (fun _ e=>e.o==x && (zch e.t (zmh h.evs)).getD false) (fun k hk _=>y4.qt (y4.of_acall (fs:= []) (cs:= [pZ b3,pZ b6]) (yny k x h.evs[k] b3 b6 rm (zmh h.evs))) (pt2 _ _ _ _)))) rfl ?_);rintro _ _ ⟨s,rfl,rfl⟩;refine rn ?_;refine z8 rfl (q7 rfl rfl (za3 (y4.of_fun (yo4 s _ (by have:=(zqw (zrt 2 (fun _ e=>e.t) (fun _ e=>e.o==x && (zch e.t (zmh h.evs)).getD false)) h.evs h.evs.length);omega)))) rfl ?_);rintro _ _ ⟨s',rfl,rfl⟩;refine rn ?_;exact u6 rfl (.trans (.perm ((pt1 _ _ _).trans (.cons _ ((pt1 _ _ _).trans (.cons _ ((pt1 _ _ _).trans (.cons _ (pt1 _ _ _))))))) _) (.drop [_,_,_,_] _ _)) ⟨s',by rw [hx,yn5],rfl⟩
theorem ysc (h:Hist) (la:Lim 3000 h) (x:Int) (b2 b3:Nat):y9 Tryz.prog 121 [pZ b2,pZ b3] (.glob 3 148 x3:: .glob 5 276 x6:: .glob 6 279 y7:: .glob 2 197 u3:: .box b2 28 (y8 h):: .box b3 3 [iv x]:: []) (fun r h'=>∃s:SV,h'= .row s.v 1 3 ((zgg h x).map zag):: .glob 3 148 x3:: .glob 5 276 x6:: .glob 6 279 y7:: .glob 2 197 u3:: .box b2 28 (y8 h):: .box b3 3 [iv x]:: []∧r= .v s.v):=by
 refine z6 Tryz.func121 rfl rfl rfl ?_;refine rn ?_;refine z8 rfl (q7 rfl rfl (y4.of_fun (ysd h la x _)) rfl ?_);rintro _ _ ⟨s,rfl,rfl⟩;refine rn ?_;exact u6 rfl (.refl _ _) ⟨s,rfl,rfl⟩
theorem yn1 (h:Hist) (la:Lim 4611686018427387904 h) (x:Int):y9 Tryz.prog 75 [.agg (y8 h),iv x] (.glob 3 148 x3:: .glob 5 276 x6:: .glob 6 279 y7:: .glob 2 197 u3:: []) (fun r h'=>∃s:SV,h'= .row s.v 1 3 ((onE (zk6 h x h.os.length) (zgg h x)).map zag):: .glob 3 148 x3:: .glob 5 276 x6:: .glob 6 279 y7:: .glob 2 197 u3:: []∧r= .tup [.v s.v,iv (zk6 h x h.os.length)]):=by
 refine z6 Tryz.func75 rfl rfl rfl ?_;refine rn ?_;refine z8 rfl (w7 rfl rfl rfl fun b2=>?_);refine z8 rfl (w7 rfl rfl rfl fun b3=>?_);refine rn ?_;refine z8 rfl (q7 rfl rfl (y4.perm ((pt2 _ _ _ _).trans (.cons _ ((pt2 _ _ _ _).trans (.cons _ ((pt2 _ _ _ _).trans (.cons _ ((pt2 _ _ _ _).trans (.cons _ (pt1 _ _ _))))))))) (y4.of_fun (ykg h la x (h.os.map zaq).length (.fn (.func 121) [] [pZ b2,pZ b3]) rfl (zgg h x) [.box b2 28 (y8 h),.box b3 3 [iv x]] (fun he=>y4.of_acall (fs:= []) (cs:= [pZ b2,pZ b3]) (ysc h (ye6 he) x b2 b3))))) rfl ?_);rintro _ _ ⟨s,rfl,rfl⟩;refine rn ?_;exact zb9 rfl rfl (.trans (.perm ((pt5 _ _ _ _ _ _ _).trans (.cons _ (pt5 _ _ _ _ _ _ _))) _) (.drop [_,_] _ _)) ⟨s,by simp only [oM],by simp only [oM];rfl⟩
theorem ysa (h:Hist) (la:Lim 4611686018427387904 h) (x:Int):y9 Tryz.prog 75 [.agg (y8 h),iv x] (.glob 3 148 x3:: .glob 5 276 x6:: .glob 6 279 y7:: .glob 2 197 u3:: []) (fun r h'=>h'= .glob 3 148 x3:: .glob 5 276 x6:: .glob 6 279 y7:: .glob 2 197 u3:: []∧r= .tup [zcs (onE (zk6 h x h.os.length) (zgg h x)),iv (zk6 h x h.os.length)]):=
 (yn1 h la x).ventR (by rintro _ _ ⟨s,rfl,rfl⟩;exact ⟨_,_,zba [] [_],rfl,rfl⟩)
theorem yc9 (l:List Ev) (t x:Int):∀k,k≤l.length→zch (t,x) (zrs (l.take k))=(zh1 l t x k).map Prod.fst
 |0,_=>rfl
 |k+1,hk=>by
  have ih:=yc9 l t x k (by omega);rw [A5 hk,zex,zh1,B4 hk];simp only;by_cases hw:zbw t x l[k]=true
  ·obtain ⟨h2,ht,hx⟩:=zgh.1 hw;rw [A6 (by simpa using h2),zcy,A6 (by rw [kTO,ht,hx]),A6 hw];rfl
  rw [A0 hw];by_cases h2:l[k].kind=2
  ·rw [A6 (by simpa using h2),zcy,A0,ih];intro e;rw [kTO,Y5] at e;exact hw (zgh.2 ⟨h2,e.1,e.2⟩)
  rw [A0 (by simpa using h2),ih]
theorem ynw (h:Hist) (t x:Int):(zch (t,x) (zrs h.evs)).getD ⟨0,0⟩=zlt h x t:=by
 have:=yc9 h.evs t x h.evs.length (C5 _);rw [C7] at this;rw [this,zlt,zyb];cases zh1 h.evs t x h.evs.length <;> rfl
abbrev rkS (h:Hist) (rk:Nat):Res:= .map rk (zan zgb (zce iv (rkM h h.os.length)))
theorem yu8 (h:Hist) (n:Nat):rkM h (n+1)=zin h n 0 ((zgg h n).take (zgg h n).length) (zf2 (zud n ⟨0,0⟩) 0 (rkM h n)):=by rw [C7];rfl
theorem ysh {h:Hist} (hc:v6 h=0) {x:Int} (h0:0≤x) (h1:x < h.os.length):(zgg h x).length≤3000:=by
 rw [(znj (zcb.1 hc) h0 h1).2.1];exact B8 (zkh h.evs x) (zeq hc).evs
theorem yr5 {h:Hist} {j:Nat} (hj:j < h.evs.length) (hw:(h.evs[j].kind==2)=true):zrs (h.evs.take (j+1))=zf2 (h.evs[j].t,h.evs[j].o) h.evs[j].v (zrs (h.evs.take j)):=by
 rw [A5 hj,zex,A6 hw];rfl
theorem yr6 {h:Hist} {j:Nat} (hj:j < h.evs.length) (hw:(h.evs[j].kind==2)=false):zrs (h.evs.take (j+1))=zrs (h.evs.take j):=by
 rw [A5 hj,zex,hw];rfl
theorem yfi {h:Hist} {t kd:Int} {k:Nat} {e:Ev} {r:Int} (ht:e.t=t) (hk:e.kind=kd) (hr:zxf h e.o e.v=some r):zn5 h t kd k e= [⟨e.o,r,k⟩]:=by
 rw [zn5,A6 (by simp [ht,hk]),hr]
theorem zyt {h:Hist} {t kd:Int} {k:Nat} {e:Ev} (hn:¬(e.t=t∧e.kind=kd)):zn5 h t kd k e= []:=by
 rw [zn5,A0];intro q;rw [B5,K7,K7] at q;exact hn q
theorem yk9 {h:Hist} {t kd:Int} {k:Nat} {e:Ev} (hr:zxf h e.o e.v=none):zn5 h t kd k e= []:=by
 rw [zn5];split
 ·rw [hr]
 rfl
theorem zi2 {h:Hist} {t kd:Int} {k:Nat} (hk:k < h.evs.length):zri h t kd (k+1)=zri h t kd k++zn5 h t kd k h.evs[k]:=by rw [zri,B4 hk]
theorem yjq (h:Hist) (t kd:Int) (k:Nat) (e:Ev):(zn5 h t kd k e).length≤1:=by
 rw [zn5];split
 ·split <;> simp
 simp
theorem zf3 (h:Hist) (t kd:Int):∀k,(zri h t kd k).length≤k
 |0=>C5 _
 |k+1=>by
  have h1:=zf3 h t kd k;rw [zri,D4];split
  ·have h2:=yjq h t kd k;rename_i e _;have:=h2 e;omega
  simp;omega
theorem yt8 {h:Hist} {t kd:Int} {a:Acc} (ha:a∈zrh h t kd):0≤a.o∧a.o < h.os.length:=by
 obtain ⟨k,hk,_,_,ho,_,hr⟩:=yt9 ha;by_cases q:((h.os.length:Nat):Int)≤h.evs[k].o∨h.evs[k].o < 0
 ·rw [zxf,zu4 h _ _ _ q] at hr;cases hr
 rw [ho];omega
structure Dos where
 t:Int
 A:List Acc
 B:List Acc
abbrev zia (l:List Acc):AV:= .list false 3 (l.map accR)
abbrev zc3 (d:Dos):List AV:= [iv d.t,zia d.A,zia d.B]
abbrev zfp (l:List Dos):AV:= .list false 3 (l.map zc3)
def zv7 (h:Hist) (t:Int):Dos:=⟨t,zrp h.os.length (zrh h t 3),zrp h.os.length (zrh h t 2)⟩
def zax (h:Hist) (s:Int):List Dos:=(zbn h.evs s).map (zv7 h)
def zfc (h:Hist) (s:Int):Int:=zk6 h s h.ss.length
def yh8 (h:Hist) (s:Int):List Dos:=if zfc h s=0 then zax h s else []
theorem zql (h:Hist) (s:Int):(zbn h.evs s).length≤h.evs.length:=by
 rw [zbn,oM];exact K6 _ _
theorem ynv {h:Hist} {s:Int} (he:zfc h s≠0):yh8 h s= []:=A0 he
theorem zvt {h:Hist} {s:Int} (he:zfc h s=0):yh8 h s=zax h s:=A6 he
instance:Chk3 Tryz.prog 139:=⟨fun e w a b c=>by kernel_rfl⟩
theorem ysb (h:Hist) (la:Lim 4611686018427387904 h) (hc:v6 h=0) (x:Int) (h0:0≤x) (h1:x < h.os.length):y9 Tryz.prog 75 [.agg (y8 h),iv x] (.glob 3 148 x3:: .glob 5 276 x6:: .glob 6 279 y7:: .glob 2 197 u3:: []) (fun r h'=>h'= .glob 3 148 x3:: .glob 5 276 x6:: .glob 6 279 y7:: .glob 2 197 u3:: []∧r= .tup [zcs (zgg h x),iv 0]):=(ysa h la x).mono fun _ _ q=>⟨q.1,by rw [q.2,ye4 hc ⟨h0,h1⟩];rfl⟩
theorem ygl (h:Hist) (la:Lim 4611686018427387904 h) (hc:v6 h=0):y9 Tryz.prog 117 [.agg (y8 h)] (.glob 3 148 x3:: .glob 5 276 x6:: .glob 6 279 y7:: .glob 2 197 u3:: []) (fun r h'=>∃rk,h'=rkS h rk:: .glob 3 148 x3:: .glob 5 276 x6:: .glob 6 279 y7:: .glob 2 197 u3:: []∧r=mpv rk):=by
 refine z6 Tryz.func117 rfl rfl rfl ?_;have lA:=zeq hc;have lO:=lA.os;have lE:=lA.evs;refine rn ?_;refine z8 rfl (w7 rfl rfl rfl fun b1=>?_);refine rn ?_;refine z8 rfl (zbm (enc:=zgb) rfl fun bO=>?_);refine rn ?_;refine z8 rfl (zbm (enc:=zen) rfl fun bL=>?_);refine rn ?_;refine zbv h.evs.length (fun _=>True) (fun j=>⟨[(17,iv j),(1,pZ b1),(3,mpv bO),(4,mpv bL),(15,zll h.evs),(16,iv (h.evs.map evR).length)],.map bL (zan zen (zce zyz (zrs (h.evs.take j)))):: .map bO (zan zgb (zce iv [])):: .box b1 28 (y8 h):: .glob 3 148 x3:: .glob 5 276 x6:: .glob 6 279 y7:: .glob 2 197 u3:: [],[]⟩) trivial es ?_;intro j lj _;refine rn ?_;refine z7 rfl (fun hc18=>?_) (fun hc18=>?_)
 ·have hj:=zaw hc18;have rj:=zam (f:=evR) hj;refine rn ?_;refine z8 rfl (y6 rfl fun b6=>?_);refine rn ?_;refine z7 rfl (fun hc23=>?_) (fun hc23=>?_)
  ·have hw:(h.evs[j].kind==2)=true:=by simpa using hc23
   refine y5 ?_;refine q1 ?_;refine q1 ?_;refine q1 ?_;refine q1 ?_;refine q1 ?_;refine qq rfl rfl (zi9 (out:= [iv h.evs[j].t,iv h.evs[j].o]) rfl (by rfl)) ?_;refine rn ?_;refine z8 rfl (zby (g:=zyz) (enc:=zen) (k:=(h.evs[j].t,h.evs[j].o)) (v:=h.evs[j].v) rfl rfl rfl ?_);refine rn ?_;exact ⟨hj,trivial,by rw [yr5 hj hw];exact eA⟩
  have hw:(h.evs[j].kind==2)=false:=by simpa using hc23
  refine rn ?_;exact ⟨hj,trivial,by rw [yr6 hj hw];exact eA⟩
 have qj:=zaz hc18 lj;subst qj;rw [C7];refine rn ?_;refine zbv h.os.length (fun _=>True) (fun k=>⟨[(36,iv k),(1,pZ b1),(3,mpv bO),(4,mpv bL),(35,iv (h.os.map zaq).length)],.map bL (zan zen (zce zyz (zrs h.evs))):: .map bO (zan zgb (zce iv (rkM h k))):: .box b1 28 (y8 h):: .glob 3 148 x3:: .glob 5 276 x6:: .glob 6 279 y7:: .glob 2 197 u3:: [],[]⟩) trivial es ?_;intro k lk _;refine rn ?_;refine z7 rfl (fun hc37=>?_) (fun hc37=>?_)
 ·have hk:k < h.os.length:=by have q:=oT hc37;rw [oM] at q;omega
  have k0:(0:Int)≤(k:Int):=by omega
  have k1:(k:Int) < h.os.length:=by omega
  have hb:=ysh hc k0 k1;refine k7 ?_;refine j8 ?_;refine x7 ?_;refine k8 ?_;refine x7 (y5 ?_);refine q1 ?_;refine q1 ?_;refine u1 (j8 ?_);refine x7 (y5 ?_);refine q1 ?_;refine q1 ?_;refine qq rfl rfl (zal (out:= [iv k,iv 0,iv 0]) rfl (by rfl)) ?_;refine z8 rfl (zby (g:=iv) (enc:=zgb) (k:=((k:Int),(0:Int),(0:Int))) (v:=(0:Int)) rfl rfl rfl ?_);refine rn ?_;refine qv rfl rfl (y3 rfl rfl (y4.qt (y4.of_fun (ysb h la hc k k0 k1)) ((pt3 _ _ _ _ _).trans (.cons _ ((pt3 _ _ _ _ _).trans (.cons _ ((pt3 _ _ _ _ _).trans (.cons _ (pt3 _ _ _ _ _))))))))) ?_;refine rn ?_;refine zbv (zgg h k).length (fun _=>True) (fun j=>⟨[(50,iv j),(1,pZ b1),(3,mpv bO),(4,mpv bL),(7,iv k),(35,iv (h.os.map zaq).length),(36,iv k),(48,zcs (zgg h k)),(49,iv ((zgg h k).map zag).length)],.map bL (zan zen (zce zyz (zrs h.evs))):: .map bO (zan zgb (zce iv (zin h k 0 ((zgg h k).take j) (zf2 (zud k ⟨0,0⟩) 0 (rkM h k))))):: .box b1 28 (y8 h):: .glob 3 148 x3:: .glob 5 276 x6:: .glob 6 279 y7:: .glob 2 197 u3:: [],[]⟩) trivial es ?_;intro j lj _;refine rn ?_;refine z7 rfl (fun hc51=>?_) (fun hc51=>?_)
  ·have hj:=zaw hc51;have rj:=zam (f:=zag) hj;refine k7 ?_;refine j8 ?_;refine x7 ?_;refine k8 ?_;refine x7 (y5 ?_);refine q1 ?_;refine q1 ?_;refine q1 ?_;refine q1 ?_;refine q1 ?_;refine u1 (j8 ?_);refine y5 ?_;refine q1 ?_;refine q1 ?_;refine q1 ?_;refine q1 ?_;refine q1 ?_;refine qq rfl rfl (zi9 (out:= [iv (zgg h k)[j],iv k]) rfl (by rfl)) ?_;refine qq rfl rfl (za9 (zc0 (g:=zyz) (enc:=zen) (k:=((zgg h k)[j],(k:Int))) (⟨0,0⟩:Ver) rfl rfl) (show zyz _=zyz (zlt h k (zgg h k)[j]) from A4 zyz (ynw h (zgg h k)[j] k))) ?_;refine qq rfl rfl (zal (out:= [iv k,iv (zlt h k (zgg h k)[j]).t,iv (zlt h k (zgg h k)[j]).k]) rfl (by rfl)) ?_;refine q1 ?_;refine qq rfl rfl (zai rfl rfl rfl (by omega)) ?_;refine z8 rfl (zby (g:=iv) (enc:=zgb) (k:=((k:Int),(zlt h k (zgg h k)[j]).t,(zlt h k (zgg h k)[j]).k)) (v:=(j:Int)+1) rfl rfl rfl ?_);refine rn ?_;exact ⟨hj,trivial,by rw [ymr hj];exact eA⟩
  have qj:=zaz hc51 lj;rw [qj,C7];refine rn ?_;exact ⟨hk,trivial,by rw [yu8,C7];exact eA⟩
 have qk:k=h.os.length:=by have q:=oF hc37;rw [oM] at q;omega
 refine rn ?_;exact u6 rfl (.trans (.perm (.cons _ (pt1 _ _ _)) _) (.drop [_,_] _ _)) ⟨bO,by rw [qk],rfl⟩
theorem yu3 (h:Hist) (la:Lim 4611686018427387904 h) (hc:v6 h=0) (t:Int) (rO:Nat) (W:List Res):y9 Tryz.prog 118 [.agg (y8 h),iv t,mpv rO] (rkS h rO::W) (fun r h'=>h'=rkS h rO::W∧r= .agg (zc3 (zv7 h t))):=by
 refine z6 Tryz.func118 rfl rfl rfl ?_;have lA:=zeq hc;have lO:=lA.os;have lE:=lA.evs;refine rn ?_;refine z8 rfl (w7 rfl rfl rfl fun b3=>?_);refine z8 rfl (y6 rfl fun b6=>?_);refine rn ?_;refine z8 rfl (y6 rfl fun b7=>?_);refine rn ?_;refine zb5 h.evs.length (fun _ (_:SV×SV)=>True) (fun k z=>⟨[(19,iv k),(1,iv t),(2,mpv rO),(6,pZ b6),(7,pZ b7),(17,zll h.evs),(18,iv (h.evs.map evR).length)],.row z.1.v 3 178 ((zri h t 3 k).map accR):: .row z.2.v 3 178 ((zri h t 2 k).map accR):: .box b7 121 [iv t,.v z.1.v,.v z.2.v]:: .box b6 121 [iv 0,.v (.slice none 0 0),.v (.slice none 0 0)]:: .box b3 28 (y8 h)::rkS h rO::W,[]⟩) (⟨none,0,0⟩,⟨none,0,0⟩) trivial (w8 (zaf 3 178) (w8 (zaf 3 178) es)) ?_;rintro k ⟨sR,sI⟩ lk -
 show aw _ _ _ _ _ ⟨[(19,iv k),(1,iv t),(2,mpv rO),(6,pZ b6),(7,pZ b7),(17,zll h.evs),(18,iv (h.evs.map evR).length)],.row sR.v 3 178 ((zri h t 3 k).map accR):: .row sI.v 3 178 ((zri h t 2 k).map accR):: .box b7 121 [iv t,.v sR.v,.v sI.v]:: .box b6 121 [iv 0,.v (.slice none 0 0),.v (.slice none 0 0)]:: .box b3 28 (y8 h)::rkS h rO::W,[]⟩;refine rn ?_;refine z7 rfl (fun hc20=>?_) (fun hc20=>?_)
 ·have hk:=zaw hc20;have rk:=zam (f:=evR) hk;refine rn ?_;refine z8 rfl (y6 rfl fun b9=>?_);refine rn0 ?_;refine x7 ?_;refine zh9 (⟨[(37,bv (h.evs[k].t !=t||(h.evs[k].kind !=3 && h.evs[k].kind !=2))),(8,iv k),(9,pZ b9),(19,iv k),(1,iv t),(2,mpv rO),(6,pZ b6),(7,pZ b7),(17,zll h.evs),(18,iv (h.evs.map evR).length)],.box b9 66 (evR h.evs[k]):: .row sR.v 3 178 ((zri h t 3 k).map accR):: .row sI.v 3 178 ((zri h t 2 k).map accR):: .box b7 121 [iv t,.v sR.v,.v sI.v]:: .box b6 121 [iv 0,.v (.slice none 0 0),.v (.slice none 0 0)]:: .box b3 28 (y8 h)::rkS h rO::W,[]⟩) ?_ ?_
  ·refine rn ?_;refine x5 (fun hg5_4=>?_) (fun hg5_4=>?_)
   ·refine rn ?_;first|(rw [hg5_4,D1];exact eA)|(rw [hg5_4,C4,hg5_8,B9];exact eA)|(rw [hg5_4,C4,hg5_8,B0];exact eA)
   refine rn ?_;refine x5 (fun hg5_8=>?_) (fun hg5_8=>?_)
   ·refine rn ?_;first|(rw [hg5_4,D1];exact eA)|(rw [hg5_4,C4,hg5_8,B9];exact eA)|(rw [hg5_4,C4,hg5_8,B0];exact eA)
   refine rn ?_;first|(rw [hg5_4,D1];exact eA)|(rw [hg5_4,C4,hg5_8,B9];exact eA)|(rw [hg5_4,C4,hg5_8,B0];exact eA)
  refine z7 rfl (fun hc37=>?_) (fun hc37=>?_)
  ·have hn3:zn5 h t 3 k h.evs[k]= []:=zyt (by rintro ⟨e1,e2⟩;have q:=hc37;rw [e1,e2] at q;simp at q);have hn2:zn5 h t 2 k h.evs[k]= []:=zyt (by rintro ⟨e1,e2⟩;have q:=hc37;rw [e1,e2] at q;simp at q);refine rn ?_;exact ⟨hk,(sR,sI),trivial,by rw [zi2 hk,zi2 hk,hn3,hn2,F8,F8];exact eA⟩
  have q:=hc37;rw [R4,Q9] at q;have ht:h.evs[k].t=t:=by simpa using q.1
  have hkk:h.evs[k].kind=3∨h.evs[k].kind=2:=by simpa using q.2
  refine k7 ?_;refine j8 ?_;refine x7 (y5 ?_);refine q1 ?_;refine q1 ?_;refine q1 ?_;refine q1 ?_;refine q1 ?_;refine qq rfl rfl (zal (out:= [iv h.evs[k].o,iv h.evs[k].v.t,iv h.evs[k].v.k]) rfl (by rfl)) ?_;refine qq rfl rfl (zsm (g:=iv) (enc:=zgb) (k:=(h.evs[k].o,h.evs[k].v.t,h.evs[k].v.k)) (0:Int) rfl rfl rfl) ?_;refine q1 ?_;refine q1 ?_;refine q1 ?_;refine q1 ?_;refine q1 ?_;refine u1 (j8 ?_);refine x7 (y5 ?_);refine q1 ?_;refine q1 ?_;refine q1 ?_;refine q1 ?_;refine qq rfl rfl (zal (out:= [iv h.evs[k].o,iv ((zch (h.evs[k].o,h.evs[k].v.t,h.evs[k].v.k) (rkM h h.os.length)).getD 0),iv k]) rfl (by rfl)) ?_;refine z8 rfl (y6 rfl fun b12=>?_);refine rn ?_;refine z7 rfl (fun hc59=>?_) (fun hc59=>?_)
  ·have hr:zxf h h.evs[k].o h.evs[k].v=none:=by
    have q:(zch (h.evs[k].o,h.evs[k].v.t,h.evs[k].v.k) (rkM h h.os.length)).isSome=false:=by simpa using hc59
    exact V1.1 (by rw [←Option.not_isSome];show (!(zch (h.evs[k].o,h.evs[k].v.t,h.evs[k].v.k) (rkM h h.os.length)).isSome)=true;rw [q];rfl)
   have hn3:zn5 h t 3 k h.evs[k]= []:=yk9 hr;have hn2:zn5 h t 2 k h.evs[k]= []:=yk9 hr;refine rn ?_;exact ⟨hk,(sR,sI),trivial,by rw [zi2 hk,zi2 hk,hn3,hn2,F8,F8];exact eA⟩
  obtain ⟨r0,hr⟩:∃r,(zch (h.evs[k].o,h.evs[k].v.t,h.evs[k].v.k) (rkM h h.os.length))=some r:=O7.1 (by simpa using hc59);have hr':zxf h h.evs[k].o h.evs[k].v=some r0:=hr;rw [hr,O4,Option.isSome_some];refine rn ?_;refine z7 rfl (fun hc62=>?_) (fun hc62=>?_)
  ·have h3:h.evs[k].kind=3:=by simpa using hc62
   have hn3:zn5 h t 3 k h.evs[k]= [⟨h.evs[k].o,r0,k⟩]:=yfi ht h3 hr';have hn2:zn5 h t 2 k h.evs[k]= []:=zyt (fun q=>by rw [h3] at q;exact absurd q.2 (by decide));refine rn ?_;refine qv rfl rfl (q8 rfl rfl) ?_;refine z8 rfl (j3 rfl rfl (by simp only [oM,E6,F3];have:=zf3 h t 3 k;omega) rfl (fun s70=>?_) (fun r hr=>by rw [D7.1 hr];rfl));refine zac s70 fun sv hsv=>?_;subst hsv;refine rn ?_;exact ⟨hk,(sv,sI),trivial,by rw [zi2 hk,zi2 hk,hn3,hn2,F8,D9];exact eA⟩
  have h3:h.evs[k].kind=2:=hkk.resolve_left (by simpa using hc62);have hn2:zn5 h t 2 k h.evs[k]= [⟨h.evs[k].o,r0,k⟩]:=yfi ht h3 hr';have hn3:zn5 h t 3 k h.evs[k]= []:=zyt (fun q=>by rw [h3] at q;exact absurd q.2 (by decide));refine rn ?_;refine qv rfl rfl (q8 rfl rfl) ?_;refine z8 rfl (j3 rfl rfl (by simp only [oM,E6,F3];have:=zf3 h t 2 k;omega) rfl (fun s57=>?_) (fun r hr=>by rw [D7.1 hr];rfl));refine zac s57 fun sv hsv=>?_;subst hsv;refine rn ?_;exact ⟨hk,(sR,sv),trivial,by rw [zi2 hk,zi2 hk,hn3,hn2,F8,D9];exact eA⟩
 have qk:=zaz hc20 lk;subst qk;refine rn ?_;refine z8 rfl (q7 rfl rfl (zik (y4.of_fun (yqg sR h.os.length (zrh h t 3) (fun a ha=>yt8 ha) (by omega) (by have:=zf3 h t 3 h.evs.length;show (zri h t 3 h.evs.length).length≤_;omega)))) rfl ?_);rintro _ _ ⟨rfl,rfl⟩;refine rn ?_;refine z8 rfl (q7 rfl rfl (zik (y4.of_fun (yqg sI h.os.length (zrh h t 2) (fun a ha=>yt8 ha) (by omega) (by have:=zf3 h t 2 h.evs.length;show (zri h t 2 h.evs.length).length≤_;omega)))) rfl ?_);rintro _ _ ⟨rfl,rfl⟩;refine u1 (j8 ?_);refine x7 (y5 ?_);refine zrf (w8 (zau (.cons _ (pt1 _ _ _))) (w8 (zi0 [iv t] [.v sI.v]) (w8 (zau (pt1 _ _ _)) (zi0 [iv t,zia (zrp h.os.length (zrh h t 3))] [])))) ?_;refine rn ?_;exact zdn (.cons _ _ _ _ (.agg _ _ _ _ _ _ _ rfl inferInstance inferInstance inferInstance rfl) .nil) (.drop [_,_,_] _ _) ⟨rfl,rfl⟩
theorem ygm (h:Hist) (la:Lim 4611686018427387904 h) (s:Int):y9 Tryz.prog 65 [.agg (y8 h),iv s] (.glob 3 148 x3:: .glob 5 276 x6:: .glob 6 279 y7:: .glob 2 197 u3:: []) (fun r h'=>∃v:SV,h'= .row v.v 3 121 ((yh8 h s).map zc3):: .glob 3 148 x3:: .glob 5 276 x6:: .glob 6 279 y7:: .glob 2 197 u3:: []∧r= .tup [.v v.v,iv (zfc h s)]):=by
 refine z6 Tryz.func65 rfl rfl rfl ?_;refine rn ?_;refine z8 rfl (w7 rfl rfl rfl fun b2=>?_);refine rn ?_;refine qv rfl rfl (y3 rfl rfl (y4.qt (y4.of_fun (yr9 h la s)) ((pt1 _ _ _).trans (.cons _ ((pt1 _ _ _).trans (.cons _ ((pt1 _ _ _).trans (.cons _ (pt1 _ _ _))))))))) ?_;refine rn ?_;refine z7 rfl (fun hc19=>?_) (fun hc19=>?_)
 ·have he:zfc h s≠0:=nzT hc19;refine rn ?_;exact zb9 rfl rfl (.trans (.drop [_] _ _) (j7 3 121 _)) ⟨⟨none,0,0⟩,by rw [ynv he];rfl,rfl⟩
 have he:zfc h s=0:=nzF hc19;have hc:v6 h=0:=zcb.2 (yjl he).1;have lE:=(zeq hc).evs;have lL:=zql h s;rw [show onE (zk6 h s h.ss.length) (zbn h.evs s)=(zbn h.evs s) by rw [show zk6 h s h.ss.length=0 from he,onE,A6 rfl]];refine rn ?_;refine z8 rfl (q7 rfl rfl (y4.fr1 (y4.of_fun (ygl h la hc))) rfl ?_);rintro _ _ ⟨_,rfl,rO,rfl,rfl⟩;refine rn ?_;refine zer (zbn h.evs s).length (fun k v=>⟨[(25,iv k),(9,.v v.v),(2,pZ b2),(8,mpv rO),(23,zcs (zbn h.evs s)),(24,iv ((zbn h.evs s).map zag).length)],.row v.v 3 121 ((((zbn h.evs s).take k).map (zv7 h)).map zc3):: .box b2 28 (y8 h)::rkS h rO:: .glob 3 148 x3:: .glob 5 276 x6:: .glob 6 279 y7:: .glob 2 197 u3:: [],[]⟩) ⟨none,0,0⟩ (w8 (zaf 3 121) es) ?_;intro k v lk;refine rn ?_;refine z7 rfl (fun hc26=>?_) (fun hc26=>?_)
 ·have hk:=zaw hc26;have rk:=zam (f:=zag) hk;refine rn ?_;refine qv rfl rfl (y3 rfl rfl (y4.qt (y4.of_fun (yu3 h la hc (zbn h.evs s)[k] rO [])) (pt2 _ _ _ _))) ?_;refine qv rfl rfl (q8 rfl rfl) ?_;refine z8 rfl (j3 rfl rfl (by simp only [oM,E6,F3];have:=V0 k (zbn h.evs s);omega) rfl (fun s35=>?_) (fun r hr=>by rw [D7.1 hr];rfl));refine zac s35 fun sv hsv=>?_;subst hsv;refine rn ?_;exact ⟨hk,sv,by rw [A5 hk,D9,D9];exact eA⟩
 have qk:=zaz hc26 lk;subst qk;rw [C7];refine rn ?_;exact zb9 rfl rfl (.trans (.perm ((pt1 _ _ _).trans (.cons _ (pt1 _ _ _))) _) (.drop [_,_] _ _)) ⟨v,by rw [zvt he];rfl,by rw [he];rfl⟩
theorem ybj (h:Hist) (la:Lim 4611686018427387904 h) (s:Int):y9 Tryz.prog 65 [.agg (y8 h),iv s] (.glob 3 148 x3:: .glob 5 276 x6:: .glob 6 279 y7:: .glob 2 197 u3:: []) (fun r h'=>h'= .glob 3 148 x3:: .glob 5 276 x6:: .glob 6 279 y7:: .glob 2 197 u3:: []∧r= .tup [zfp (yh8 h s),iv (zfc h s)]):=(ygm h la s).ventR (by rintro _ _ ⟨v,rfl,rfl⟩;exact ⟨_,_,zba [] [_],rfl,rfl⟩)
end Go.Proofs
