/- The decoding of runes. Conditions: none. -/
import Derived.Test.YtcaijocpofcbdaaGreatDoorSAsG
set_option linter.unusedSectionVars false
set_option linter.unusedSimpArgs false
set_option linter.unusedVariables false
set_option maxRecDepth 10000
namespace Go.Proofs
open Go Go.Ab
attribute [local irreducible] QR QV OE zb4 aw zcn zby zbe zaj thn ze7
open Go.H
theorem zl2 (s:ByteArray) (hx:zbo (bt s 0).toNat=240):x3 Tryz.prog 227 [.v (.string s)] [.glob 5 276 y9,.glob 6 279 y4] (fun r h'=>h'= [.glob 5 276 y9,.glob 6 279 y4]∧r= .tup [.v (.int .i32 (y5 s).1),iv (y5 s).2]):=by
 refine z6 Tryz.func227 rfl rfl rfl ?_
 refine rn ?_;refine y3 rfl (fun hc16=> ?_) (fun hc16=> ?_)
 ·refine rn ?_;have hd:y5 s=(65533,0):=by
   unfold y5
   rw [if_pos (by simp at hc16;omega)]
  exact zbk rfl rfl (.refl _ _) ⟨rfl,by rw [hd];rfl⟩
 ·have h1:0 < s.size:=by simp at hc16;omega
  refine rn ?_;refine qq rfl rfl (v6 0 rfl rfl (by omega)) ?_
  refine rn ?_;refine qq rfl rfl (u0 rfl rfl (zem _ _) (zel _ _)) ?_
  refine qq rfl rfl (j3 rfl (show _=some (.v (.int .u8 240)) from by rw [zbs (zem s 0) (zel s 0),hx])) ?_
  refine rn ?_;refine y3 rfl (fun hc23=> ?_) (fun hc23=> ?_)
  ·refine rn ?_;refine qq rfl rfl (v6 0 rfl rfl (by omega)) ?_
   refine rn ?_;have hd:y5 s=(bI .or .i32 (bI .andNot .i32 (IntKind.i32.wrap (bt s 0)) (zhh 240)) (bI .and .i32 65533 (zhh 240)),1):=by
    unfold y5
    rw [if_neg (by omega)]
    simp only [hx]
    rw [if_pos (by decide)]
   exact zbk rfl rfl (.refl _ _) ⟨rfl,by rw [hd];rfl⟩
  ·first|cases hc23|exact absurd hc23 (by decide)|(exfalso;simp_all;done)
theorem zl1 (s:ByteArray) (hx:zbo (bt s 0).toNat=241):x3 Tryz.prog 227 [.v (.string s)] [.glob 5 276 y9,.glob 6 279 y4] (fun r h'=>h'= [.glob 5 276 y9,.glob 6 279 y4]∧r= .tup [.v (.int .i32 (y5 s).1),iv (y5 s).2]):=by
 refine z6 Tryz.func227 rfl rfl rfl ?_
 refine rn ?_;refine y3 rfl (fun hc16=> ?_) (fun hc16=> ?_)
 ·refine rn ?_;have hd:y5 s=(65533,0):=by
   unfold y5
   rw [if_pos (by simp at hc16;omega)]
  exact zbk rfl rfl (.refl _ _) ⟨rfl,by rw [hd];rfl⟩
 ·have h1:0 < s.size:=by simp at hc16;omega
  refine rn ?_;refine qq rfl rfl (v6 0 rfl rfl (by omega)) ?_
  refine rn ?_;refine qq rfl rfl (u0 rfl rfl (zem _ _) (zel _ _)) ?_
  refine qq rfl rfl (j3 rfl (show _=some (.v (.int .u8 241)) from by rw [zbs (zem s 0) (zel s 0),hx])) ?_
  refine rn ?_;refine y3 rfl (fun hc23=> ?_) (fun hc23=> ?_)
  ·refine rn ?_;refine qq rfl rfl (v6 0 rfl rfl (by omega)) ?_
   refine rn ?_;have hd:y5 s=(bI .or .i32 (bI .andNot .i32 (IntKind.i32.wrap (bt s 0)) (zhh 241)) (bI .and .i32 65533 (zhh 241)),1):=by
    unfold y5
    rw [if_neg (by omega)]
    simp only [hx]
    rw [if_pos (by decide)]
   exact zbk rfl rfl (.refl _ _) ⟨rfl,by rw [hd];rfl⟩
  ·first|cases hc23|exact absurd hc23 (by decide)|(exfalso;simp_all;done)
theorem zpo (s:ByteArray) (hx:zbo (bt s 0).toNat=2):x3 Tryz.prog 227 [.v (.string s)] [.glob 5 276 y9,.glob 6 279 y4] (fun r h'=>h'= [.glob 5 276 y9,.glob 6 279 y4]∧r= .tup [.v (.int .i32 (y5 s).1),iv (y5 s).2]):=by
 refine z6 Tryz.func227 rfl rfl rfl ?_
 refine rn ?_;refine y3 rfl (fun hc16=> ?_) (fun hc16=> ?_)
 ·refine rn ?_;have hd:y5 s=(65533,0):=by
   unfold y5
   rw [if_pos (by simp at hc16;omega)]
  exact zbk rfl rfl (.refl _ _) ⟨rfl,by rw [hd];rfl⟩
 ·have h1:0 < s.size:=by simp at hc16;omega
  refine rn ?_;refine qq rfl rfl (v6 0 rfl rfl (by omega)) ?_
  refine rn ?_;refine qq rfl rfl (u0 rfl rfl (zem _ _) (zel _ _)) ?_
  refine qq rfl rfl (j3 rfl (show _=some (.v (.int .u8 2)) from by rw [zbs (zem s 0) (zel s 0),hx])) ?_
  refine rn ?_;refine y3 rfl (fun hc23=> ?_) (fun hc23=> ?_)
  ·first|cases hc23|exact absurd hc23 (by decide)|(exfalso;simp_all;done)
  ·refine rn ?_;refine qq rfl rfl (u0 rfl rfl (by decide) (by decide)) ?_
   refine rn ?_;refine z7 rfl (x5 rfl fun b9=> ?_)
   refine rn ?_;refine y3 rfl (fun hc45=> ?_) (fun hc45=> ?_)
   ·refine rn ?_;have hd:y5 s=(65533,1):=by
     unfold y5
     rw [if_neg (by omega)]
     simp only [hx]
     rw [if_neg (by decide),if_pos (show (s.size:Int) < (2:Int) % 8 from of_decide_eq_true hc45)]
    exact zbk rfl rfl (.drop1 _ _ _) ⟨rfl,by rw [hd];rfl⟩
   ·have h2:2≤s.size:=by
     have:¬((s.size:Int) < 2):=of_decide_eq_false hc45
     omega
    refine rn ?_;refine qq rfl rfl (v6 1 rfl rfl (by omega)) ?_
    refine rn ?_;refine q9 (fun hg14_4=> ?_) (fun hg14_4=> ?_)
    ·refine rn ?_;refine y3 rfl (fun hc57=> ?_) (fun hc57=> ?_)
     ·refine rn ?_;have hd:y5 s=(65533,1):=by
       unfold y5
       rw [if_neg (by omega)]
       simp only [hx]
       rw [if_neg (by decide),if_neg (show ¬(s.size:Int) < (2:Int) % 8 from of_decide_eq_false hc45),if_pos (show bt s 1 < za4 ((2:Int) / 16).toNat∨za5 ((2:Int) / 16).toNat < bt s 1 from by first|exact .inl (of_decide_eq_true hg14_4)|exact .inr (of_decide_eq_true hc57))]
      exact zbk rfl rfl (.drop1 _ _ _) ⟨rfl,by rw [hd];rfl⟩
     ·first|cases hc57|exact absurd hc57 (by decide)|(exfalso;simp_all;done)
    ·refine rn ?_;refine y3 rfl (fun hc57=> ?_) (fun hc57=> ?_)
     ·refine rn ?_;have hd:y5 s=(65533,1):=by
       unfold y5
       rw [if_neg (by omega)]
       simp only [hx]
       rw [if_neg (by decide),if_neg (show ¬(s.size:Int) < (2:Int) % 8 from of_decide_eq_false hc45),if_pos (show bt s 1 < za4 ((2:Int) / 16).toNat∨za5 ((2:Int) / 16).toNat < bt s 1 from by first|exact .inl (of_decide_eq_true hg14_4)|exact .inr (of_decide_eq_true hc57))]
      exact zbk rfl rfl (.drop1 _ _ _) ⟨rfl,by rw [hd];rfl⟩
     ·refine rn ?_;refine y3 rfl (fun hc59=> ?_) (fun hc59=> ?_)
      ·refine rn ?_;have hd:y5 s=(bI .or .i32 (zbw (bt s 0) 31 6) (zbw (bt s 1) 63 0),2):=by
        unfold y5
        rw [if_neg (by omega)]
        simp only [hx]
        rw [if_neg (by decide),if_neg (show ¬(s.size:Int) < (2:Int) % 8 from of_decide_eq_false hc45),if_neg (show ¬(bt s 1 < za4 ((2:Int) / 16).toNat∨za5 ((2:Int) / 16).toNat < bt s 1) from fun q=>q.elim (of_decide_eq_false hg14_4) (of_decide_eq_false hc57)),if_pos (by decide)]
       exact zbk rfl rfl (.drop1 _ _ _) ⟨rfl,by rw [hd];rfl⟩
      ·first|cases hc59|exact absurd hc59 (by decide)|(exfalso;simp_all;done)
theorem znn (s:ByteArray) (hx:zbo (bt s 0).toNat=19):x3 Tryz.prog 227 [.v (.string s)] [.glob 5 276 y9,.glob 6 279 y4] (fun r h'=>h'= [.glob 5 276 y9,.glob 6 279 y4]∧r= .tup [.v (.int .i32 (y5 s).1),iv (y5 s).2]):=by
 refine z6 Tryz.func227 rfl rfl rfl ?_
 refine rn ?_;refine y3 rfl (fun hc16=> ?_) (fun hc16=> ?_)
 ·refine rn ?_;have hd:y5 s=(65533,0):=by
   unfold y5
   rw [if_pos (by simp at hc16;omega)]
  exact zbk rfl rfl (.refl _ _) ⟨rfl,by rw [hd];rfl⟩
 ·have h1:0 < s.size:=by simp at hc16;omega
  refine rn ?_;refine qq rfl rfl (v6 0 rfl rfl (by omega)) ?_
  refine rn ?_;refine qq rfl rfl (u0 rfl rfl (zem _ _) (zel _ _)) ?_
  refine qq rfl rfl (j3 rfl (show _=some (.v (.int .u8 19)) from by rw [zbs (zem s 0) (zel s 0),hx])) ?_
  refine rn ?_;refine y3 rfl (fun hc23=> ?_) (fun hc23=> ?_)
  ·first|cases hc23|exact absurd hc23 (by decide)|(exfalso;simp_all;done)
  ·refine rn ?_;refine qq rfl rfl (u0 rfl rfl (by decide) (by decide)) ?_
   refine rn ?_;refine z7 rfl (x5 rfl fun b9=> ?_)
   refine rn ?_;refine y3 rfl (fun hc45=> ?_) (fun hc45=> ?_)
   ·refine rn ?_;have hd:y5 s=(65533,1):=by
     unfold y5
     rw [if_neg (by omega)]
     simp only [hx]
     rw [if_neg (by decide),if_pos (show (s.size:Int) < (19:Int) % 8 from of_decide_eq_true hc45)]
    exact zbk rfl rfl (.drop1 _ _ _) ⟨rfl,by rw [hd];rfl⟩
   ·have h2:3≤s.size:=by
     have:¬((s.size:Int) < 3):=of_decide_eq_false hc45
     omega
    refine rn ?_;refine qq rfl rfl (v6 1 rfl rfl (by omega)) ?_
    refine rn ?_;refine q9 (fun hg14_4=> ?_) (fun hg14_4=> ?_)
    ·refine rn ?_;refine y3 rfl (fun hc57=> ?_) (fun hc57=> ?_)
     ·refine rn ?_;have hd:y5 s=(65533,1):=by
       unfold y5
       rw [if_neg (by omega)]
       simp only [hx]
       rw [if_neg (by decide),if_neg (show ¬(s.size:Int) < (19:Int) % 8 from of_decide_eq_false hc45),if_pos (show bt s 1 < za4 ((19:Int) / 16).toNat∨za5 ((19:Int) / 16).toNat < bt s 1 from by first|exact .inl (of_decide_eq_true hg14_4)|exact .inr (of_decide_eq_true hc57))]
      exact zbk rfl rfl (.drop1 _ _ _) ⟨rfl,by rw [hd];rfl⟩
     ·first|cases hc57|exact absurd hc57 (by decide)|(exfalso;simp_all;done)
    ·refine rn ?_;refine y3 rfl (fun hc57=> ?_) (fun hc57=> ?_)
     ·refine rn ?_;have hd:y5 s=(65533,1):=by
       unfold y5
       rw [if_neg (by omega)]
       simp only [hx]
       rw [if_neg (by decide),if_neg (show ¬(s.size:Int) < (19:Int) % 8 from of_decide_eq_false hc45),if_pos (show bt s 1 < za4 ((19:Int) / 16).toNat∨za5 ((19:Int) / 16).toNat < bt s 1 from by first|exact .inl (of_decide_eq_true hg14_4)|exact .inr (of_decide_eq_true hc57))]
      exact zbk rfl rfl (.drop1 _ _ _) ⟨rfl,by rw [hd];rfl⟩
     ·refine rn ?_;refine y3 rfl (fun hc59=> ?_) (fun hc59=> ?_)
      ·first|cases hc59|exact absurd hc59 (by decide)|(exfalso;simp_all;done)
      ·refine rn ?_;refine qq rfl rfl (v6 2 rfl rfl (by omega)) ?_
       refine rn ?_;refine q9 (fun hg19_2=> ?_) (fun hg19_2=> ?_)
       ·refine rn ?_;refine y3 rfl (fun hc75=> ?_) (fun hc75=> ?_)
        ·refine rn ?_;have hd:y5 s=(65533,1):=by
          unfold y5
          rw [if_neg (by omega)]
          simp only [hx]
          rw [if_neg (by decide),if_neg (show ¬(s.size:Int) < (19:Int) % 8 from of_decide_eq_false hc45),if_neg (show ¬(bt s 1 < za4 ((19:Int) / 16).toNat∨za5 ((19:Int) / 16).toNat < bt s 1) from fun q=>q.elim (of_decide_eq_false hg14_4) (of_decide_eq_false hc57)),if_neg (by decide),if_pos (show bt s 2 < 128∨191 < bt s 2 from by first|exact .inl (of_decide_eq_true hg19_2)|exact .inr (of_decide_eq_true hc75))]
         exact zbk rfl rfl (.drop1 _ _ _) ⟨rfl,by rw [hd];rfl⟩
        ·first|cases hc75|exact absurd hc75 (by decide)|(exfalso;simp_all;done)
       ·refine rn ?_;refine y3 rfl (fun hc75=> ?_) (fun hc75=> ?_)
        ·refine rn ?_;have hd:y5 s=(65533,1):=by
          unfold y5
          rw [if_neg (by omega)]
          simp only [hx]
          rw [if_neg (by decide),if_neg (show ¬(s.size:Int) < (19:Int) % 8 from of_decide_eq_false hc45),if_neg (show ¬(bt s 1 < za4 ((19:Int) / 16).toNat∨za5 ((19:Int) / 16).toNat < bt s 1) from fun q=>q.elim (of_decide_eq_false hg14_4) (of_decide_eq_false hc57)),if_neg (by decide),if_pos (show bt s 2 < 128∨191 < bt s 2 from by first|exact .inl (of_decide_eq_true hg19_2)|exact .inr (of_decide_eq_true hc75))]
         exact zbk rfl rfl (.drop1 _ _ _) ⟨rfl,by rw [hd];rfl⟩
        ·refine rn ?_;refine y3 rfl (fun hc77=> ?_) (fun hc77=> ?_)
         ·refine rn ?_;have hd:y5 s=(bI .or .i32 (bI .or .i32 (zbw (bt s 0) 15 12) (zbw (bt s 1) 63 6)) (zbw (bt s 2) 63 0),3):=by
           unfold y5
           rw [if_neg (by omega)]
           simp only [hx]
           rw [if_neg (by decide),if_neg (show ¬(s.size:Int) < (19:Int) % 8 from of_decide_eq_false hc45),if_neg (show ¬(bt s 1 < za4 ((19:Int) / 16).toNat∨za5 ((19:Int) / 16).toNat < bt s 1) from fun q=>q.elim (of_decide_eq_false hg14_4) (of_decide_eq_false hc57)),if_neg (by decide),if_neg (show ¬(bt s 2 < 128∨191 < bt s 2) from fun q=>q.elim (of_decide_eq_false hg19_2) (of_decide_eq_false hc75)),if_pos (by decide)]
          exact zbk rfl rfl (.drop1 _ _ _) ⟨rfl,by rw [hd];rfl⟩
         ·first|cases hc77|exact absurd hc77 (by decide)|(exfalso;simp_all;done)
theorem zpn (s:ByteArray) (hx:zbo (bt s 0).toNat=3):x3 Tryz.prog 227 [.v (.string s)] [.glob 5 276 y9,.glob 6 279 y4] (fun r h'=>h'= [.glob 5 276 y9,.glob 6 279 y4]∧r= .tup [.v (.int .i32 (y5 s).1),iv (y5 s).2]):=by
 refine z6 Tryz.func227 rfl rfl rfl ?_
 refine rn ?_;refine y3 rfl (fun hc16=> ?_) (fun hc16=> ?_)
 ·refine rn ?_;have hd:y5 s=(65533,0):=by
   unfold y5
   rw [if_pos (by simp at hc16;omega)]
  exact zbk rfl rfl (.refl _ _) ⟨rfl,by rw [hd];rfl⟩
 ·have h1:0 < s.size:=by simp at hc16;omega
  refine rn ?_;refine qq rfl rfl (v6 0 rfl rfl (by omega)) ?_
  refine rn ?_;refine qq rfl rfl (u0 rfl rfl (zem _ _) (zel _ _)) ?_
  refine qq rfl rfl (j3 rfl (show _=some (.v (.int .u8 3)) from by rw [zbs (zem s 0) (zel s 0),hx])) ?_
  refine rn ?_;refine y3 rfl (fun hc23=> ?_) (fun hc23=> ?_)
  ·first|cases hc23|exact absurd hc23 (by decide)|(exfalso;simp_all;done)
  ·refine rn ?_;refine qq rfl rfl (u0 rfl rfl (by decide) (by decide)) ?_
   refine rn ?_;refine z7 rfl (x5 rfl fun b9=> ?_)
   refine rn ?_;refine y3 rfl (fun hc45=> ?_) (fun hc45=> ?_)
   ·refine rn ?_;have hd:y5 s=(65533,1):=by
     unfold y5
     rw [if_neg (by omega)]
     simp only [hx]
     rw [if_neg (by decide),if_pos (show (s.size:Int) < (3:Int) % 8 from of_decide_eq_true hc45)]
    exact zbk rfl rfl (.drop1 _ _ _) ⟨rfl,by rw [hd];rfl⟩
   ·have h2:3≤s.size:=by
     have:¬((s.size:Int) < 3):=of_decide_eq_false hc45
     omega
    refine rn ?_;refine qq rfl rfl (v6 1 rfl rfl (by omega)) ?_
    refine rn ?_;refine q9 (fun hg14_4=> ?_) (fun hg14_4=> ?_)
    ·refine rn ?_;refine y3 rfl (fun hc57=> ?_) (fun hc57=> ?_)
     ·refine rn ?_;have hd:y5 s=(65533,1):=by
       unfold y5
       rw [if_neg (by omega)]
       simp only [hx]
       rw [if_neg (by decide),if_neg (show ¬(s.size:Int) < (3:Int) % 8 from of_decide_eq_false hc45),if_pos (show bt s 1 < za4 ((3:Int) / 16).toNat∨za5 ((3:Int) / 16).toNat < bt s 1 from by first|exact .inl (of_decide_eq_true hg14_4)|exact .inr (of_decide_eq_true hc57))]
      exact zbk rfl rfl (.drop1 _ _ _) ⟨rfl,by rw [hd];rfl⟩
     ·first|cases hc57|exact absurd hc57 (by decide)|(exfalso;simp_all;done)
    ·refine rn ?_;refine y3 rfl (fun hc57=> ?_) (fun hc57=> ?_)
     ·refine rn ?_;have hd:y5 s=(65533,1):=by
       unfold y5
       rw [if_neg (by omega)]
       simp only [hx]
       rw [if_neg (by decide),if_neg (show ¬(s.size:Int) < (3:Int) % 8 from of_decide_eq_false hc45),if_pos (show bt s 1 < za4 ((3:Int) / 16).toNat∨za5 ((3:Int) / 16).toNat < bt s 1 from by first|exact .inl (of_decide_eq_true hg14_4)|exact .inr (of_decide_eq_true hc57))]
      exact zbk rfl rfl (.drop1 _ _ _) ⟨rfl,by rw [hd];rfl⟩
     ·refine rn ?_;refine y3 rfl (fun hc59=> ?_) (fun hc59=> ?_)
      ·first|cases hc59|exact absurd hc59 (by decide)|(exfalso;simp_all;done)
      ·refine rn ?_;refine qq rfl rfl (v6 2 rfl rfl (by omega)) ?_
       refine rn ?_;refine q9 (fun hg19_2=> ?_) (fun hg19_2=> ?_)
       ·refine rn ?_;refine y3 rfl (fun hc75=> ?_) (fun hc75=> ?_)
        ·refine rn ?_;have hd:y5 s=(65533,1):=by
          unfold y5
          rw [if_neg (by omega)]
          simp only [hx]
          rw [if_neg (by decide),if_neg (show ¬(s.size:Int) < (3:Int) % 8 from of_decide_eq_false hc45),if_neg (show ¬(bt s 1 < za4 ((3:Int) / 16).toNat∨za5 ((3:Int) / 16).toNat < bt s 1) from fun q=>q.elim (of_decide_eq_false hg14_4) (of_decide_eq_false hc57)),if_neg (by decide),if_pos (show bt s 2 < 128∨191 < bt s 2 from by first|exact .inl (of_decide_eq_true hg19_2)|exact .inr (of_decide_eq_true hc75))]
         exact zbk rfl rfl (.drop1 _ _ _) ⟨rfl,by rw [hd];rfl⟩
        ·first|cases hc75|exact absurd hc75 (by decide)|(exfalso;simp_all;done)
       ·refine rn ?_;refine y3 rfl (fun hc75=> ?_) (fun hc75=> ?_)
        ·refine rn ?_;have hd:y5 s=(65533,1):=by
          unfold y5
          rw [if_neg (by omega)]
          simp only [hx]
          rw [if_neg (by decide),if_neg (show ¬(s.size:Int) < (3:Int) % 8 from of_decide_eq_false hc45),if_neg (show ¬(bt s 1 < za4 ((3:Int) / 16).toNat∨za5 ((3:Int) / 16).toNat < bt s 1) from fun q=>q.elim (of_decide_eq_false hg14_4) (of_decide_eq_false hc57)),if_neg (by decide),if_pos (show bt s 2 < 128∨191 < bt s 2 from by first|exact .inl (of_decide_eq_true hg19_2)|exact .inr (of_decide_eq_true hc75))]
         exact zbk rfl rfl (.drop1 _ _ _) ⟨rfl,by rw [hd];rfl⟩
        ·refine rn ?_;refine y3 rfl (fun hc77=> ?_) (fun hc77=> ?_)
         ·refine rn ?_;have hd:y5 s=(bI .or .i32 (bI .or .i32 (zbw (bt s 0) 15 12) (zbw (bt s 1) 63 6)) (zbw (bt s 2) 63 0),3):=by
           unfold y5
           rw [if_neg (by omega)]
           simp only [hx]
           rw [if_neg (by decide),if_neg (show ¬(s.size:Int) < (3:Int) % 8 from of_decide_eq_false hc45),if_neg (show ¬(bt s 1 < za4 ((3:Int) / 16).toNat∨za5 ((3:Int) / 16).toNat < bt s 1) from fun q=>q.elim (of_decide_eq_false hg14_4) (of_decide_eq_false hc57)),if_neg (by decide),if_neg (show ¬(bt s 2 < 128∨191 < bt s 2) from fun q=>q.elim (of_decide_eq_false hg19_2) (of_decide_eq_false hc75)),if_pos (by decide)]
          exact zbk rfl rfl (.drop1 _ _ _) ⟨rfl,by rw [hd];rfl⟩
         ·first|cases hc77|exact absurd hc77 (by decide)|(exfalso;simp_all;done)
theorem znm (s:ByteArray) (hx:zbo (bt s 0).toNat=35):x3 Tryz.prog 227 [.v (.string s)] [.glob 5 276 y9,.glob 6 279 y4] (fun r h'=>h'= [.glob 5 276 y9,.glob 6 279 y4]∧r= .tup [.v (.int .i32 (y5 s).1),iv (y5 s).2]):=by
 refine z6 Tryz.func227 rfl rfl rfl ?_
 refine rn ?_;refine y3 rfl (fun hc16=> ?_) (fun hc16=> ?_)
 ·refine rn ?_;have hd:y5 s=(65533,0):=by
   unfold y5
   rw [if_pos (by simp at hc16;omega)]
  exact zbk rfl rfl (.refl _ _) ⟨rfl,by rw [hd];rfl⟩
 ·have h1:0 < s.size:=by simp at hc16;omega
  refine rn ?_;refine qq rfl rfl (v6 0 rfl rfl (by omega)) ?_
  refine rn ?_;refine qq rfl rfl (u0 rfl rfl (zem _ _) (zel _ _)) ?_
  refine qq rfl rfl (j3 rfl (show _=some (.v (.int .u8 35)) from by rw [zbs (zem s 0) (zel s 0),hx])) ?_
  refine rn ?_;refine y3 rfl (fun hc23=> ?_) (fun hc23=> ?_)
  ·first|cases hc23|exact absurd hc23 (by decide)|(exfalso;simp_all;done)
  ·refine rn ?_;refine qq rfl rfl (u0 rfl rfl (by decide) (by decide)) ?_
   refine rn ?_;refine z7 rfl (x5 rfl fun b9=> ?_)
   refine rn ?_;refine y3 rfl (fun hc45=> ?_) (fun hc45=> ?_)
   ·refine rn ?_;have hd:y5 s=(65533,1):=by
     unfold y5
     rw [if_neg (by omega)]
     simp only [hx]
     rw [if_neg (by decide),if_pos (show (s.size:Int) < (35:Int) % 8 from of_decide_eq_true hc45)]
    exact zbk rfl rfl (.drop1 _ _ _) ⟨rfl,by rw [hd];rfl⟩
   ·have h2:3≤s.size:=by
     have:¬((s.size:Int) < 3):=of_decide_eq_false hc45
     omega
    refine rn ?_;refine qq rfl rfl (v6 1 rfl rfl (by omega)) ?_
    refine rn ?_;refine q9 (fun hg14_4=> ?_) (fun hg14_4=> ?_)
    ·refine rn ?_;refine y3 rfl (fun hc57=> ?_) (fun hc57=> ?_)
     ·refine rn ?_;have hd:y5 s=(65533,1):=by
       unfold y5
       rw [if_neg (by omega)]
       simp only [hx]
       rw [if_neg (by decide),if_neg (show ¬(s.size:Int) < (35:Int) % 8 from of_decide_eq_false hc45),if_pos (show bt s 1 < za4 ((35:Int) / 16).toNat∨za5 ((35:Int) / 16).toNat < bt s 1 from by first|exact .inl (of_decide_eq_true hg14_4)|exact .inr (of_decide_eq_true hc57))]
      exact zbk rfl rfl (.drop1 _ _ _) ⟨rfl,by rw [hd];rfl⟩
     ·first|cases hc57|exact absurd hc57 (by decide)|(exfalso;simp_all;done)
    ·refine rn ?_;refine y3 rfl (fun hc57=> ?_) (fun hc57=> ?_)
     ·refine rn ?_;have hd:y5 s=(65533,1):=by
       unfold y5
       rw [if_neg (by omega)]
       simp only [hx]
       rw [if_neg (by decide),if_neg (show ¬(s.size:Int) < (35:Int) % 8 from of_decide_eq_false hc45),if_pos (show bt s 1 < za4 ((35:Int) / 16).toNat∨za5 ((35:Int) / 16).toNat < bt s 1 from by first|exact .inl (of_decide_eq_true hg14_4)|exact .inr (of_decide_eq_true hc57))]
      exact zbk rfl rfl (.drop1 _ _ _) ⟨rfl,by rw [hd];rfl⟩
     ·refine rn ?_;refine y3 rfl (fun hc59=> ?_) (fun hc59=> ?_)
      ·first|cases hc59|exact absurd hc59 (by decide)|(exfalso;simp_all;done)
      ·refine rn ?_;refine qq rfl rfl (v6 2 rfl rfl (by omega)) ?_
       refine rn ?_;refine q9 (fun hg19_2=> ?_) (fun hg19_2=> ?_)
       ·refine rn ?_;refine y3 rfl (fun hc75=> ?_) (fun hc75=> ?_)
        ·refine rn ?_;have hd:y5 s=(65533,1):=by
          unfold y5
          rw [if_neg (by omega)]
          simp only [hx]
          rw [if_neg (by decide),if_neg (show ¬(s.size:Int) < (35:Int) % 8 from of_decide_eq_false hc45),if_neg (show ¬(bt s 1 < za4 ((35:Int) / 16).toNat∨za5 ((35:Int) / 16).toNat < bt s 1) from fun q=>q.elim (of_decide_eq_false hg14_4) (of_decide_eq_false hc57)),if_neg (by decide),if_pos (show bt s 2 < 128∨191 < bt s 2 from by first|exact .inl (of_decide_eq_true hg19_2)|exact .inr (of_decide_eq_true hc75))]
         exact zbk rfl rfl (.drop1 _ _ _) ⟨rfl,by rw [hd];rfl⟩
        ·first|cases hc75|exact absurd hc75 (by decide)|(exfalso;simp_all;done)
       ·refine rn ?_;refine y3 rfl (fun hc75=> ?_) (fun hc75=> ?_)
        ·refine rn ?_;have hd:y5 s=(65533,1):=by
          unfold y5
          rw [if_neg (by omega)]
          simp only [hx]
          rw [if_neg (by decide),if_neg (show ¬(s.size:Int) < (35:Int) % 8 from of_decide_eq_false hc45),if_neg (show ¬(bt s 1 < za4 ((35:Int) / 16).toNat∨za5 ((35:Int) / 16).toNat < bt s 1) from fun q=>q.elim (of_decide_eq_false hg14_4) (of_decide_eq_false hc57)),if_neg (by decide),if_pos (show bt s 2 < 128∨191 < bt s 2 from by first|exact .inl (of_decide_eq_true hg19_2)|exact .inr (of_decide_eq_true hc75))]
         exact zbk rfl rfl (.drop1 _ _ _) ⟨rfl,by rw [hd];rfl⟩
        ·refine rn ?_;refine y3 rfl (fun hc77=> ?_) (fun hc77=> ?_)
         ·refine rn ?_;have hd:y5 s=(bI .or .i32 (bI .or .i32 (zbw (bt s 0) 15 12) (zbw (bt s 1) 63 6)) (zbw (bt s 2) 63 0),3):=by
           unfold y5
           rw [if_neg (by omega)]
           simp only [hx]
           rw [if_neg (by decide),if_neg (show ¬(s.size:Int) < (35:Int) % 8 from of_decide_eq_false hc45),if_neg (show ¬(bt s 1 < za4 ((35:Int) / 16).toNat∨za5 ((35:Int) / 16).toNat < bt s 1) from fun q=>q.elim (of_decide_eq_false hg14_4) (of_decide_eq_false hc57)),if_neg (by decide),if_neg (show ¬(bt s 2 < 128∨191 < bt s 2) from fun q=>q.elim (of_decide_eq_false hg19_2) (of_decide_eq_false hc75)),if_pos (by decide)]
          exact zbk rfl rfl (.drop1 _ _ _) ⟨rfl,by rw [hd];rfl⟩
         ·first|cases hc77|exact absurd hc77 (by decide)|(exfalso;simp_all;done)
theorem znl (s:ByteArray) (hx:zbo (bt s 0).toNat=52):x3 Tryz.prog 227 [.v (.string s)] [.glob 5 276 y9,.glob 6 279 y4] (fun r h'=>h'= [.glob 5 276 y9,.glob 6 279 y4]∧r= .tup [.v (.int .i32 (y5 s).1),iv (y5 s).2]):=by
 refine z6 Tryz.func227 rfl rfl rfl ?_
 refine rn ?_;refine y3 rfl (fun hc16=> ?_) (fun hc16=> ?_)
 ·refine rn ?_;have hd:y5 s=(65533,0):=by
   unfold y5
   rw [if_pos (by simp at hc16;omega)]
  exact zbk rfl rfl (.refl _ _) ⟨rfl,by rw [hd];rfl⟩
 ·have h1:0 < s.size:=by simp at hc16;omega
  refine rn ?_;refine qq rfl rfl (v6 0 rfl rfl (by omega)) ?_
  refine rn ?_;refine qq rfl rfl (u0 rfl rfl (zem _ _) (zel _ _)) ?_
  refine qq rfl rfl (j3 rfl (show _=some (.v (.int .u8 52)) from by rw [zbs (zem s 0) (zel s 0),hx])) ?_
  refine rn ?_;refine y3 rfl (fun hc23=> ?_) (fun hc23=> ?_)
  ·first|cases hc23|exact absurd hc23 (by decide)|(exfalso;simp_all;done)
  ·refine rn ?_;refine qq rfl rfl (u0 rfl rfl (by decide) (by decide)) ?_
   refine rn ?_;refine z7 rfl (x5 rfl fun b9=> ?_)
   refine rn ?_;refine y3 rfl (fun hc45=> ?_) (fun hc45=> ?_)
   ·refine rn ?_;have hd:y5 s=(65533,1):=by
     unfold y5
     rw [if_neg (by omega)]
     simp only [hx]
     rw [if_neg (by decide),if_pos (show (s.size:Int) < (52:Int) % 8 from of_decide_eq_true hc45)]
    exact zbk rfl rfl (.drop1 _ _ _) ⟨rfl,by rw [hd];rfl⟩
   ·have h2:4≤s.size:=by
     have:¬((s.size:Int) < 4):=of_decide_eq_false hc45
     omega
    refine rn ?_;refine qq rfl rfl (v6 1 rfl rfl (by omega)) ?_
    refine rn ?_;refine q9 (fun hg14_4=> ?_) (fun hg14_4=> ?_)
    ·refine rn ?_;refine y3 rfl (fun hc57=> ?_) (fun hc57=> ?_)
     ·refine rn ?_;have hd:y5 s=(65533,1):=by
       unfold y5
       rw [if_neg (by omega)]
       simp only [hx]
       rw [if_neg (by decide),if_neg (show ¬(s.size:Int) < (52:Int) % 8 from of_decide_eq_false hc45),if_pos (show bt s 1 < za4 ((52:Int) / 16).toNat∨za5 ((52:Int) / 16).toNat < bt s 1 from by first|exact .inl (of_decide_eq_true hg14_4)|exact .inr (of_decide_eq_true hc57))]
      exact zbk rfl rfl (.drop1 _ _ _) ⟨rfl,by rw [hd];rfl⟩
     ·first|cases hc57|exact absurd hc57 (by decide)|(exfalso;simp_all;done)
    ·refine rn ?_;refine y3 rfl (fun hc57=> ?_) (fun hc57=> ?_)
     ·refine rn ?_;have hd:y5 s=(65533,1):=by
       unfold y5
       rw [if_neg (by omega)]
       simp only [hx]
       rw [if_neg (by decide),if_neg (show ¬(s.size:Int) < (52:Int) % 8 from of_decide_eq_false hc45),if_pos (show bt s 1 < za4 ((52:Int) / 16).toNat∨za5 ((52:Int) / 16).toNat < bt s 1 from by first|exact .inl (of_decide_eq_true hg14_4)|exact .inr (of_decide_eq_true hc57))]
      exact zbk rfl rfl (.drop1 _ _ _) ⟨rfl,by rw [hd];rfl⟩
     ·refine rn ?_;refine y3 rfl (fun hc59=> ?_) (fun hc59=> ?_)
      ·first|cases hc59|exact absurd hc59 (by decide)|(exfalso;simp_all;done)
      ·refine rn ?_;refine qq rfl rfl (v6 2 rfl rfl (by omega)) ?_
       refine rn ?_;refine q9 (fun hg19_2=> ?_) (fun hg19_2=> ?_)
       ·refine rn ?_;refine y3 rfl (fun hc75=> ?_) (fun hc75=> ?_)
        ·refine rn ?_;have hd:y5 s=(65533,1):=by
          unfold y5
          rw [if_neg (by omega)]
          simp only [hx]
          rw [if_neg (by decide),if_neg (show ¬(s.size:Int) < (52:Int) % 8 from of_decide_eq_false hc45),if_neg (show ¬(bt s 1 < za4 ((52:Int) / 16).toNat∨za5 ((52:Int) / 16).toNat < bt s 1) from fun q=>q.elim (of_decide_eq_false hg14_4) (of_decide_eq_false hc57)),if_neg (by decide),if_pos (show bt s 2 < 128∨191 < bt s 2 from by first|exact .inl (of_decide_eq_true hg19_2)|exact .inr (of_decide_eq_true hc75))]
         exact zbk rfl rfl (.drop1 _ _ _) ⟨rfl,by rw [hd];rfl⟩
        ·first|cases hc75|exact absurd hc75 (by decide)|(exfalso;simp_all;done)
       ·refine rn ?_;refine y3 rfl (fun hc75=> ?_) (fun hc75=> ?_)
        ·refine rn ?_;have hd:y5 s=(65533,1):=by
          unfold y5
          rw [if_neg (by omega)]
          simp only [hx]
          rw [if_neg (by decide),if_neg (show ¬(s.size:Int) < (52:Int) % 8 from of_decide_eq_false hc45),if_neg (show ¬(bt s 1 < za4 ((52:Int) / 16).toNat∨za5 ((52:Int) / 16).toNat < bt s 1) from fun q=>q.elim (of_decide_eq_false hg14_4) (of_decide_eq_false hc57)),if_neg (by decide),if_pos (show bt s 2 < 128∨191 < bt s 2 from by first|exact .inl (of_decide_eq_true hg19_2)|exact .inr (of_decide_eq_true hc75))]
         exact zbk rfl rfl (.drop1 _ _ _) ⟨rfl,by rw [hd];rfl⟩
        ·refine rn ?_;refine y3 rfl (fun hc77=> ?_) (fun hc77=> ?_)
         ·first|cases hc77|exact absurd hc77 (by decide)|(exfalso;simp_all;done)
         ·refine rn ?_;refine qq rfl rfl (v6 3 rfl rfl (by omega)) ?_
          refine rn ?_;refine q9 (fun hg24_2=> ?_) (fun hg24_2=> ?_)
          ·refine rn ?_;refine y3 rfl (fun hc98=> ?_) (fun hc98=> ?_)
           ·refine rn ?_;have hd:y5 s=(65533,1):=by
             unfold y5
             rw [if_neg (by omega)]
             simp only [hx]
             rw [if_neg (by decide),if_neg (show ¬(s.size:Int) < (52:Int) % 8 from of_decide_eq_false hc45),if_neg (show ¬(bt s 1 < za4 ((52:Int) / 16).toNat∨za5 ((52:Int) / 16).toNat < bt s 1) from fun q=>q.elim (of_decide_eq_false hg14_4) (of_decide_eq_false hc57)),if_neg (by decide),if_neg (show ¬(bt s 2 < 128∨191 < bt s 2) from fun q=>q.elim (of_decide_eq_false hg19_2) (of_decide_eq_false hc75)),if_neg (by decide),if_pos (show bt s 3 < 128∨191 < bt s 3 from by first|exact .inl (of_decide_eq_true hg24_2)|exact .inr (of_decide_eq_true hc98))]
            exact zbk rfl rfl (.drop1 _ _ _) ⟨rfl,by rw [hd];rfl⟩
           ·first|cases hc98|exact absurd hc98 (by decide)|(exfalso;simp_all;done)
          ·refine rn ?_;refine y3 rfl (fun hc98=> ?_) (fun hc98=> ?_)
           ·refine rn ?_;have hd:y5 s=(65533,1):=by
             unfold y5
             rw [if_neg (by omega)]
             simp only [hx]
             rw [if_neg (by decide),if_neg (show ¬(s.size:Int) < (52:Int) % 8 from of_decide_eq_false hc45),if_neg (show ¬(bt s 1 < za4 ((52:Int) / 16).toNat∨za5 ((52:Int) / 16).toNat < bt s 1) from fun q=>q.elim (of_decide_eq_false hg14_4) (of_decide_eq_false hc57)),if_neg (by decide),if_neg (show ¬(bt s 2 < 128∨191 < bt s 2) from fun q=>q.elim (of_decide_eq_false hg19_2) (of_decide_eq_false hc75)),if_neg (by decide),if_pos (show bt s 3 < 128∨191 < bt s 3 from by first|exact .inl (of_decide_eq_true hg24_2)|exact .inr (of_decide_eq_true hc98))]
            exact zbk rfl rfl (.drop1 _ _ _) ⟨rfl,by rw [hd];rfl⟩
           ·refine rn ?_;have hd:y5 s=(bI .or .i32 (bI .or .i32 (bI .or .i32 (zbw (bt s 0) 7 18) (zbw (bt s 1) 63 12)) (zbw (bt s 2) 63 6)) (zbw (bt s 3) 63 0),4):=by
             unfold y5
             rw [if_neg (by omega)]
             simp only [hx]
             rw [if_neg (by decide),if_neg (show ¬(s.size:Int) < (52:Int) % 8 from of_decide_eq_false hc45),if_neg (show ¬(bt s 1 < za4 ((52:Int) / 16).toNat∨za5 ((52:Int) / 16).toNat < bt s 1) from fun q=>q.elim (of_decide_eq_false hg14_4) (of_decide_eq_false hc57)),if_neg (by decide),if_neg (show ¬(bt s 2 < 128∨191 < bt s 2) from fun q=>q.elim (of_decide_eq_false hg19_2) (of_decide_eq_false hc75)),if_neg (by decide),if_neg (show ¬(bt s 3 < 128∨191 < bt s 3) from fun q=>q.elim (of_decide_eq_false hg24_2) (of_decide_eq_false hc98))]
            exact zbk rfl rfl (.drop1 _ _ _) ⟨rfl,by rw [hd];rfl⟩
theorem zpm (s:ByteArray) (hx:zbo (bt s 0).toNat=4):x3 Tryz.prog 227 [.v (.string s)] [.glob 5 276 y9,.glob 6 279 y4] (fun r h'=>h'= [.glob 5 276 y9,.glob 6 279 y4]∧r= .tup [.v (.int .i32 (y5 s).1),iv (y5 s).2]):=by
 refine z6 Tryz.func227 rfl rfl rfl ?_
 refine rn ?_;refine y3 rfl (fun hc16=> ?_) (fun hc16=> ?_)
 ·refine rn ?_;have hd:y5 s=(65533,0):=by
   unfold y5
   rw [if_pos (by simp at hc16;omega)]
  exact zbk rfl rfl (.refl _ _) ⟨rfl,by rw [hd];rfl⟩
 ·have h1:0 < s.size:=by simp at hc16;omega
  refine rn ?_;refine qq rfl rfl (v6 0 rfl rfl (by omega)) ?_
  refine rn ?_;refine qq rfl rfl (u0 rfl rfl (zem _ _) (zel _ _)) ?_
  refine qq rfl rfl (j3 rfl (show _=some (.v (.int .u8 4)) from by rw [zbs (zem s 0) (zel s 0),hx])) ?_
  refine rn ?_;refine y3 rfl (fun hc23=> ?_) (fun hc23=> ?_)
  ·first|cases hc23|exact absurd hc23 (by decide)|(exfalso;simp_all;done)
  ·refine rn ?_;refine qq rfl rfl (u0 rfl rfl (by decide) (by decide)) ?_
   refine rn ?_;refine z7 rfl (x5 rfl fun b9=> ?_)
   refine rn ?_;refine y3 rfl (fun hc45=> ?_) (fun hc45=> ?_)
   ·refine rn ?_;have hd:y5 s=(65533,1):=by
     unfold y5
     rw [if_neg (by omega)]
     simp only [hx]
     rw [if_neg (by decide),if_pos (show (s.size:Int) < (4:Int) % 8 from of_decide_eq_true hc45)]
    exact zbk rfl rfl (.drop1 _ _ _) ⟨rfl,by rw [hd];rfl⟩
   ·have h2:4≤s.size:=by
     have:¬((s.size:Int) < 4):=of_decide_eq_false hc45
     omega
    refine rn ?_;refine qq rfl rfl (v6 1 rfl rfl (by omega)) ?_
    refine rn ?_;refine q9 (fun hg14_4=> ?_) (fun hg14_4=> ?_)
    ·refine rn ?_;refine y3 rfl (fun hc57=> ?_) (fun hc57=> ?_)
     ·refine rn ?_;have hd:y5 s=(65533,1):=by
       unfold y5
       rw [if_neg (by omega)]
       simp only [hx]
       rw [if_neg (by decide),if_neg (show ¬(s.size:Int) < (4:Int) % 8 from of_decide_eq_false hc45),if_pos (show bt s 1 < za4 ((4:Int) / 16).toNat∨za5 ((4:Int) / 16).toNat < bt s 1 from by first|exact .inl (of_decide_eq_true hg14_4)|exact .inr (of_decide_eq_true hc57))]
      exact zbk rfl rfl (.drop1 _ _ _) ⟨rfl,by rw [hd];rfl⟩
     ·first|cases hc57|exact absurd hc57 (by decide)|(exfalso;simp_all;done)
    ·refine rn ?_;refine y3 rfl (fun hc57=> ?_) (fun hc57=> ?_)
     ·refine rn ?_;have hd:y5 s=(65533,1):=by
       unfold y5
       rw [if_neg (by omega)]
       simp only [hx]
       rw [if_neg (by decide),if_neg (show ¬(s.size:Int) < (4:Int) % 8 from of_decide_eq_false hc45),if_pos (show bt s 1 < za4 ((4:Int) / 16).toNat∨za5 ((4:Int) / 16).toNat < bt s 1 from by first|exact .inl (of_decide_eq_true hg14_4)|exact .inr (of_decide_eq_true hc57))]
      exact zbk rfl rfl (.drop1 _ _ _) ⟨rfl,by rw [hd];rfl⟩
     ·refine rn ?_;refine y3 rfl (fun hc59=> ?_) (fun hc59=> ?_)
      ·first|cases hc59|exact absurd hc59 (by decide)|(exfalso;simp_all;done)
      ·refine rn ?_;refine qq rfl rfl (v6 2 rfl rfl (by omega)) ?_
       refine rn ?_;refine q9 (fun hg19_2=> ?_) (fun hg19_2=> ?_)
       ·refine rn ?_;refine y3 rfl (fun hc75=> ?_) (fun hc75=> ?_)
        ·refine rn ?_;have hd:y5 s=(65533,1):=by
          unfold y5
          rw [if_neg (by omega)]
          simp only [hx]
          rw [if_neg (by decide),if_neg (show ¬(s.size:Int) < (4:Int) % 8 from of_decide_eq_false hc45),if_neg (show ¬(bt s 1 < za4 ((4:Int) / 16).toNat∨za5 ((4:Int) / 16).toNat < bt s 1) from fun q=>q.elim (of_decide_eq_false hg14_4) (of_decide_eq_false hc57)),if_neg (by decide),if_pos (show bt s 2 < 128∨191 < bt s 2 from by first|exact .inl (of_decide_eq_true hg19_2)|exact .inr (of_decide_eq_true hc75))]
         exact zbk rfl rfl (.drop1 _ _ _) ⟨rfl,by rw [hd];rfl⟩
        ·first|cases hc75|exact absurd hc75 (by decide)|(exfalso;simp_all;done)
       ·refine rn ?_;refine y3 rfl (fun hc75=> ?_) (fun hc75=> ?_)
        ·refine rn ?_;have hd:y5 s=(65533,1):=by
          unfold y5
          rw [if_neg (by omega)]
          simp only [hx]
          rw [if_neg (by decide),if_neg (show ¬(s.size:Int) < (4:Int) % 8 from of_decide_eq_false hc45),if_neg (show ¬(bt s 1 < za4 ((4:Int) / 16).toNat∨za5 ((4:Int) / 16).toNat < bt s 1) from fun q=>q.elim (of_decide_eq_false hg14_4) (of_decide_eq_false hc57)),if_neg (by decide),if_pos (show bt s 2 < 128∨191 < bt s 2 from by first|exact .inl (of_decide_eq_true hg19_2)|exact .inr (of_decide_eq_true hc75))]
         exact zbk rfl rfl (.drop1 _ _ _) ⟨rfl,by rw [hd];rfl⟩
        ·refine rn ?_;refine y3 rfl (fun hc77=> ?_) (fun hc77=> ?_)
         ·first|cases hc77|exact absurd hc77 (by decide)|(exfalso;simp_all;done)
         ·refine rn ?_;refine qq rfl rfl (v6 3 rfl rfl (by omega)) ?_
          refine rn ?_;refine q9 (fun hg24_2=> ?_) (fun hg24_2=> ?_)
          ·refine rn ?_;refine y3 rfl (fun hc98=> ?_) (fun hc98=> ?_)
           ·refine rn ?_;have hd:y5 s=(65533,1):=by
             unfold y5
             rw [if_neg (by omega)]
             simp only [hx]
             rw [if_neg (by decide),if_neg (show ¬(s.size:Int) < (4:Int) % 8 from of_decide_eq_false hc45),if_neg (show ¬(bt s 1 < za4 ((4:Int) / 16).toNat∨za5 ((4:Int) / 16).toNat < bt s 1) from fun q=>q.elim (of_decide_eq_false hg14_4) (of_decide_eq_false hc57)),if_neg (by decide),if_neg (show ¬(bt s 2 < 128∨191 < bt s 2) from fun q=>q.elim (of_decide_eq_false hg19_2) (of_decide_eq_false hc75)),if_neg (by decide),if_pos (show bt s 3 < 128∨191 < bt s 3 from by first|exact .inl (of_decide_eq_true hg24_2)|exact .inr (of_decide_eq_true hc98))]
            exact zbk rfl rfl (.drop1 _ _ _) ⟨rfl,by rw [hd];rfl⟩
           ·first|cases hc98|exact absurd hc98 (by decide)|(exfalso;simp_all;done)
          ·refine rn ?_;refine y3 rfl (fun hc98=> ?_) (fun hc98=> ?_)
           ·refine rn ?_;have hd:y5 s=(65533,1):=by
             unfold y5
             rw [if_neg (by omega)]
             simp only [hx]
             rw [if_neg (by decide),if_neg (show ¬(s.size:Int) < (4:Int) % 8 from of_decide_eq_false hc45),if_neg (show ¬(bt s 1 < za4 ((4:Int) / 16).toNat∨za5 ((4:Int) / 16).toNat < bt s 1) from fun q=>q.elim (of_decide_eq_false hg14_4) (of_decide_eq_false hc57)),if_neg (by decide),if_neg (show ¬(bt s 2 < 128∨191 < bt s 2) from fun q=>q.elim (of_decide_eq_false hg19_2) (of_decide_eq_false hc75)),if_neg (by decide),if_pos (show bt s 3 < 128∨191 < bt s 3 from by first|exact .inl (of_decide_eq_true hg24_2)|exact .inr (of_decide_eq_true hc98))]
            exact zbk rfl rfl (.drop1 _ _ _) ⟨rfl,by rw [hd];rfl⟩
           ·refine rn ?_;have hd:y5 s=(bI .or .i32 (bI .or .i32 (bI .or .i32 (zbw (bt s 0) 7 18) (zbw (bt s 1) 63 12)) (zbw (bt s 2) 63 6)) (zbw (bt s 3) 63 0),4):=by
             unfold y5
             rw [if_neg (by omega)]
             simp only [hx]
             rw [if_neg (by decide),if_neg (show ¬(s.size:Int) < (4:Int) % 8 from of_decide_eq_false hc45),if_neg (show ¬(bt s 1 < za4 ((4:Int) / 16).toNat∨za5 ((4:Int) / 16).toNat < bt s 1) from fun q=>q.elim (of_decide_eq_false hg14_4) (of_decide_eq_false hc57)),if_neg (by decide),if_neg (show ¬(bt s 2 < 128∨191 < bt s 2) from fun q=>q.elim (of_decide_eq_false hg19_2) (of_decide_eq_false hc75)),if_neg (by decide),if_neg (show ¬(bt s 3 < 128∨191 < bt s 3) from fun q=>q.elim (of_decide_eq_false hg24_2) (of_decide_eq_false hc98))]
            exact zbk rfl rfl (.drop1 _ _ _) ⟨rfl,by rw [hd];rfl⟩
theorem znk (s:ByteArray) (hx:zbo (bt s 0).toNat=68):x3 Tryz.prog 227 [.v (.string s)] [.glob 5 276 y9,.glob 6 279 y4] (fun r h'=>h'= [.glob 5 276 y9,.glob 6 279 y4]∧r= .tup [.v (.int .i32 (y5 s).1),iv (y5 s).2]):=by
 refine z6 Tryz.func227 rfl rfl rfl ?_
 refine rn ?_;refine y3 rfl (fun hc16=> ?_) (fun hc16=> ?_)
 ·refine rn ?_;have hd:y5 s=(65533,0):=by
   unfold y5
   rw [if_pos (by simp at hc16;omega)]
  exact zbk rfl rfl (.refl _ _) ⟨rfl,by rw [hd];rfl⟩
 ·have h1:0 < s.size:=by simp at hc16;omega
  refine rn ?_;refine qq rfl rfl (v6 0 rfl rfl (by omega)) ?_
  refine rn ?_;refine qq rfl rfl (u0 rfl rfl (zem _ _) (zel _ _)) ?_
  refine qq rfl rfl (j3 rfl (show _=some (.v (.int .u8 68)) from by rw [zbs (zem s 0) (zel s 0),hx])) ?_
  refine rn ?_;refine y3 rfl (fun hc23=> ?_) (fun hc23=> ?_)
  ·first|cases hc23|exact absurd hc23 (by decide)|(exfalso;simp_all;done)
  ·refine rn ?_;refine qq rfl rfl (u0 rfl rfl (by decide) (by decide)) ?_
   refine rn ?_;refine z7 rfl (x5 rfl fun b9=> ?_)
   refine rn ?_;refine y3 rfl (fun hc45=> ?_) (fun hc45=> ?_)
   ·refine rn ?_;have hd:y5 s=(65533,1):=by
     unfold y5
     rw [if_neg (by omega)]
     simp only [hx]
     rw [if_neg (by decide),if_pos (show (s.size:Int) < (68:Int) % 8 from of_decide_eq_true hc45)]
    exact zbk rfl rfl (.drop1 _ _ _) ⟨rfl,by rw [hd];rfl⟩
   ·have h2:4≤s.size:=by
     have:¬((s.size:Int) < 4):=of_decide_eq_false hc45
     omega
    refine rn ?_;refine qq rfl rfl (v6 1 rfl rfl (by omega)) ?_
    refine rn ?_;refine q9 (fun hg14_4=> ?_) (fun hg14_4=> ?_)
    ·refine rn ?_;refine y3 rfl (fun hc57=> ?_) (fun hc57=> ?_)
     ·refine rn ?_;have hd:y5 s=(65533,1):=by
       unfold y5
       rw [if_neg (by omega)]
       simp only [hx]
       rw [if_neg (by decide),if_neg (show ¬(s.size:Int) < (68:Int) % 8 from of_decide_eq_false hc45),if_pos (show bt s 1 < za4 ((68:Int) / 16).toNat∨za5 ((68:Int) / 16).toNat < bt s 1 from by first|exact .inl (of_decide_eq_true hg14_4)|exact .inr (of_decide_eq_true hc57))]
      exact zbk rfl rfl (.drop1 _ _ _) ⟨rfl,by rw [hd];rfl⟩
     ·first|cases hc57|exact absurd hc57 (by decide)|(exfalso;simp_all;done)
    ·refine rn ?_;refine y3 rfl (fun hc57=> ?_) (fun hc57=> ?_)
     ·refine rn ?_;have hd:y5 s=(65533,1):=by
       unfold y5
       rw [if_neg (by omega)]
       simp only [hx]
       rw [if_neg (by decide),if_neg (show ¬(s.size:Int) < (68:Int) % 8 from of_decide_eq_false hc45),if_pos (show bt s 1 < za4 ((68:Int) / 16).toNat∨za5 ((68:Int) / 16).toNat < bt s 1 from by first|exact .inl (of_decide_eq_true hg14_4)|exact .inr (of_decide_eq_true hc57))]
      exact zbk rfl rfl (.drop1 _ _ _) ⟨rfl,by rw [hd];rfl⟩
     ·refine rn ?_;refine y3 rfl (fun hc59=> ?_) (fun hc59=> ?_)
      ·first|cases hc59|exact absurd hc59 (by decide)|(exfalso;simp_all;done)
      ·refine rn ?_;refine qq rfl rfl (v6 2 rfl rfl (by omega)) ?_
       refine rn ?_;refine q9 (fun hg19_2=> ?_) (fun hg19_2=> ?_)
       ·refine rn ?_;refine y3 rfl (fun hc75=> ?_) (fun hc75=> ?_)
        ·refine rn ?_;have hd:y5 s=(65533,1):=by
          unfold y5
          rw [if_neg (by omega)]
          simp only [hx]
          rw [if_neg (by decide),if_neg (show ¬(s.size:Int) < (68:Int) % 8 from of_decide_eq_false hc45),if_neg (show ¬(bt s 1 < za4 ((68:Int) / 16).toNat∨za5 ((68:Int) / 16).toNat < bt s 1) from fun q=>q.elim (of_decide_eq_false hg14_4) (of_decide_eq_false hc57)),if_neg (by decide),if_pos (show bt s 2 < 128∨191 < bt s 2 from by first|exact .inl (of_decide_eq_true hg19_2)|exact .inr (of_decide_eq_true hc75))]
         exact zbk rfl rfl (.drop1 _ _ _) ⟨rfl,by rw [hd];rfl⟩
        ·first|cases hc75|exact absurd hc75 (by decide)|(exfalso;simp_all;done)
       ·refine rn ?_;refine y3 rfl (fun hc75=> ?_) (fun hc75=> ?_)
        ·refine rn ?_;have hd:y5 s=(65533,1):=by
          unfold y5
          rw [if_neg (by omega)]
          simp only [hx]
          rw [if_neg (by decide),if_neg (show ¬(s.size:Int) < (68:Int) % 8 from of_decide_eq_false hc45),if_neg (show ¬(bt s 1 < za4 ((68:Int) / 16).toNat∨za5 ((68:Int) / 16).toNat < bt s 1) from fun q=>q.elim (of_decide_eq_false hg14_4) (of_decide_eq_false hc57)),if_neg (by decide),if_pos (show bt s 2 < 128∨191 < bt s 2 from by first|exact .inl (of_decide_eq_true hg19_2)|exact .inr (of_decide_eq_true hc75))]
         exact zbk rfl rfl (.drop1 _ _ _) ⟨rfl,by rw [hd];rfl⟩
        ·refine rn ?_;refine y3 rfl (fun hc77=> ?_) (fun hc77=> ?_)
         ·first|cases hc77|exact absurd hc77 (by decide)|(exfalso;simp_all;done)
         ·refine rn ?_;refine qq rfl rfl (v6 3 rfl rfl (by omega)) ?_
          refine rn ?_;refine q9 (fun hg24_2=> ?_) (fun hg24_2=> ?_)
          ·refine rn ?_;refine y3 rfl (fun hc98=> ?_) (fun hc98=> ?_)
           ·refine rn ?_;have hd:y5 s=(65533,1):=by
             unfold y5
             rw [if_neg (by omega)]
             simp only [hx]
             rw [if_neg (by decide),if_neg (show ¬(s.size:Int) < (68:Int) % 8 from of_decide_eq_false hc45),if_neg (show ¬(bt s 1 < za4 ((68:Int) / 16).toNat∨za5 ((68:Int) / 16).toNat < bt s 1) from fun q=>q.elim (of_decide_eq_false hg14_4) (of_decide_eq_false hc57)),if_neg (by decide),if_neg (show ¬(bt s 2 < 128∨191 < bt s 2) from fun q=>q.elim (of_decide_eq_false hg19_2) (of_decide_eq_false hc75)),if_neg (by decide),if_pos (show bt s 3 < 128∨191 < bt s 3 from by first|exact .inl (of_decide_eq_true hg24_2)|exact .inr (of_decide_eq_true hc98))]
            exact zbk rfl rfl (.drop1 _ _ _) ⟨rfl,by rw [hd];rfl⟩
           ·first|cases hc98|exact absurd hc98 (by decide)|(exfalso;simp_all;done)
          ·refine rn ?_;refine y3 rfl (fun hc98=> ?_) (fun hc98=> ?_)
           ·refine rn ?_;have hd:y5 s=(65533,1):=by
             unfold y5
             rw [if_neg (by omega)]
             simp only [hx]
             rw [if_neg (by decide),if_neg (show ¬(s.size:Int) < (68:Int) % 8 from of_decide_eq_false hc45),if_neg (show ¬(bt s 1 < za4 ((68:Int) / 16).toNat∨za5 ((68:Int) / 16).toNat < bt s 1) from fun q=>q.elim (of_decide_eq_false hg14_4) (of_decide_eq_false hc57)),if_neg (by decide),if_neg (show ¬(bt s 2 < 128∨191 < bt s 2) from fun q=>q.elim (of_decide_eq_false hg19_2) (of_decide_eq_false hc75)),if_neg (by decide),if_pos (show bt s 3 < 128∨191 < bt s 3 from by first|exact .inl (of_decide_eq_true hg24_2)|exact .inr (of_decide_eq_true hc98))]
            exact zbk rfl rfl (.drop1 _ _ _) ⟨rfl,by rw [hd];rfl⟩
           ·refine rn ?_;have hd:y5 s=(bI .or .i32 (bI .or .i32 (bI .or .i32 (zbw (bt s 0) 7 18) (zbw (bt s 1) 63 12)) (zbw (bt s 2) 63 6)) (zbw (bt s 3) 63 0),4):=by
             unfold y5
             rw [if_neg (by omega)]
             simp only [hx]
             rw [if_neg (by decide),if_neg (show ¬(s.size:Int) < (68:Int) % 8 from of_decide_eq_false hc45),if_neg (show ¬(bt s 1 < za4 ((68:Int) / 16).toNat∨za5 ((68:Int) / 16).toNat < bt s 1) from fun q=>q.elim (of_decide_eq_false hg14_4) (of_decide_eq_false hc57)),if_neg (by decide),if_neg (show ¬(bt s 2 < 128∨191 < bt s 2) from fun q=>q.elim (of_decide_eq_false hg19_2) (of_decide_eq_false hc75)),if_neg (by decide),if_neg (show ¬(bt s 3 < 128∨191 < bt s 3) from fun q=>q.elim (of_decide_eq_false hg24_2) (of_decide_eq_false hc98))]
            exact zbk rfl rfl (.drop1 _ _ _) ⟨rfl,by rw [hd];rfl⟩
theorem zku (s:ByteArray):x3 Tryz.prog 227 [.v (.string s)] [.glob 5 276 y9,.glob 6 279 y4] (fun r h'=>h'= [.glob 5 276 y9,.glob 6 279 y4]∧r= .tup [.v (.int .i32 (y5 s).1),iv (y5 s).2]):=by
 rcases zne (bt s 0).toNat with hx|hx|hx|hx|hx|hx|hx|hx|hx
 ·exact zl2 s hx
 ·exact zl1 s hx
 ·exact zpo s hx
 ·exact znn s hx
 ·exact zpn s hx
 ·exact znm s hx
 ·exact znl s hx
 ·exact zpm s hx
 ·exact znk s hx
theorem zr8 (s:ByteArray):x3 Tryz.prog 221 [.v (.string s)] [.glob 5 276 y9,.glob 6 279 y4] (fun r h'=>h'= [.glob 5 276 y9,.glob 6 279 y4]∧r= .tup [.v (.int .i32 (zgz s).1),iv (zgz s).2]):=by
 refine z6 Tryz.func221 rfl rfl rfl ?_
 refine rn ?_;refine q9 (fun hg1_2=> ?_) (fun hg1_2=> ?_)
 ·refine rn ?_;have h1:0 < s.size:=zsr hg1_2
  refine qq rfl rfl (v6 0 rfl rfl (by omega)) ?_
  refine rn ?_;refine y3 rfl (fun hc10=> ?_) (fun hc10=> ?_)
  ·refine rn ?_;refine qq rfl rfl (v6 0 rfl rfl (by omega)) ?_
   refine rn ?_;have hd:zgz s=(bt s 0,1):=by
    unfold zgz
    exact if_pos ⟨zsr hg1_2,of_decide_eq_true hc10⟩
   exact zbk rfl rfl (.refl _ _) ⟨rfl,by rw [hd];exact congrArg (fun c=>AV.tup [.v (.int .i32 c),iv 1]) (zu7 s 0)⟩
  ·refine rn ?_;refine qv rfl rfl (y6 rfl rfl (z8.of_fun (zku s))) ?_
   refine rn ?_;have hd:zgz s=y5 s:=by
    unfold zgz
    exact if_neg fun q=>by first|exact zyx hg1_2 q.1|exact absurd q.2 (of_decide_eq_false hc10)
   exact zbk rfl rfl (.refl _ _) ⟨rfl,by rw [hd];rfl⟩
 ·refine rn ?_;refine zpq rfl ?_;refine rn ?_;refine qv rfl rfl (y6 rfl rfl (z8.of_fun (zku s))) ?_
  refine rn ?_;have hd:zgz s=y5 s:=by
   unfold zgz
   exact if_neg fun q=>by first|exact zyx hg1_2 q.1|exact absurd q.2 (of_decide_eq_false hc10)
  exact zbk rfl rfl (.refl _ _) ⟨rfl,by rw [hd];rfl⟩
theorem zuu {f g:Bool} (l m:List Seen) (hl:l.length≤4611686018427387904) (hm:m.length≤4611686018427387904):x3 Tryz.prog 129 [.list f 3 (l.map zbm),.list g 3 (m.map zbm)] [] (fun r h'=>h'= []∧r=bv (eqF zho l m)):=by
 refine z6 Tryz.func129 rfl rfl rfl ?_
 refine rn ?_;refine y3 rfl (fun hc10=> ?_) (fun hc10=> ?_)
 ·refine rn ?_;have hne:(l.length==m.length)=false:=beq_eq_false_iff_ne.2 fun q=>by simp [q] at hc10
  exact zab rfl (.refl _ _) ⟨rfl,by rw [eqF,hne,Bool.false_and];rfl⟩
 ·have hlm:l.length=m.length:=by simp at hc10;omega
  refine rn ?_;refine j9 (fun k:Nat=>k≤l.length∧zv9 zho l m=zv9 zho (l.drop k) (m.drop k)) (fun k=>⟨[(13,iv k),(12,iv (l.map zbm).length),(0,.list f 3 (l.map zbm)),(1,.list g 3 (m.map zbm))],[],[]⟩) (fun k=>l.length - k) 0 ⟨Nat.zero_le _,by simp⟩
   (w8 (.cons _ _ _ rfl (.cons _ _ _ rfl (.cons _ _ _ rfl (.cons _ _ _ rfl (.nil)))))) ?_
  rintro k ⟨hk,hz⟩
  refine rn ?_;refine y3 rfl (fun hc14=> ?_) (fun hc14=> ?_)
  ·have hk2:k < l.length:=by simpa using hc14
   have hk3:k < m.length:=by omega
   have hrow1:(l.map zbm)[k]? =some (zbm l[k]):=by simp [hk2]
   have hrow2:(m.map zbm)[k]? =some (zbm m[k]):=by simp [hk3]
   have hd1:=List.drop_eq_getElem_cons hk2
   have hd2:=List.drop_eq_getElem_cons hk3
   refine rn ?_;refine j5 8 rfl ?_
   refine rn ?_;refine y3 rfl (fun hc24=> ?_) (fun hc24=> ?_)
   ·refine rn ?_;exact zab rfl (.refl _ _) ⟨rfl,by rw [eqF,hz,hd1,hd2,zv9,show zho l[k] m[k]=false from zxc hc24,Bool.false_and,Bool.and_false];rfl⟩
   ·refine rn ?_;exact ⟨k+1,⟨by omega,by rw [hz,hd1,hd2,zv9,show zho l[k] m[k]=true from zxd hc24,Bool.true_and]⟩,(w8 (.cons _ _ _ rfl (.cons _ _ _ rfl (.cons _ _ _ rfl (.cons _ _ _ rfl (.nil)))))),by omega⟩
  ·have hk3:k=l.length:=by
    have:l.length≤k:=by simpa using hc14
    omega
   refine rn ?_;exact zab rfl (.refl _ _) ⟨rfl,by rw [eqF,hz,hk3,List.drop_length,zv8,hlm,beq_self_eq_true];rfl⟩
theorem zrz (l:Int):x3 Tryz.prog 176 [iv l] [] (fun r h'=>h'= []∧r=iv (ye2 l)):=by
 refine z6 Tryz.func176 rfl rfl rfl ?_
 refine rn ?_;refine q9 (fun hg1_2=> ?_) (fun hg1_2=> ?_)
 ·refine rn ?_;refine zvg rfl ?_;refine rn ?_;exact zab rfl (.refl _ _) ⟨rfl,congrArg iv (by simp_all [ye2])⟩
 ·refine rn ?_;refine y3 rfl (fun hc8=> ?_) (fun hc8=> ?_)
  ·refine rn ?_;exact zab rfl (.refl _ _) ⟨rfl,congrArg iv (by simp_all [ye2])⟩
  ·refine rn ?_;exact zab rfl (.refl _ _) ⟨rfl,congrArg iv (by simp_all [ye2])⟩
theorem zm6 (c:Int):x3 Tryz.prog 168 [.v (.int .i32 c)] [] (fun r h'=>h'= []∧r=bv (ztv c)):=by
 refine z6 Tryz.func168 rfl rfl rfl ?_
 refine rn ?_;refine q9 (fun hg1_2=> ?_) (fun hg1_2=> ?_)
 ·refine rn ?_;exact zab rfl (.refl _ _) ⟨rfl,congrArg bv (by first|(simp only [ztv, *,Bool.true_and,Bool.false_and,Bool.and_false,Bool.and_true,Bool.true_or,Bool.or_false,Bool.false_or,Bool.or_true,if_true,if_false,Bool.false_eq_true,Bool.not_true,Bool.not_false];done)|(simp_all [ztv];done)|(simp_all [ztv] <;> omega))⟩
 ·refine rn ?_;exact zab rfl (.refl _ _) ⟨rfl,congrArg bv (by first|(simp only [ztv, *,Bool.true_and,Bool.false_and,Bool.and_false,Bool.and_true,Bool.true_or,Bool.or_false,Bool.false_or,Bool.or_true,if_true,if_false,Bool.false_eq_true,Bool.not_true,Bool.not_false];done)|(simp_all [ztv];done)|(simp_all [ztv] <;> omega))⟩
theorem bvz0_8947 {a b:Bool} (h:a=b:=by first|(simp only [ybt, *,Bool.true_and,Bool.false_and,Bool.and_false,Bool.and_true,Bool.true_or,Bool.or_false,Bool.false_or,Bool.or_true,if_true,if_false,Bool.false_eq_true,Bool.not_true,Bool.not_false];done)|(simp_all [ybt];done)|(simp_all [ybt] <;> omega)):bv a=bv b:=congrArg bv h
theorem zt8 (c:Int):x3 Tryz.prog 201 [.v (.int .i32 c)] [] (fun r h'=>h'= []∧r=bv (ybt c)):=by
 refine z6 Tryz.func201 rfl rfl rfl ?_
 refine rn ?_;refine q9 (fun hg1_2=> ?_) (fun hg1_2=> ?_)
 ·refine rn ?_;exact zab rfl (.refl _ _) ⟨rfl,bvz0_8947⟩
 ·refine rn ?_;refine q9 (fun hg1_5=> ?_) (fun hg1_5=> ?_)
  ·refine rn ?_;refine q9 (fun hg1_10=> ?_) (fun hg1_10=> ?_)
   ·refine rn ?_;exact zab rfl (.refl _ _) ⟨rfl,bvz0_8947⟩
   ·refine rn ?_;refine q9 (fun hg1_13=> ?_) (fun hg1_13=> ?_)
    ·refine rn ?_;refine q9 (fun hg1_18=> ?_) (fun hg1_18=> ?_)
     ·refine rn ?_;exact zab rfl (.refl _ _) ⟨rfl,bvz0_8947⟩
     ·refine rn ?_;exact zab rfl (.refl _ _) ⟨rfl,bvz0_8947⟩
    ·refine rn ?_;exact zab rfl (.refl _ _) ⟨rfl,bvz0_8947⟩
  ·refine rn ?_;refine q9 (fun hg1_13=> ?_) (fun hg1_13=> ?_)
   ·refine rn ?_;refine q9 (fun hg1_18=> ?_) (fun hg1_18=> ?_)
    ·refine rn ?_;exact zab rfl (.refl _ _) ⟨rfl,bvz0_8947⟩
    ·refine rn ?_;exact zab rfl (.refl _ _) ⟨rfl,bvz0_8947⟩
   ·refine rn ?_;exact zab rfl (.refl _ _) ⟨rfl,bvz0_8947⟩
theorem zt9 (c:Int):x3 Tryz.prog 170 [.v (.int .i32 c)] [] (fun r h'=>h'= []∧r=bv (ybt c||ztv c)):=by
 refine z6 Tryz.func170 rfl rfl rfl ?_
 refine rn ?_;refine qv rfl rfl (y6 rfl rfl (zbr (zt8 _) (Sbs.refl _))) ?_
 refine rn ?_;refine q9 (fun hg1_2=> ?_) (fun hg1_2=> ?_)
 ·refine rn ?_;exact zab rfl (.refl _ _) ⟨rfl,congrArg bv (by first|(simp only [*,Bool.true_and,Bool.false_and,Bool.and_false,Bool.and_true,Bool.true_or,Bool.or_false,Bool.false_or,Bool.or_true,if_true,if_false,Bool.false_eq_true,Bool.not_true,Bool.not_false];done)|(simp_all;done)|(simp_all <;> omega))⟩
 ·refine rn ?_;refine qv rfl rfl (y6 rfl rfl (zbr (zm6 _) (Sbs.refl _))) ?_
  refine rn ?_;exact zab rfl (.refl _ _) ⟨rfl,congrArg bv (by first|(simp only [*,Bool.true_and,Bool.false_and,Bool.and_false,Bool.and_true,Bool.true_or,Bool.or_false,Bool.false_or,Bool.or_true,if_true,if_false,Bool.false_eq_true,Bool.not_true,Bool.not_false];done)|(simp_all;done)|(simp_all <;> omega))⟩
theorem ybh (h:Hist):x3 Tryz.prog 93 [.agg (x6 h)] [] (fun r h'=>h'= []∧r= .agg (zhr h)):=by
 refine z6 Tryz.func93 rfl rfl rfl ?_
 refine rn ?_;refine z7 rfl (x9 rfl rfl rfl fun b1=> ?_)
 refine z7 rfl (x5 rfl fun b2=> ?_)
 refine rn ?_;exact zfr (.cons _ _ _ _ (.agg _ _ _ _ _ _ _ rfl inferInstance inferInstance inferInstance rfl) .nil) (.drop [_,_] _ _) ⟨rfl,rfl⟩
theorem zsg (h:Hist) (sort:Nat) (n:Int) (l:List ByteArray) (hs:(zhr h)[sort]? =some (zbl l)) (hs4:sort < 4):x3 Tryz.prog 134 [.agg (x6 h),iv sort,iv n] [] (fun r h'=>h'= []∧r=bv (zc5 l n)):=by
 refine z6 Tryz.func134 rfl rfl rfl ?_
 refine rn ?_;refine z7 rfl (x9 rfl rfl rfl fun b3=> ?_)
 refine rn ?_;refine q9 (fun hg1_2=> ?_) (fun hg1_2=> ?_)
 ·refine rn ?_;refine qv rfl rfl (y6 rfl rfl (zbr (ybh _) (Sbs.refl _))) ?_
  refine q1 ?_;refine qq rfl rfl (zb1 rfl rfl (by omega) (by simpa using hs)) ?_
  refine rn ?_;exact zab rfl (.drop1 _ _ _) ⟨rfl,congrArg bv (by first|(simp only [zc5, *,Bool.true_and,Bool.false_and,Bool.and_false,Bool.and_true,Bool.true_or,Bool.or_false,Bool.false_or,Bool.or_true,if_true,if_false,Bool.false_eq_true,Bool.not_true,Bool.not_false];done)|(simp_all [zc5];done)|(simp_all [zc5] <;> omega))⟩
 ·refine rn ?_;exact zab rfl (.drop1 _ _ _) ⟨rfl,congrArg bv (by first|(simp only [zc5, *,Bool.true_and,Bool.false_and,Bool.and_false,Bool.and_true,Bool.true_or,Bool.or_false,Bool.false_or,Bool.or_true,if_true,if_false,Bool.false_eq_true,Bool.not_true,Bool.not_false];done)|(simp_all [zc5];done)|(simp_all [zc5] <;> omega))⟩
theorem bvz1_679 {a b:Bool} (h:a=b:=by first|(simp only [zso, *,Bool.true_and,Bool.false_and,Bool.and_false,Bool.and_true,Bool.true_or,Bool.or_false,Bool.false_or,Bool.or_true,if_true,if_false,Bool.false_eq_true,Bool.not_true,Bool.not_false];done)|(simp_all [zso];done)|(simp_all [zso] <;> omega)):bv a=bv b:=congrArg bv h
theorem zn7 (h:Hist) (v:Ver):x3 Tryz.prog 178 [.agg (x6 h),.agg (ydb v)] [] (fun r h'=>h'= []∧r=bv (zso h.ts v)):=by
 refine z6 Tryz.func178 rfl rfl rfl ?_
 refine rn ?_;refine z7 rfl (x9 rfl rfl rfl fun b2=> ?_)
 refine z7 rfl (x9 rfl rfl rfl fun b3=> ?_)
 refine rn ?_;refine y3 rfl (fun hc7=> ?_) (fun hc7=> ?_)
 ·refine rn ?_;exact zab rfl (.drop [_,_] _ _) ⟨rfl,bvz1_679⟩
 ·refine rn ?_;refine qv rfl rfl (y6 rfl rfl (zbr (zsg _ 0 _ _ rfl (by decide)) (Sbs.refl _))) ?_
  refine rn ?_;refine q9 (fun hg3_4=> ?_) (fun hg3_4=> ?_)
  ·refine rn ?_;refine q9 (fun hg3_9=> ?_) (fun hg3_9=> ?_)
   ·refine rn ?_;exact zab rfl (.drop [_,_] _ _) ⟨rfl,bvz1_679⟩
   ·refine rn ?_;exact zab rfl (.drop [_,_] _ _) ⟨rfl,bvz1_679⟩
  ·refine rn ?_;exact zab rfl (.drop [_,_] _ _) ⟨rfl,bvz1_679⟩
theorem bvz2_984 {a b:Bool} (h:a=b:=by first|(simp only [ycf, *,Bool.true_and,Bool.false_and,Bool.and_false,Bool.and_true,Bool.true_or,Bool.or_false,Bool.false_or,Bool.or_true,if_true,if_false,Bool.false_eq_true,Bool.not_true,Bool.not_false];done)|(simp_all [ycf];done)|(simp_all [ycf] <;> omega)):bv a=bv b:=congrArg bv h
theorem zs9 (a b:Ev) (ha:a.scan.length≤4611686018427387904) (hb:b.scan.length≤4611686018427387904):x3 Tryz.prog 101 [.agg (evR a),.agg (evR b)] [] (fun r h'=>h'= []∧r=bv (ycf a b)):=by
 refine z6 Tryz.func101 rfl rfl rfl ?_
 refine rn ?_;refine z7 rfl (x9 rfl rfl rfl fun b2=> ?_)
 refine z7 rfl (x9 rfl rfl rfl fun b3=> ?_)
 refine rn ?_;refine q9 (fun hg1_5=> ?_) (fun hg1_5=> ?_)
 ·refine rn ?_;refine q9 (fun hg1_12=> ?_) (fun hg1_12=> ?_)
  ·refine rn ?_;refine q9 (fun hg1_19=> ?_) (fun hg1_19=> ?_)
   ·refine rn ?_;refine q9 (fun hg2_1=> ?_) (fun hg2_1=> ?_)
    ·refine rn ?_;refine q9 (fun hg2_8=> ?_) (fun hg2_8=> ?_)
     ·refine rn ?_;refine q9 (fun hg2_15=> ?_) (fun hg2_15=> ?_)
      ·refine rn ?_;refine q9 (fun hg2_22=> ?_) (fun hg2_22=> ?_)
       ·refine rn ?_;refine qv rfl rfl (y6 rfl rfl (zbr (zuu _ _ ha hb) (Sbs.refl _))) ?_
        refine rn ?_;exact zab rfl (.drop [_,_] _ _) ⟨rfl,bvz2_984⟩
       ·refine rn ?_;exact zab rfl (.drop [_,_] _ _) ⟨rfl,bvz2_984⟩
      ·refine rn ?_;exact zab rfl (.drop [_,_] _ _) ⟨rfl,bvz2_984⟩
     ·refine rn ?_;exact zab rfl (.drop [_,_] _ _) ⟨rfl,bvz2_984⟩
    ·refine rn ?_;exact zab rfl (.drop [_,_] _ _) ⟨rfl,bvz2_984⟩
   ·refine rn ?_;exact zab rfl (.drop [_,_] _ _) ⟨rfl,bvz2_984⟩
  ·refine rn ?_;exact zab rfl (.drop [_,_] _ _) ⟨rfl,bvz2_984⟩
 ·refine rn ?_;exact zab rfl (.drop [_,_] _ _) ⟨rfl,bvz2_984⟩
theorem zws (s:ByteArray) (i:Nat) (c:Int) (bs bi bc:Nat) (hi:i≤s.size):x3 Tryz.prog 220 [pZ bs,pZ bi,pZ bc] [.box bs 9 [sv s],.box bi 3 [iv (i:Nat)],.box bc 21 [.v (.int .i32 c)],.glob 5 276 y9,.glob 6 279 y4] (fun r h'=>h'= [.box bs 9 [sv s],.box bi 3 [iv (i:Nat)],.box bc 21 [.v (.int .i32 c)],.glob 5 276 y9,.glob 6 279 y4]∧r= .tup [.v (.int .i32 c),bv (zoa s i c)]):=by
 refine z6 Tryz.func220 rfl rfl rfl ?_
 refine x8 (y7 ?_)
 refine q1 ?_;refine q1 ?_;refine u2 (j7 ?_)
 refine x8 (y7 ?_)
 refine q1 ?_;refine q1 ?_;refine qq rfl rfl (zd6 rfl rfl hi) ?_
 refine qv rfl rfl (y6 rfl rfl (z8.quiet (R:=fun x=>x=_) (h2:= [_,_,_]) (List.perm_append_comm (l₁:= [_,_,_])) (z8.of_fun (zr8 (s.extract i s.size))))) ?_
 refine rn ?_;refine q9 (fun hg2_3=> ?_) (fun hg2_3=> ?_)
 ·refine rn ?_;exact zbk rfl rfl (.refl _ _) ⟨rfl,congrArg (fun b=>AV.tup [.v (.int .i32 c),bv b]) (by first|(simp only [zoa, *,Bool.true_and,Bool.false_and,Bool.and_false,Bool.and_true,Bool.true_or,Bool.or_false,Bool.false_or,Bool.or_true,if_true,if_false,Bool.false_eq_true,Bool.not_true,Bool.not_false];done)|(simp_all [zoa];done))⟩
 ·refine rn ?_;exact zbk rfl rfl (.refl _ _) ⟨rfl,congrArg (fun b=>AV.tup [.v (.int .i32 c),bv b]) (by first|(simp only [zoa, *,Bool.true_and,Bool.false_and,Bool.and_false,Bool.and_true,Bool.true_or,Bool.or_false,Bool.false_or,Bool.or_true,if_true,if_false,Bool.false_eq_true,Bool.not_true,Bool.not_false];done)|(simp_all [zoa];done))⟩
theorem zta (s:ByteArray) (bs:Nat) (y:AV) (p:Nat→Int→Bool) (I:List Res→Prop) (J:Nat→List Res→Prop) (hy:∀(i bi bc it:Nat) (L:List Res),i < s.size→I L→z8 Tryz.prog y [iv i,.fn (.func 220) [] [pZ bs,pZ bi,pZ bc]] (.box bc 21 [.v (.int .i32 (Utf8.decode s i).1)]:: .box bi 3 [iv (i:Nat)]:: .obj it (.stringIter s (i+(Utf8.decode s i).2)):: .box bs 9 [sv s]::L) (fun r h'=>∃L',h'= .box bc 21 [.v (.int .i32 (Utf8.decode s i).1)]:: .box bi 3 [iv (i:Nat)]:: .obj it (.stringIter s (i+(Utf8.decode s i).2)):: .box bs 9 [sv s]::L'∧((p i (Utf8.decode s i).1=true∧r=bv true∧I L')∨(p i (Utf8.decode s i).1=false∧r=bv false∧J i L')))) (L0:List Res) (h0:I L0):x3 Tryz.prog 219 [y,pZ bs] (.box bs 9 [sv s]::L0) (fun r h'=>∃L',h'= .box bs 9 [sv s]::L'∧((zcw s p 0=s.size∧I L')∨(zcw s p 0 < s.size∧J (zcw s p 0) L'))):=by
 refine z6 Tryz.func219 rfl rfl rfl ?_
 refine rn ?_;refine z7 rfl (zm0 rfl rfl fun b7=> ?_)
 refine rn ?_;refine j9 (fun x:Nat×List Res=>zcw s p 0=zcw s p x.1∧I x.2) (fun x=>⟨[(7,pZ b7),(0,y),(1,pZ bs)],.obj b7 (.stringIter s x.1):: .box bs 9 [sv s]::x.2,[]⟩) (fun x=>s.size - x.1) (0,L0) ⟨rfl,h0⟩
  (w8 (.cons _ _ _ rfl (.cons _ _ _ rfl (.cons _ _ _ rfl (.nil))))) ?_
 rintro ⟨k,L⟩ ⟨hw,hI⟩
 simp only at hw hI
 refine x8 (y7 ?_)
 refine z7 rfl (zow rfl rfl (fun hp=> ?_) (fun hp=> ?_))
 ·refine rn ?_;refine y3 rfl (fun hc9=> ?_) (fun hc9=> ?_)
  ·first|cases hc9|exact absurd hc9 (by decide)|(exfalso;simp_all;done)
  ·refine rn ?_;exact zdp .nil (.drop1 _ _ _) ⟨_,rfl,.inl ⟨by rw [hw,zkd hp],hI⟩⟩
 ·refine rn ?_;refine y3 rfl (fun hc9=> ?_) (fun hc9=> ?_)
  ·refine rn ?_;refine z7 rfl (x5 rfl fun b3=> ?_)
   refine z7 rfl (x5 rfl fun b4=> ?_)
   first|refine z7 rfl (k9 rfl rfl rfl ?_)|refine z7 rfl (zaq rfl rfl rfl rfl (Nat.le_of_ble_eq_true rfl) ?_)
   first|refine z7 rfl (k9 rfl rfl rfl ?_)|refine z7 rfl (zaq rfl rfl rfl rfl (Nat.le_of_ble_eq_true rfl) ?_)
   refine u2 (j7 ?_)
   refine x8 (y7 ?_)
   refine q1 ?_;refine q1 ?_;refine u2 (j7 ?_)
   refine x8 (y7 ?_)
   refine q1 ?_;refine q1 ?_;refine q1 ?_;refine z7 rfl (w7 rfl rfl (hy k b3 b4 b7 L hp hI) rfl ?_)
   rintro av h' ⟨L',rfl,⟨hp1,rfl,hI2⟩|⟨hp1,rfl,hJ⟩⟩
   ·refine rn ?_;refine y3 rfl (fun hc17=> ?_) (fun hc17=> ?_)
    ·first|cases hc17|exact absurd hc17 (by decide)|(exfalso;simp_all;done)
    ·refine rn ?_;exact ⟨(k+(Utf8.decode s k).2,L'),⟨hw.trans (zml hp hp1),hI2⟩,(v8 (zct (h1:= [_,_])) (w8 (.cons _ _ _ rfl (.cons _ _ _ rfl (.cons _ _ _ rfl (.nil)))))),by have:=zmk s k;simp only at hp ⊢;omega⟩
   ·refine rn ?_;refine y3 rfl (fun hc17=> ?_) (fun hc17=> ?_)
    ·refine rn ?_;exact zfr .nil (.drop [_,_,_] _ _) ⟨_,rfl,.inr (by rw [hw,zn5 hp hp1];exact ⟨hp,hJ⟩)⟩
    ·first|cases hc17|exact absurd hc17 (by decide)|(exfalso;simp_all;done)
  ·first|cases hc9|exact absurd hc9 (by decide)|(exfalso;simp_all;done)
theorem ydt (s:ByteArray) (h:List Res):x3 Tryz.prog 200 [sv s] h (fun r h'=>∃bs,h'= .box bs 9 [sv s]::h∧r= .fn (.func 219) [] [pZ bs]):=by
 refine z6 Tryz.func200 rfl rfl rfl ?_
 refine rn ?_;refine z7 rfl (x9 rfl rfl rfl fun b1=> ?_)
 refine rn ?_;exact zab rfl (.refl _ _) ⟨_,rfl,rfl⟩
theorem zxv (s:ByteArray) (fv:AV) (g:Int→Bool) (hone:fv.cellsOf=some [fv]) (hgo:∀c h,z8 Tryz.prog fv [.v (.int .i32 c)] h (fun r h'=>h'=h∧r=bv (g c))):x3 Tryz.prog 169 [sv s,fv] [.glob 5 276 y9,.glob 6 279 y4] (fun r h'=>h'= [.glob 5 276 y9,.glob 6 279 y4]∧r=iv (zcw s (zeq s g) 0:Nat)):=by
 refine z6 Tryz.func169 rfl rfl rfl ?_
 refine rn ?_;refine z7 rfl (x9 rfl hone rfl fun b3=> ?_)
 refine rn ?_;refine ziu ?_;refine rn ?_;refine z7 rfl (x5 rfl fun b5=> ?_)
 refine rn ?_;refine z7 rfl (w7 rfl rfl (z8.of_fun (ydt s _)) rfl ?_)
 rintro _ _ ⟨bs,rfl,rfl⟩
 refine rn ?_;refine zl7 (fun pend h''=>(pend=none∨pend=some (.exit 0))∧h''= .box bs 9 [sv s]:: .box b5 3 [iv (zcw s (zeq s g) 0:Nat)]:: .box b3 243 [fv]:: [.glob 5 276 y9,.glob 6 279 y4]) rfl (fun fn l q lp hlp=> ?_) (fun q h'' hK=> ?_) (fun q h'' c hK=> ?_)
 ·suffices hy:∀(i bi bc it:Nat) (L:List Res),i < s.size→L=lp .ready none:: .defs q:: .box b5 3 [iv s.size]:: .box b3 243 [fv]:: [.glob 5 276 y9,.glob 6 279 y4]→z8 Tryz.prog (yv l) [iv i,.fn (.func 220) [] [pZ bs,pZ bi,pZ bc]] (.box bc 21 [.v (.int .i32 (Utf8.decode s i).1)]:: .box bi 3 [iv (i:Nat)]:: .obj it (.stringIter s (i+(Utf8.decode s i).2)):: .box bs 9 [sv s]::L)
   (fun r h'=>∃L',h'= .box bc 21 [.v (.int .i32 (Utf8.decode s i).1)]:: .box bi 3 [iv (i:Nat)]:: .obj it (.stringIter s (i+(Utf8.decode s i).2)):: .box bs 9 [sv s]::L'∧((zeq s g i (Utf8.decode s i).1=true∧r=bv true∧L'=lp .ready none:: .defs q:: .box b5 3 [iv s.size]:: .box b3 243 [fv]:: [.glob 5 276 y9,.glob 6 279 y4])∨(zeq s g i (Utf8.decode s i).1=false∧r=bv false∧L'=lp .done (some (.exit 0)):: .defs q:: .box b5 3 [iv (i:Nat)]:: .box b3 243 [fv]:: [.glob 5 276 y9,.glob 6 279 y4]))) by
   refine x3.mono (x3.perm (pt2 _ _ _ _) (zta s bs (yv l) (zeq s g) _ (fun i L=>L=lp .done (some (.exit 0)):: .defs q:: .box b5 3 [iv (i:Nat)]:: .box b3 243 [fv]:: [.glob 5 276 y9,.glob 6 279 y4]) hy _ rfl)) ?_
   rintro _ _ ⟨L',rfl,⟨hw,rfl⟩|⟨hw,rfl⟩⟩
   ·exact ⟨_,_,_,(pt2 _ _ _ _).symm,by simp,.inl rfl,by rw [hw]⟩
   ·exact ⟨_,_,_,(pt2 _ _ _ _).symm,by simp,.inr rfl,rfl⟩
  rintro i bi bc it _ hi rfl
  refine z8.perm (pt4 _ _ _ _ _ _) (z8.permR (zq3 hlp rfl rfl ?_))
  refine rn ?_;refine ⟨[(6,iv (i:Nat)),(7,.fn (.func 220) [] [pZ bs,pZ bi,pZ bc]),(5,pZ b5),(3,pZ b3)],w8 (.cons _ _ _ rfl (.cons _ _ _ rfl (.cons _ _ _ rfl (.cons _ _ _ rfl .nil)))),?_⟩
  refine rn ?_;refine qv rfl rfl (y6 rfl rfl (z8.qt (z8.of_acall (fs:= []) (cs:= [pZ bs,pZ bi,pZ bc]) (zws s i (Utf8.decode s i).1 bs bi bc (by omega))) ((pt4 _ _ _ _ _ _).trans (.cons _ ((pt2 _ _ _ _).trans (.cons _ ((pt1 _ _ _).trans (.cons _ ((pt5 _ _ _ _ _ _ _).trans (.cons _ (pt5 _ _ _ _ _ _ _))))))))))) ?_
  refine rn ?_;refine q9 (fun hg6_2=> ?_) (fun hg6_2=> ?_)
  ·refine rn ?_;refine zvg rfl ?_;refine rn ?_;exact zlh (.refl _) ⟨_,((pt1 _ _ _).trans (.cons _ ((pt1 _ _ _).trans (.cons _ ((pt1 _ _ _).trans (.cons _ (pt1 _ _ _))))))),_,rfl,.inr ⟨by simp_all [zeq],rfl,rfl⟩⟩
  ·refine rn ?_;refine qv rfl rfl (y6 rfl rfl (hgo _ _)) ?_
   refine rn ?_;refine y3 rfl (fun hc28=> ?_) (fun hc28=> ?_)
   ·refine rn ?_;exact zlh (.refl _) ⟨_,((pt1 _ _ _).trans (.cons _ ((pt1 _ _ _).trans (.cons _ ((pt1 _ _ _).trans (.cons _ (pt1 _ _ _))))))),_,rfl,.inr ⟨by simp_all [zeq],rfl,rfl⟩⟩
   ·refine rn ?_;exact zf8 (.refl _) ⟨_,((pt1 _ _ _).trans (.cons _ ((pt1 _ _ _).trans (.cons _ ((pt1 _ _ _).trans (.cons _ (pt1 _ _ _))))))),_,rfl,.inl ⟨by simp_all [zeq],rfl,rfl⟩⟩
 ·obtain ⟨_,rfl⟩:=hK
  refine rn ?_;refine ⟨fun l h=>(by cases h),?_⟩
  exact zgq (.refl _) (.cons _ _ _ _ (.tmp _ _ rfl) .nil) (.drop [_,_,_] _ _) ⟨rfl,rfl⟩
 ·obtain ⟨hc,rfl⟩:=hK
  obtain rfl:c= .exit 0:=by simpa using hc
  refine rn ?_;refine ⟨fun l h=>(by cases h),?_⟩
  exact zgq (.refl _) (.cons _ _ _ _ (.tmp _ _ rfl) .nil) (.drop [_,_,_] _ _) ⟨rfl,rfl⟩
theorem bvz3_2495 {a b:Bool} (h:a=b:=by first|(simp only [zg5, *,Bool.true_and,Bool.false_and,Bool.and_false,Bool.and_true,Bool.true_or,Bool.or_false,Bool.false_or,Bool.or_true,if_true,if_false,Bool.false_eq_true,Bool.not_true,Bool.not_false];done)|(simp_all [zg5,zu7];done)):bv a=bv b:=congrArg bv h
theorem yix (s:ByteArray):x3 Tryz.prog 130 [sv s] [.glob 5 276 y9,.glob 6 279 y4] (fun r h'=>h'= [.glob 5 276 y9,.glob 6 279 y4]∧r=bv (zg5 s)):=by
 refine z6 Tryz.func130 rfl rfl rfl ?_
 refine rn ?_;refine q9 (fun hg1_2=> ?_) (fun hg1_2=> ?_)
 ·refine rn ?_;refine q9 (fun hg1_7=> ?_) (fun hg1_7=> ?_)
  ·refine rn ?_;have h1:0 < s.size:=zsr hg1_2
   refine qq rfl rfl (v6 0 rfl rfl (by omega)) ?_
   refine rn ?_;refine qv rfl rfl (y6 rfl rfl (zbr (zm6 _) (Sbs.refl _))) ?_
   refine rn ?_;refine q9 (fun hg1_14=> ?_) (fun hg1_14=> ?_)
   ·refine rn ?_;refine qv rfl rfl (y6 rfl rfl (z8.of_fun (zxv s (.fn (.func 170) [] []) zjm rfl (fun c h=>(zbr (zt9 c) (Sbs.refl _)))))) ?_
    refine rn ?_;exact zab rfl (.refl _ _) ⟨rfl,bvz3_2495⟩
   ·refine rn ?_;exact zab rfl (.refl _ _) ⟨rfl,bvz3_2495⟩
  ·refine rn ?_;exact zab rfl (.refl _ _) ⟨rfl,bvz3_2495⟩
 ·refine rn ?_;exact zab rfl (.refl _ _) ⟨rfl,bvz3_2495⟩
theorem yfy (e:Ev) (h:Hist) (be bh:Nat):x3 Tryz.prog 175 [pZ be,pZ bh] [.box be 66 (evR e),.box bh 28 (x6 h)] (fun r h'=>h'= [.box be 66 (evR e),.box bh 28 (x6 h)]∧r= .tup [.agg (evR ⟨0,0,e.s,e.l,0,⟨0,0⟩,0,[]⟩),bv (zcs h e)]):=by
 refine z6 Tryz.func175 rfl rfl rfl ?_
 refine rn ?_;refine z7 rfl (x5 rfl fun b2=> ?_)
 refine rn ?_;refine zfp 16 [(b2,66,_)] rfl (List.perm_append_comm (l₁:= [_])) ?_
 refine rn ?_;refine dv rfl rfl (by exact y6 rfl rfl (zbr (zsg _ 1 _ _ rfl (by decide)) (Sbs.refl _))) ?_
 refine rn ?_;refine zea (fun hg1_9=> ?_) (fun hg1_9=> ?_)
 ·refine rn ?_;refine dv rfl rfl (by exact y6 rfl rfl (zbr (zrz _) (Sbs.refl _))) ?_
  refine rn ?_;refine dw 0 rfl rfl rfl rfl rfl (Nat.le_of_ble_eq_true rfl) ?_
  refine rn2 ?_;show zb4 _ _ _ _ _ _ ⟨_,.box b2 66 _::_,_⟩
  refine rn ?_;exact zfr (.cons _ _ _ _ (.agg _ _ _ _ _ _ _ rfl inferInstance inferInstance inferInstance rfl) (.cons _ _ _ _ (.tmp _ _ rfl) .nil)) (.trans (.drop1 _ _ _) (zax (by exact Sb.aggs (by exact ⟨.refl _,.refl _,.refl _,.refl _,.refl _,.refl _,.refl _,.refl _,.nil _ _,trivial⟩)) (by exact .refl _))) ⟨rfl,congrArg (fun b=>AV.tup [.agg (evR ⟨0,0,e.s,e.l,0,⟨0,0⟩,0,[]⟩),bv b]) (by first|(simp only [zcs, *,Bool.true_and,Bool.false_and,Bool.and_false,Bool.and_true,Bool.true_or,Bool.or_false,Bool.false_or,Bool.or_true,if_true,if_false,Bool.false_eq_true,Bool.not_true,Bool.not_false];done)|(simp_all [zcs];done)|(simp_all [zcs] <;> omega))⟩
 ·refine rn ?_;refine dw 0 rfl rfl rfl rfl rfl (Nat.le_of_ble_eq_true rfl) ?_
  refine rn2 ?_;show zb4 _ _ _ _ _ _ ⟨_,.box b2 66 _::_,_⟩
  refine rn ?_;exact zfr (.cons _ _ _ _ (.agg _ _ _ _ _ _ _ rfl inferInstance inferInstance inferInstance rfl) (.cons _ _ _ _ (.tmp _ _ rfl) .nil)) (.trans (.drop1 _ _ _) (zax (by exact Sb.aggs (by exact ⟨.refl _,.refl _,.refl _,.refl _,.refl _,.refl _,.refl _,.refl _,.nil _ _,trivial⟩)) (by exact .refl _))) ⟨rfl,congrArg (fun b=>AV.tup [.agg (evR ⟨0,0,e.s,e.l,0,⟨0,0⟩,0,[]⟩),bv b]) (by first|(simp only [zcs, *,Bool.true_and,Bool.false_and,Bool.and_false,Bool.and_true,Bool.true_or,Bool.or_false,Bool.false_or,Bool.or_true,if_true,if_false,Bool.false_eq_true,Bool.not_true,Bool.not_false];done)|(simp_all [zcs];done)|(simp_all [zcs] <;> omega))⟩
theorem yfx (e:Ev) (h:Hist) (be bh:Nat):x3 Tryz.prog 177 [pZ be,pZ bh] [.box be 66 (evR e),.box bh 28 (x6 h)] (fun r h'=>h'= [.box be 66 (evR e),.box bh 28 (x6 h)]∧r= .tup [.agg (evR ⟨0,0,0,0,e.o,e.v,0,[]⟩),bv (zav h e)]):=by
 refine z6 Tryz.func177 rfl rfl rfl ?_
 refine rn ?_;refine z7 rfl (x5 rfl fun b2=> ?_)
 refine rn ?_;refine zfp 30 [(b2,66,_)] rfl (List.perm_append_comm (l₁:= [_])) ?_
 refine rn ?_;refine dv rfl rfl (by exact y6 rfl rfl (zbr (zsg _ 2 _ _ rfl (by decide)) (Sbs.refl _))) ?_
 refine rn ?_;refine zea (fun hg1_9=> ?_) (fun hg1_9=> ?_)
 ·refine rn ?_;refine dv rfl rfl (by exact y6 rfl rfl (zbr (zn7 h e.v) (Sbs.refl _))) ?_
  refine rn ?_;refine zea (fun hg1_15=> ?_) (fun hg1_15=> ?_)
  ·refine rn ?_;refine zea (fun hg1_23=> ?_) (fun hg1_23=> ?_)
   ·refine rn ?_;refine dw 0 rfl rfl rfl rfl rfl (Nat.le_of_ble_eq_true rfl) ?_
    refine rn2 ?_;show zb4 _ _ _ _ _ _ ⟨_,.box b2 66 _::_,_⟩
    refine rn ?_;exact zfr (.cons _ _ _ _ (.agg _ _ _ _ _ _ _ rfl inferInstance inferInstance inferInstance rfl) (.cons _ _ _ _ (.tmp _ _ rfl) .nil)) (.trans (.drop1 _ _ _) (zax (by exact Sb.aggs (by exact ⟨.refl _,.refl _,.refl _,.refl _,.refl _,.refl _,.refl _,.refl _,.nil _ _,trivial⟩)) (by exact .refl _))) ⟨rfl,congrArg (fun b=>AV.tup [.agg (evR ⟨0,0,0,0,e.o,e.v,0,[]⟩),bv b]) (by first|(simp only [zav, *,Bool.true_and,Bool.false_and,Bool.and_false,Bool.and_true,Bool.true_or,Bool.or_false,Bool.false_or,Bool.or_true,if_true,if_false,Bool.false_eq_true,Bool.not_true,Bool.not_false];done)|(simp_all [zav];done)|(simp_all [zav] <;> omega))⟩
   ·refine rn ?_;refine dw 0 rfl rfl rfl rfl rfl (Nat.le_of_ble_eq_true rfl) ?_
    refine rn2 ?_;show zb4 _ _ _ _ _ _ ⟨_,.box b2 66 _::_,_⟩
    refine rn ?_;exact zfr (.cons _ _ _ _ (.agg _ _ _ _ _ _ _ rfl inferInstance inferInstance inferInstance rfl) (.cons _ _ _ _ (.tmp _ _ rfl) .nil)) (.trans (.drop1 _ _ _) (zax (by exact Sb.aggs (by exact ⟨.refl _,.refl _,.refl _,.refl _,.refl _,.refl _,.refl _,.refl _,.nil _ _,trivial⟩)) (by exact .refl _))) ⟨rfl,congrArg (fun b=>AV.tup [.agg (evR ⟨0,0,0,0,e.o,e.v,0,[]⟩),bv b]) (by first|(simp only [zav, *,Bool.true_and,Bool.false_and,Bool.and_false,Bool.and_true,Bool.true_or,Bool.or_false,Bool.false_or,Bool.or_true,if_true,if_false,Bool.false_eq_true,Bool.not_true,Bool.not_false];done)|(simp_all [zav];done)|(simp_all [zav] <;> omega))⟩
  ·refine rn ?_;refine dw 0 rfl rfl rfl rfl rfl (Nat.le_of_ble_eq_true rfl) ?_
   refine rn2 ?_;show zb4 _ _ _ _ _ _ ⟨_,.box b2 66 _::_,_⟩
   refine rn ?_;exact zfr (.cons _ _ _ _ (.agg _ _ _ _ _ _ _ rfl inferInstance inferInstance inferInstance rfl) (.cons _ _ _ _ (.tmp _ _ rfl) .nil)) (.trans (.drop1 _ _ _) (zax (by exact Sb.aggs (by exact ⟨.refl _,.refl _,.refl _,.refl _,.refl _,.refl _,.refl _,.refl _,.nil _ _,trivial⟩)) (by exact .refl _))) ⟨rfl,congrArg (fun b=>AV.tup [.agg (evR ⟨0,0,0,0,e.o,e.v,0,[]⟩),bv b]) (by first|(simp only [zav, *,Bool.true_and,Bool.false_and,Bool.and_false,Bool.and_true,Bool.true_or,Bool.or_false,Bool.false_or,Bool.or_true,if_true,if_false,Bool.false_eq_true,Bool.not_true,Bool.not_false];done)|(simp_all [zav];done)|(simp_all [zav] <;> omega))⟩
 ·refine rn ?_;refine dw 0 rfl rfl rfl rfl rfl (Nat.le_of_ble_eq_true rfl) ?_
  refine rn2 ?_;show zb4 _ _ _ _ _ _ ⟨_,.box b2 66 _::_,_⟩
  refine rn ?_;exact zfr (.cons _ _ _ _ (.agg _ _ _ _ _ _ _ rfl inferInstance inferInstance inferInstance rfl) (.cons _ _ _ _ (.tmp _ _ rfl) .nil)) (.trans (.drop1 _ _ _) (zax (by exact Sb.aggs (by exact ⟨.refl _,.refl _,.refl _,.refl _,.refl _,.refl _,.refl _,.refl _,.nil _ _,trivial⟩)) (by exact .refl _))) ⟨rfl,congrArg (fun b=>AV.tup [.agg (evR ⟨0,0,0,0,e.o,e.v,0,[]⟩),bv b]) (by first|(simp only [zav, *,Bool.true_and,Bool.false_and,Bool.and_false,Bool.and_true,Bool.true_or,Bool.or_false,Bool.false_or,Bool.or_true,if_true,if_false,Bool.false_eq_true,Bool.not_true,Bool.not_false];done)|(simp_all [zav];done)|(simp_all [zav] <;> omega))⟩
theorem yfw (e:Ev) (h:Hist) (be bh:Nat):x3 Tryz.prog 179 [pZ be,pZ bh] [.box be 66 (evR e),.box bh 28 (x6 h)] (fun r h'=>h'= [.box be 66 (evR e),.box bh 28 (x6 h)]∧r= .tup [.agg (evR ⟨0,0,0,0,e.o,e.v,0,[]⟩),bv (zdg h e)]):=by
 refine z6 Tryz.func179 rfl rfl rfl ?_
 refine rn ?_;refine z7 rfl (x5 rfl fun b2=> ?_)
 refine rn ?_;refine zfp 16 [(b2,66,_)] rfl (List.perm_append_comm (l₁:= [_])) ?_
 refine rn ?_;refine dv rfl rfl (by exact y6 rfl rfl (zbr (zsg _ 2 _ _ rfl (by decide)) (Sbs.refl _))) ?_
 refine rn ?_;refine zea (fun hg1_9=> ?_) (fun hg1_9=> ?_)
 ·refine rn ?_;refine dv rfl rfl (by exact y6 rfl rfl (zbr (zn7 h e.v) (Sbs.refl _))) ?_
  refine rn ?_;refine dw 0 rfl rfl rfl rfl rfl (Nat.le_of_ble_eq_true rfl) ?_
  refine rn2 ?_;show zb4 _ _ _ _ _ _ ⟨_,.box b2 66 _::_,_⟩
  refine rn ?_;exact zfr (.cons _ _ _ _ (.agg _ _ _ _ _ _ _ rfl inferInstance inferInstance inferInstance rfl) (.cons _ _ _ _ (.tmp _ _ rfl) .nil)) (.trans (.drop1 _ _ _) (zax (by exact Sb.aggs (by exact ⟨.refl _,.refl _,.refl _,.refl _,.refl _,.refl _,.refl _,.refl _,.nil _ _,trivial⟩)) (by exact .refl _))) ⟨rfl,congrArg (fun b=>AV.tup [.agg (evR ⟨0,0,0,0,e.o,e.v,0,[]⟩),bv b]) (by first|(simp only [zdg, *,Bool.true_and,Bool.false_and,Bool.and_false,Bool.and_true,Bool.true_or,Bool.or_false,Bool.false_or,Bool.or_true,if_true,if_false,Bool.false_eq_true,Bool.not_true,Bool.not_false];done)|(simp_all [zdg];done)|(simp_all [zdg] <;> omega))⟩
 ·refine rn ?_;refine dw 0 rfl rfl rfl rfl rfl (Nat.le_of_ble_eq_true rfl) ?_
  refine rn2 ?_;show zb4 _ _ _ _ _ _ ⟨_,.box b2 66 _::_,_⟩
  refine rn ?_;exact zfr (.cons _ _ _ _ (.agg _ _ _ _ _ _ _ rfl inferInstance inferInstance inferInstance rfl) (.cons _ _ _ _ (.tmp _ _ rfl) .nil)) (.trans (.drop1 _ _ _) (zax (by exact Sb.aggs (by exact ⟨.refl _,.refl _,.refl _,.refl _,.refl _,.refl _,.refl _,.refl _,.nil _ _,trivial⟩)) (by exact .refl _))) ⟨rfl,congrArg (fun b=>AV.tup [.agg (evR ⟨0,0,0,0,e.o,e.v,0,[]⟩),bv b]) (by first|(simp only [zdg, *,Bool.true_and,Bool.false_and,Bool.and_false,Bool.and_true,Bool.true_or,Bool.or_false,Bool.false_or,Bool.or_true,if_true,if_false,Bool.false_eq_true,Bool.not_true,Bool.not_false];done)|(simp_all [zdg];done)|(simp_all [zdg] <;> omega))⟩
theorem ycd (s:Seen) (h:Hist) (bh:Nat):x3 Tryz.prog 181 [.agg (zbm s),pZ bh] [.box bh 28 (x6 h)] (fun r h'=>h'= [.box bh 28 (x6 h)]∧r=bv (zg7 h s)):=by
 refine z6 Tryz.func181 rfl rfl rfl ?_
 refine rn ?_;refine z7 rfl (x9 rfl rfl rfl fun b2=> ?_)
 refine rn ?_;refine qv rfl rfl (y6 rfl rfl (zbr (zsg _ 2 _ _ rfl (by decide)) (Sbs.refl _))) ?_
 refine rn ?_;refine q9 (fun hg1_4=> ?_) (fun hg1_4=> ?_)
 ·refine rn ?_;refine qv rfl rfl (y6 rfl rfl (zbr (zn7 h s.v) (Sbs.refl _))) ?_
  refine rn ?_;exact zab rfl (.drop1 _ _ _) ⟨rfl,congrArg bv (by first|(simp only [zg7, *,Bool.true_and,Bool.false_and,Bool.and_false,Bool.and_true,Bool.true_or,Bool.or_false,Bool.false_or,Bool.or_true,if_true,if_false,Bool.false_eq_true,Bool.not_true,Bool.not_false];done)|(simp_all [zg7];done)|(simp_all [zg7] <;> omega))⟩
 ·refine rn ?_;exact zab rfl (.drop1 _ _ _) ⟨rfl,congrArg bv (by first|(simp only [zg7, *,Bool.true_and,Bool.false_and,Bool.and_false,Bool.and_true,Bool.true_or,Bool.or_false,Bool.false_or,Bool.or_true,if_true,if_false,Bool.false_eq_true,Bool.not_true,Bool.not_false];done)|(simp_all [zg7];done)|(simp_all [zg7] <;> omega))⟩
theorem yfv (e:Ev) (h:Hist) (be bh:Nat) (hl:e.scan.length≤4611686018427387904):x3 Tryz.prog 180 [pZ bh,pZ be] [.box be 66 (evR e),.box bh 28 (x6 h)] (fun r h'=>h'= [.box be 66 (evR e),.box bh 28 (x6 h)]∧r= .tup [.agg (evR ⟨0,0,0,0,0,⟨0,0⟩,e.p,e.scan⟩),bv (zb3 h e)]):=by
 refine z6 Tryz.func180 rfl rfl rfl ?_
 refine rn ?_;refine z7 rfl (x5 rfl fun b2=> ?_)
 refine rn ?_;refine zfp 22 [(b2,66,_)] rfl (List.perm_append_comm (l₁:= [_])) ?_
 refine rn ?_;refine dv rfl rfl (by exact y6 rfl rfl (zbr (zsg _ 3 _ _ rfl (by decide)) (Sbs.refl _))) ?_
 refine rn ?_;refine zea (fun hg2_9=> ?_) (fun hg2_9=> ?_)
 ·refine rn ?_;refine zea (fun hg2_15=> ?_) (fun hg2_15=> ?_)
  ·refine rn ?_;refine dv rfl rfl (by exact y6 rfl rfl (z8.of_fun (ycy e.scan (.fn (.func 181) [] [pZ bh]) (zg7 h) [.box be 66 (evR e),.box bh 28 (x6 h)] rfl (fun s hs=>z8.quiet (R:=fun x=>x=bv (zg7 h s)) (h2:= [_]) (List.perm_append_comm (l₁:= [_])) (z8.of_acall (fs:= []) (cs:= [pZ bh]) (ycd s h bh))) hl))) ?_
   refine rn ?_;refine dw 0 rfl rfl rfl rfl rfl (Nat.le_of_ble_eq_true rfl) ?_
   refine rn2 ?_;show zb4 _ _ _ _ _ _ ⟨_,.box b2 66 _::_,_⟩
   refine rn ?_;exact zfr (.cons _ _ _ _ (.agg _ _ _ _ _ _ _ rfl inferInstance inferInstance inferInstance rfl) (.cons _ _ _ _ (.tmp _ _ rfl) .nil)) (.trans (.drop1 _ _ _) (zax (by exact Sb.aggs (by exact ⟨.refl _,.refl _,.refl _,.refl _,.refl _,.refl _,.refl _,.refl _,.refl _,trivial⟩)) (by exact .refl _))) ⟨rfl,congrArg (fun b=>AV.tup [.agg (evR ⟨0,0,0,0,0,⟨0,0⟩,e.p,e.scan⟩),bv b]) (by first|(simp only [zb3, *,Bool.true_and,Bool.false_and,Bool.and_false,Bool.and_true,Bool.true_or,Bool.or_false,Bool.false_or,Bool.or_true,if_true,if_false,Bool.false_eq_true,Bool.not_true,Bool.not_false];done)|(simp_all [zb3];done)|(simp_all [zb3] <;> omega))⟩
  ·refine rn ?_;refine dw 0 rfl rfl rfl rfl rfl (Nat.le_of_ble_eq_true rfl) ?_
   refine rn2 ?_;show zb4 _ _ _ _ _ _ ⟨_,.box b2 66 _::_,_⟩
   refine rn ?_;exact zfr (.cons _ _ _ _ (.agg _ _ _ _ _ _ _ rfl inferInstance inferInstance inferInstance rfl) (.cons _ _ _ _ (.tmp _ _ rfl) .nil)) (.trans (.drop1 _ _ _) (zax (by exact Sb.aggs (by exact ⟨.refl _,.refl _,.refl _,.refl _,.refl _,.refl _,.refl _,.refl _,.refl _,trivial⟩)) (by exact .refl _))) ⟨rfl,congrArg (fun b=>AV.tup [.agg (evR ⟨0,0,0,0,0,⟨0,0⟩,e.p,e.scan⟩),bv b]) (by first|(simp only [zb3, *,Bool.true_and,Bool.false_and,Bool.and_false,Bool.and_true,Bool.true_or,Bool.or_false,Bool.false_or,Bool.or_true,if_true,if_false,Bool.false_eq_true,Bool.not_true,Bool.not_false];done)|(simp_all [zb3];done)|(simp_all [zb3] <;> omega))⟩
 ·refine rn ?_;refine dw 0 rfl rfl rfl rfl rfl (Nat.le_of_ble_eq_true rfl) ?_
  refine rn2 ?_;show zb4 _ _ _ _ _ _ ⟨_,.box b2 66 _::_,_⟩
  refine rn ?_;exact zfr (.cons _ _ _ _ (.agg _ _ _ _ _ _ _ rfl inferInstance inferInstance inferInstance rfl) (.cons _ _ _ _ (.tmp _ _ rfl) .nil)) (.trans (.drop1 _ _ _) (zax (by exact Sb.aggs (by exact ⟨.refl _,.refl _,.refl _,.refl _,.refl _,.refl _,.refl _,.refl _,.refl _,trivial⟩)) (by exact .refl _))) ⟨rfl,congrArg (fun b=>AV.tup [.agg (evR ⟨0,0,0,0,0,⟨0,0⟩,e.p,e.scan⟩),bv b]) (by first|(simp only [zb3, *,Bool.true_and,Bool.false_and,Bool.and_false,Bool.and_true,Bool.true_or,Bool.or_false,Bool.false_or,Bool.or_true,if_true,if_false,Bool.false_eq_true,Bool.not_true,Bool.not_false];done)|(simp_all [zb3];done)|(simp_all [zb3] <;> omega))⟩
theorem yfu  :x3 Tryz.prog 183 [] [] (fun r h'=>h'= []∧r= .tup [.agg (evR ⟨0,0,0,0,0,⟨0,0⟩,0,[]⟩),bv true]):=by
 refine z6 Tryz.func183 rfl rfl rfl ?_
 refine rn ?_;refine z7 rfl (x5 rfl fun b0=> ?_)
 refine rn ?_;exact zfr (.cons _ _ _ _ (.agg _ _ _ _ _ _ _ rfl inferInstance inferInstance inferInstance rfl) (.cons _ _ _ _ (.tmp _ _ rfl) .nil)) (.trans (.drop1 _ _ _) (zax (by exact Sb.aggs (by exact ⟨.refl _,.refl _,.refl _,.refl _,.refl _,.refl _,.refl _,.refl _,.nil _ _,trivial⟩)) (by exact .refl _))) ⟨rfl,congrArg (fun b=>AV.tup [.agg (evR ⟨0,0,0,0,0,⟨0,0⟩,0,[]⟩),bv b]) (by rfl)⟩
theorem yft  :x3 Tryz.prog 184 [] [] (fun r h'=>h'= []∧r= .tup [.agg (evR ⟨0,0,0,0,0,⟨0,0⟩,0,[]⟩),bv true]):=by
 refine z6 Tryz.func184 rfl rfl rfl ?_
 refine rn ?_;refine z7 rfl (x5 rfl fun b0=> ?_)
 refine rn ?_;exact zfr (.cons _ _ _ _ (.agg _ _ _ _ _ _ _ rfl inferInstance inferInstance inferInstance rfl) (.cons _ _ _ _ (.tmp _ _ rfl) .nil)) (.trans (.drop1 _ _ _) (zax (by exact Sb.aggs (by exact ⟨.refl _,.refl _,.refl _,.refl _,.refl _,.refl _,.refl _,.refl _,.nil _ _,trivial⟩)) (by exact .refl _))) ⟨rfl,congrArg (fun b=>AV.tup [.agg (evR ⟨0,0,0,0,0,⟨0,0⟩,0,[]⟩),bv b]) (by rfl)⟩
theorem zya (h:Hist) (e:Ev) (b2 b3 k:Nat) (hl:e.scan.length≤4611686018427387904) (hk:e.kind=k) (h1:1≤k) (h7:k < 7):
 ∃av,(([.v .nilFunc,.fn (.func 175) [] [pZ b3,pZ b2],.fn (.func 177) [] [pZ b3,pZ b2],.fn (.func 179) [] [pZ b3,pZ b2],.fn (.func 180) [] [pZ b2,pZ b3],.fn (.func 183) [] [],.fn (.func 184) [] []]):List AV)[k * 1]? =some av∧z8 Tryz.prog av [] [.box b3 66 (evR e),.box b2 28 (x6 h)] (fun r h'=>h'= [.box b3 66 (evR e),.box b2 28 (x6 h)]∧r= .tup [.agg (evR (zg3 h e).1),bv (zg3 h e).2]):=by
 rcases (by omega:k=1∨k=2∨k=3∨k=4∨k=5∨k=6) with rfl|rfl|rfl|rfl|rfl|rfl
 ·refine ⟨_,rfl,?_⟩
  have hc:zg3 h e=(⟨0,0,e.s,e.l,0,⟨0,0⟩,0,[]⟩,zcs h e):=by unfold zg3;rw [hk];rfl
  rw [hc]
  exact z8.of_acall (fs:= []) (cs:= [pZ b3,pZ b2]) (yfy e h b3 b2)
 ·refine ⟨_,rfl,?_⟩
  have hc:zg3 h e=(⟨0,0,0,0,e.o,e.v,0,[]⟩,zav h e):=by unfold zg3;rw [hk];rfl
  rw [hc]
  exact z8.of_acall (fs:= []) (cs:= [pZ b3,pZ b2]) (yfx e h b3 b2)
 ·refine ⟨_,rfl,?_⟩
  have hc:zg3 h e=(⟨0,0,0,0,e.o,e.v,0,[]⟩,zdg h e):=by unfold zg3;rw [hk];rfl
  rw [hc]
  exact z8.of_acall (fs:= []) (cs:= [pZ b3,pZ b2]) (yfw e h b3 b2)
 ·refine ⟨_,rfl,?_⟩
  have hc:zg3 h e=(⟨0,0,0,0,0,⟨0,0⟩,e.p,e.scan⟩,zb3 h e):=by unfold zg3;rw [hk];rfl
  rw [hc]
  exact z8.of_acall (fs:= []) (cs:= [pZ b2,pZ b3]) (yfv e h b3 b2 hl)
 ·refine ⟨_,rfl,?_⟩
  have hc:zg3 h e=(⟨0,0,0,0,0,⟨0,0⟩,0,[]⟩,true):=by unfold zg3;rw [hk];rfl
  rw [hc]
  exact z8.pure (R:=fun x=>x=_) (z8.of_acall (fs:= []) (cs:= []) yfu)
 ·refine ⟨_,rfl,?_⟩
  have hc:zg3 h e=(⟨0,0,0,0,0,⟨0,0⟩,0,[]⟩,true):=by unfold zg3;rw [hk];rfl
  rw [hc]
  exact z8.pure (R:=fun x=>x=_) (z8.of_acall (fs:= []) (cs:= []) yft)
theorem bvz4_1638 {a b:Bool} (h:a=b:=by first|(simp only [zd9, *,Bool.true_and,Bool.false_and,Bool.and_false,Bool.and_true,Bool.true_or,Bool.or_false,Bool.false_or,Bool.or_true,if_true,if_false,Bool.false_eq_true,Bool.not_true,Bool.not_false];done)|(simp_all [zd9];done)|(simp_all [zd9] <;> omega)):bv a=bv b:=congrArg bv h
theorem yh6 (h:Hist) (e:Ev) (hl:e.scan.length≤4611686018427387904):x3 Tryz.prog 137 [.agg (x6 h),.agg (evR e)] [] (fun r h'=>h'= []∧r=bv (zd9 h e)):=by
 refine z6 Tryz.func137 rfl rfl rfl ?_
 refine rn ?_;refine z7 rfl (x9 rfl rfl rfl fun b2=> ?_)
 refine z7 rfl (x9 rfl rfl rfl fun b3=> ?_)
 refine rn ?_;refine z7 rfl (x5 rfl fun b5=> ?_)
 refine rn ?_;refine q9 (fun hg2_3=> ?_) (fun hg2_3=> ?_)
 ·refine rn ?_;refine zvg rfl ?_;refine rn ?_;exact zab rfl (.drop [_,_,_] _ _) ⟨rfl,bvz4_1638⟩
 ·refine rn ?_;refine q9 (fun hg2_8=> ?_) (fun hg2_8=> ?_)
  ·refine rn ?_;refine zvg rfl ?_;refine rn ?_;exact zab rfl (.drop [_,_,_] _ _) ⟨rfl,bvz4_1638⟩
  ·refine rn ?_;refine qv rfl rfl (y6 rfl rfl (zbr (zsg h 0 e.t _ rfl (by decide)) (Sbs.refl _))) ?_
   refine rn ?_;refine y3 rfl (fun hc27=> ?_) (fun hc27=> ?_)
   ·refine rn ?_;exact zab rfl (.drop [_,_,_] _ _) ⟨rfl,bvz4_1638⟩
   ·have hlo:1≤e.kind:=by simpa using hg2_3
    have hhi:e.kind < 7:=by simpa using hg2_8
    obtain ⟨k,hk⟩:=Int.eq_ofNat_of_zero_le (show 0≤e.kind by omega)
    obtain ⟨av,hav,hfc⟩:=zya h e b2 b3 k hl hk (by omega) (by omega)
    refine zad ?_;refine j7 ?_;refine x8 (y7 ?_)
    refine q1 ?_;refine q1 ?_;refine qq rfl rfl (u7 rfl (by rw [←hk];rfl) (by omega)) ?_
    refine qq rfl rfl (j3 rfl (by simpa using hav)) ?_
    refine qv rfl rfl (y6 rfl rfl (z8.quiet (R:=fun x=>x=_) (h2:= [_]) (List.perm_append_comm (l₁:= [_])) hfc)) ?_
    refine rn ?_;refine z7 rfl (x5 rfl fun b6=> ?_)
    refine rn ?_;refine zfp 6 [(b6,66,_)] rfl (List.perm_append_comm (l₁:= [_])) ?_
    refine rn ?_;refine dw 0 rfl rfl rfl rfl rfl (Nat.le_of_ble_eq_true rfl) ?_
    refine rn2 ?_;show zb4 _ _ _ _ _ _ ⟨_,[.box b6 66 _,.box b5 _ _,.box b3 66 (evR e),.box b2 28 (x6 h)],_⟩
    refine rn ?_;refine q9 (fun hg6_1=> ?_) (fun hg6_1=> ?_)
    ·refine rn ?_;refine qv rfl rfl (y6 rfl rfl (zbr (zs9 {(zg3 h e).1 with kind:=e.kind,t:=e.t} e (zu6 h e hl) hl) (by exact Sbs.refl _))) ?_
     refine rn ?_;exact zab rfl (.drop [_,_,_,_] _ _) ⟨rfl,bvz4_1638⟩
    ·refine rn ?_;exact zab rfl (.drop [_,_,_,_] _ _) ⟨rfl,bvz4_1638⟩
theorem zwn (h:Hist) (b:Nat) (t:Int):x3 Tryz.prog 133 [iv t,pZ b] [.box b 28 (x6 h)] (fun r h'=>h'= [.box b 28 (x6 h)]∧r=bv (zc5 h.ts t)):=by
 refine z6 Tryz.func133 rfl rfl rfl ?_
 refine rn ?_;refine qv rfl rfl (y6 rfl rfl (zbr (zsg h 0 _ _ rfl (by decide)) (Sbs.refl _))) ?_
 refine rn ?_;exact zab rfl (.refl _ _) ⟨rfl,congrArg bv (by rfl)⟩
theorem zsy {full:Bool} (h:Hist) (b:Nat) (ts:List Int) (hl:ts.length≤4611686018427387904):x3 Tryz.prog 131 [.list full 1 (ts.map zcz),pZ b] [.box b 28 (x6 h)] (fun r h'=>h'= [.box b 28 (x6 h)]∧r=bv (tsB h ts)):=by
 refine z6 Tryz.func131 rfl rfl rfl ?_
 refine rn ?_;refine q9 (fun hg1_3=> ?_) (fun hg1_3=> ?_)
 ·refine rn ?_;refine qv rfl rfl (y6 rfl rfl (z8.of_fun (ygh ts (.fn (.func 133) [] [pZ b]) (zc5 h.ts) [.box b 28 (x6 h)] rfl (fun t _=>z8.of_acall (fs:= []) (cs:= [pZ b]) (zwn h b t)) hl))) ?_
  refine rn ?_;exact zab rfl (.refl _ _) ⟨rfl,congrArg bv (by first|(simp only [tsB, *,Bool.true_and,Bool.false_and,Bool.and_false,Bool.and_true,Bool.true_or,Bool.or_false,Bool.false_or,Bool.or_true,if_true,if_false,Bool.false_eq_true,Bool.not_true,Bool.not_false];done)|(simp_all [tsB];done)|(simp_all [tsB] <;> omega))⟩
 ·refine rn ?_;exact zab rfl (.refl _ _) ⟨rfl,congrArg bv (by first|(simp only [tsB, *,Bool.true_and,Bool.false_and,Bool.and_false,Bool.and_true,Bool.true_or,Bool.or_false,Bool.false_or,Bool.or_true,if_true,if_false,Bool.false_eq_true,Bool.not_true,Bool.not_false];done)|(simp_all [tsB];done)|(simp_all [tsB] <;> omega))⟩
theorem yak (h:Hist) (b:Nat) (e:Ev) (hl:e.scan.length≤4611686018427387904):x3 Tryz.prog 136 [.agg (evR e),pZ b] [.box b 28 (x6 h)] (fun r h'=>h'= [.box b 28 (x6 h)]∧r=bv (zd9 h e)):=by
 refine z6 Tryz.func136 rfl rfl rfl ?_
 refine rn ?_;refine z7 rfl (x9 rfl rfl rfl fun b2=> ?_)
 refine rn ?_;refine qv rfl rfl (y6 rfl rfl (zbr (yh6 h e hl) (Sbs.refl _))) ?_
 refine rn ?_;exact zab rfl (.drop1 _ _ _) ⟨rfl,congrArg bv (by rfl)⟩
theorem yaj (h:Hist) (b c:Nat) (m:H.Ord) (hl:m.ts.length≤4611686018427387904):x3 Tryz.prog 139 [.agg (zdk m),pZ b,pZ c] [.box b 28 (x6 h),.box c 207 [.fn (.func 131) [] [pZ b]]] (fun r h'=>h'= [.box b 28 (x6 h),.box c 207 [.fn (.func 131) [] [pZ b]]]∧r=bv (zsh h m)):=by
 refine z6 Tryz.func139 rfl rfl rfl ?_
 refine rn ?_;refine z7 rfl (x9 rfl rfl rfl fun b3=> ?_)
 refine rn ?_;refine qv rfl rfl (y6 rfl rfl (zbr (zsg h 2 _ _ rfl (by decide)) (Sbs.refl _))) ?_
 refine rn ?_;refine q9 (fun hg1_4=> ?_) (fun hg1_4=> ?_)
 ·refine rn ?_;refine qv rfl rfl (y6 rfl rfl (z8.quiet (R:=fun x=>x=bv (tsB h m.ts)) (h2:= [_,_]) (List.Perm.swap _ _ _) (z8.of_acall (fs:= []) (cs:= [pZ b]) (zsy h b m.ts hl)))) ?_
  refine rn ?_;exact zab rfl (.drop1 _ _ _) ⟨rfl,congrArg bv (by first|(simp only [zsh, *,Bool.true_and,Bool.false_and,Bool.and_false,Bool.and_true,Bool.true_or,Bool.or_false,Bool.false_or,Bool.or_true,if_true,if_false,Bool.false_eq_true,Bool.not_true,Bool.not_false];done)|(simp_all [zsh];done)|(simp_all [zsh] <;> omega))⟩
 ·refine rn ?_;exact zab rfl (.drop1 _ _ _) ⟨rfl,congrArg bv (by first|(simp only [zsh, *,Bool.true_and,Bool.false_and,Bool.and_false,Bool.and_true,Bool.true_or,Bool.or_false,Bool.false_or,Bool.or_true,if_true,if_false,Bool.false_eq_true,Bool.not_true,Bool.not_false];done)|(simp_all [zsh];done)|(simp_all [zsh] <;> omega))⟩
theorem bvz5_3150 {a b:Bool} (h:a=b:=by first|(simp only [zxo, *,Bool.true_and,Bool.false_and,Bool.and_false,Bool.and_true,Bool.true_or,Bool.or_false,Bool.false_or,Bool.or_true,if_true,if_false,Bool.false_eq_true,Bool.not_true,Bool.not_false];done)|(simp_all [zxo];done)|(simp_all [zxo] <;> omega)):bv a=bv b:=congrArg bv h
theorem yai (h:Hist) (b c:Nat) (m:Mat) (hl:m.ts.length≤4611686018427387904):x3 Tryz.prog 141 [.agg (zf0 m),pZ b,pZ c] [.box b 28 (x6 h),.box c 207 [.fn (.func 131) [] [pZ b]]] (fun r h'=>h'= [.box b 28 (x6 h),.box c 207 [.fn (.func 131) [] [pZ b]]]∧r=bv (zxo h m)):=by
 refine z6 Tryz.func141 rfl rfl rfl ?_
 refine rn ?_;refine z7 rfl (x9 rfl rfl rfl fun b3=> ?_)
 refine rn ?_;refine qv rfl rfl (y6 rfl rfl (zbr (zsg h 3 _ _ rfl (by decide)) (Sbs.refl _))) ?_
 refine rn ?_;refine q9 (fun hg1_4=> ?_) (fun hg1_4=> ?_)
 ·refine rn ?_;refine qv rfl rfl (y6 rfl rfl (zbr (zsg h 2 _ _ rfl (by decide)) (Sbs.refl _))) ?_
  refine rn ?_;refine q9 (fun hg1_10=> ?_) (fun hg1_10=> ?_)
  ·refine rn ?_;refine qv rfl rfl (y6 rfl rfl (z8.quiet (R:=fun x=>x=bv (tsB h m.ts)) (h2:= [_,_]) (List.Perm.swap _ _ _) (z8.of_acall (fs:= []) (cs:= [pZ b]) (zsy h b m.ts hl)))) ?_
   refine rn ?_;exact zab rfl (.drop1 _ _ _) ⟨rfl,bvz5_3150⟩
  ·refine rn ?_;exact zab rfl (.drop1 _ _ _) ⟨rfl,bvz5_3150⟩
 ·refine rn ?_;exact zab rfl (.drop1 _ _ _) ⟨rfl,bvz5_3150⟩
theorem bvz6_3807 {a b:Bool} (h:a=b:=by first|(simp only [zyt, *,Bool.true_and,Bool.false_and,Bool.and_false,Bool.and_true,Bool.true_or,Bool.or_false,Bool.false_or,Bool.or_true,if_true,if_false,Bool.false_eq_true,Bool.not_true,Bool.not_false];done)|(simp_all [zyt];done)|(simp_all [zyt] <;> omega)):bv a=bv b:=congrArg bv h
theorem yah (h:Hist) (b:Nat) (w:Wan):x3 Tryz.prog 143 [.agg (zfq w),pZ b] [.box b 28 (x6 h)] (fun r h'=>h'= [.box b 28 (x6 h)]∧r=bv (zyt h w)):=by
 refine z6 Tryz.func143 rfl rfl rfl ?_
 refine rn ?_;refine z7 rfl (x9 rfl rfl rfl fun b2=> ?_)
 refine rn ?_;refine qv rfl rfl (y6 rfl rfl (zbr (zsg h 1 _ _ rfl (by decide)) (Sbs.refl _))) ?_
 refine rn ?_;refine q9 (fun hg1_4=> ?_) (fun hg1_4=> ?_)
 ·refine rn ?_;refine q9 (fun hg1_9=> ?_) (fun hg1_9=> ?_)
  ·refine rn ?_;exact zab rfl (.drop1 _ _ _) ⟨rfl,bvz6_3807⟩
  ·refine rn ?_;exact zab rfl (.drop1 _ _ _) ⟨rfl,bvz6_3807⟩
 ·refine rn ?_;exact zab rfl (.drop1 _ _ _) ⟨rfl,bvz6_3807⟩
theorem bvz7_7926 {a b:Bool} (h:a=b:=by first|(simp only [zah, *,Bool.true_and,Bool.false_and,Bool.and_false,Bool.and_true,Bool.true_or,Bool.or_false,Bool.false_or,Bool.or_true,if_true,if_false,Bool.false_eq_true,Bool.not_true,Bool.not_false];done)|(simp_all [zah];done)):bv a=bv b:=congrArg bv h
theorem ydo (h:Hist) (la:Lim 4611686018427387904 h):x3 Tryz.prog 103 [.agg (x6 h)] [.glob 3 148 y8,.glob 5 276 y9,.glob 6 279 y4] (fun r h'=>h'= [.glob 3 148 y8,.glob 5 276 y9,.glob 6 279 y4]∧r=bv (zah h)):=by
 refine z6 Tryz.func103 rfl rfl rfl ?_
 refine rn ?_;refine z7 rfl (x9 rfl rfl rfl fun b1=> ?_)
 refine rn ?_;refine ziu ?_;refine zf5 (⟨[(1,pZ b1),(3,bv (okK h 0))],.box b1 28 (x6 h):: [.glob 3 148 y8,.glob 5 276 y9,.glob 6 279 y4],[]⟩) ?_ ?_
 ·refine rn ?_;refine q9 (fun hg1_4=> ?_) (fun hg1_4=> ?_)
  ·refine rn ?_;rw [show okK h 0=_ from zqa h,hg1_4]
   exact (w8 (.cons _ _ _ rfl (.cons _ _ _ rfl (.nil))))
  ·refine rn ?_;rw [show okK h 0=_ from zqa h,hg1_4]
   exact (w8 (.cons _ _ _ rfl (.cons _ _ _ rfl (.nil))))
 ·refine x8 ?_;refine zq9 ?_;refine rn0 ?_;refine zf5 (⟨[(3,bv (okK h 4)),(1,pZ b1)],.box b1 28 (x6 h):: [.glob 3 148 y8,.glob 5 276 y9,.glob 6 279 y4],[]⟩) ?_ ?_
  ·refine rn ?_;refine qv rfl rfl (y6 rfl rfl (zbr (ybh _) (Sbs.refl _))) ?_
   refine rn ?_;refine j9 (fun k:Nat=>k≤4) (fun k=>⟨[(29,iv k),(28,.agg (zhr h)),(1,pZ b1),(3,bv (okK h k))],.box b1 28 (x6 h):: [.glob 3 148 y8,.glob 5 276 y9,.glob 6 279 y4],[]⟩) (fun k=>4 - k) 0 (by omega)
    (w8 (.cons _ _ _ rfl (.cons _ _ _ rfl (.cons _ _ _ rfl (.cons _ _ _ rfl (.nil)))))) ?_
   rintro k hk
   refine rn ?_;refine y3 rfl (fun hc30=> ?_) (fun hc30=> ?_)
   ·have hk4:k < 4:=by simp at hc30;omega
    refine zad ?_;refine j7 ?_;refine x8 ?_;refine zac ?_;refine x8 (y7 ?_)
    refine q1 ?_;refine qq rfl rfl (zb1 rfl rfl (by omega) (by have:=ztw h hk4;simpa using this)) ?_
    refine rn ?_;refine z7 rfl (zap (enc:=zss) rfl fun b33=> ?_)
    refine rn0 ?_;refine zf5 (⟨[(5,zbl (nmK h k)),(3,bv (okj h k 0)),(6,.v (.map (some b33))),(29,iv k),(28,.agg (zhr h)),(1,pZ b1)],.map b33 (j4 zss []):: .box b1 28 (x6 h):: [.glob 3 148 y8,.glob 5 276 y9,.glob 6 279 y4],[]⟩) ?_ ?_
    ·refine rn ?_;refine q9 (fun hg6_1=> ?_) (fun hg6_1=> ?_)
     ·refine q1 ?_;refine q1 ?_;refine q1 ?_;refine qq rfl rfl (u7 rfl rfl (by omega)) ?_
      refine qq rfl rfl (j3 rfl (zo6 hk4)) ?_
      refine rn ?_;rw [zy5 h k,hg6_1]
      first|exact (w8 (.cons _ _ _ rfl (.cons _ _ _ rfl (.cons _ _ _ rfl (.cons _ _ _ rfl (.cons _ _ _ rfl (.cons _ _ _ rfl (.nil))))))))|(rw [Bool.true_and];exact (w8 (.cons _ _ _ rfl (.cons _ _ _ rfl (.cons _ _ _ rfl (.cons _ _ _ rfl (.cons _ _ _ rfl (.cons _ _ _ rfl (.nil)))))))))
     ·refine rn ?_;rw [zy5 h k,hg6_1]
      first|exact (w8 (.cons _ _ _ rfl (.cons _ _ _ rfl (.cons _ _ _ rfl (.cons _ _ _ rfl (.cons _ _ _ rfl (.cons _ _ _ rfl (.nil))))))))|(rw [Bool.true_and];exact (w8 (.cons _ _ _ rfl (.cons _ _ _ rfl (.cons _ _ _ rfl (.cons _ _ _ rfl (.cons _ _ _ rfl (.cons _ _ _ rfl (.nil)))))))))
    ·refine rn ?_;refine j9 (fun j:Nat=>j≤(nmK h k).length∧(0 < j→okj h k 0=true)∧zdr [] (nmK h k)=zdr ((nmK h k).take j) ((nmK h k).drop j)) (fun j=>⟨[(45,iv j),(43,zbl (nmK h k)),(44,iv ((nmK h k).map zg2).length),(3,bv (okj h k 0)),(6,.v (.map (some b33))),(29,iv k),(28,.agg (zhr h)),(1,pZ b1)],.map b33 (j4 zss (zy9 ((nmK h k).take j))):: .box b1 28 (x6 h):: [.glob 3 148 y8,.glob 5 276 y9,.glob 6 279 y4],[]⟩) (fun j=>(nmK h k).length - j) 0 ⟨by omega,by omega,by simp⟩
      (w8 (.cons _ _ _ rfl (.cons _ _ _ rfl (.cons _ _ _ rfl (.cons _ _ _ rfl (.cons _ _ _ rfl (.cons _ _ _ rfl (.cons _ _ _ rfl (.cons _ _ _ rfl (.nil)))))))))) ?_
     rintro j ⟨hj,hok,hf⟩
     have hlk:=la.nm k
     refine rn ?_;refine y3 rfl (fun hc46=> ?_) (fun hc46=> ?_)
     ·have hj2:j < (nmK h k).length:=by simpa using hc46
      have hrow:(zbl (nmK h k))= .list false 1 ((nmK h k).map zg2):=rfl
      have hrow2:((nmK h k).map zg2)[j]? =some (zg2 (nmK h k)[j]):=by simp [hj2]
      have hd:=List.drop_eq_getElem_cons hj2
      refine zad ?_;refine rn0 ?_;refine x8 ?_;refine zac ?_;refine x8 (y7 ?_)
      refine rn0 ?_;refine x8 ?_;refine zf5 (⟨[(3,bv (okj h k 0 && zg5 (nmK h k)[j] && !zxk (nmK h k)[j] ((nmK h k).take j))),(8,sv (nmK h k)[j]),(45,iv j),(43,zbl (nmK h k)),(44,iv ((nmK h k).map zg2).length),(6,.v (.map (some b33))),(29,iv k),(28,.agg (zhr h)),(1,pZ b1)],.map b33 (j4 zss (zy9 ((nmK h k).take j))):: .box b1 28 (x6 h):: [.glob 3 148 y8,.glob 5 276 y9,.glob 6 279 y4],[]⟩) ?_ ?_
      ·refine rn ?_;refine q9 (fun hg10_1=> ?_) (fun hg10_1=> ?_)
       ·refine rn ?_;refine qv rfl rfl (y6 rfl rfl (z8.qt (z8.of_fun (yix ((nmK h k)[j]))) ((pt3 _ _ _ _ _).trans (.cons _ (pt3 _ _ _ _ _))))) ?_
        refine rn ?_;refine q9 (fun hg10_5=> ?_) (fun hg10_5=> ?_)
        ·refine rn ?_;refine qq rfl rfl (zmu (enc:=zss) (k:=(nmK h k)[j]) rfl rfl (zry _ _)) ?_
         refine rn ?_;first|(rw [hg10_1,hg10_5];exact (w8 (.cons _ _ _ rfl (.cons _ _ _ rfl (.cons _ _ _ rfl (.cons _ _ _ rfl (.cons _ _ _ rfl (.cons _ _ _ rfl (.cons _ _ _ rfl (.cons _ _ _ rfl (.cons _ _ _ rfl (.nil))))))))))))|(rw [hg10_1];exact (w8 (.cons _ _ _ rfl (.cons _ _ _ rfl (.cons _ _ _ rfl (.cons _ _ _ rfl (.cons _ _ _ rfl (.cons _ _ _ rfl (.cons _ _ _ rfl (.cons _ _ _ rfl (.cons _ _ _ rfl (.nil))))))))))))
        ·refine rn ?_;first|(rw [hg10_1,hg10_5];exact (w8 (.cons _ _ _ rfl (.cons _ _ _ rfl (.cons _ _ _ rfl (.cons _ _ _ rfl (.cons _ _ _ rfl (.cons _ _ _ rfl (.cons _ _ _ rfl (.cons _ _ _ rfl (.cons _ _ _ rfl (.nil))))))))))))|(rw [hg10_1];exact (w8 (.cons _ _ _ rfl (.cons _ _ _ rfl (.cons _ _ _ rfl (.cons _ _ _ rfl (.cons _ _ _ rfl (.cons _ _ _ rfl (.cons _ _ _ rfl (.cons _ _ _ rfl (.cons _ _ _ rfl (.nil))))))))))))
       ·refine rn ?_;first|(rw [hg10_1,hg10_5];exact (w8 (.cons _ _ _ rfl (.cons _ _ _ rfl (.cons _ _ _ rfl (.cons _ _ _ rfl (.cons _ _ _ rfl (.cons _ _ _ rfl (.cons _ _ _ rfl (.cons _ _ _ rfl (.cons _ _ _ rfl (.nil))))))))))))|(rw [hg10_1];exact (w8 (.cons _ _ _ rfl (.cons _ _ _ rfl (.cons _ _ _ rfl (.cons _ _ _ rfl (.cons _ _ _ rfl (.cons _ _ _ rfl (.cons _ _ _ rfl (.cons _ _ _ rfl (.cons _ _ _ rfl (.nil))))))))))))
      ·refine rn ?_;refine y3 rfl (fun hc61=> ?_) (fun hc61=> ?_)
       ·have hfl:(okj h k 0 && zg5 (nmK h k)[j] && !zxk (nmK h k)[j] ((nmK h k).take j))=false:=zxc hc61
        have hbad:okK h 4=false:=yes hk4 (yhl (hf.trans (by rw [hd])) hfl)
        refine rn ?_;first
         |exact (w8 (.cons _ _ _ rfl (.cons _ _ _ rfl (.nil))))
         |(rw [hbad,←hfl];exact (v8 (zct (h1:= [_])) (w8 (.cons _ _ _ rfl (.cons _ _ _ rfl (.nil))))))
       ·obtain ⟨hok2,hw,hfresh⟩:=yet (zxd hc61)
        refine rn ?_;refine z7 rfl (zhq (enc:=zss) (k:=(nmK h k)[j]) rfl rfl rfl ?_)
        refine rn ?_;have hu:=zpx ((nmK h k)[j]) ((nmK h k).take j) (yey.1 hfresh)
        rw [←List.take_succ_eq_append_getElem hj2] at hu
        exact ⟨j+1,⟨by omega,fun _=>hok2,by rw [hf,hd,zdr,hw,List.take_succ_eq_append_getElem hj2];simp [hfresh]⟩,by simp only [hu,hok2,hw,hfresh,Bool.true_and,Bool.not_false];exact (w8 (.cons _ _ _ rfl (.cons _ _ _ rfl (.cons _ _ _ rfl (.cons _ _ _ rfl (.cons _ _ _ rfl (.cons _ _ _ rfl (.cons _ _ _ rfl (.cons _ _ _ rfl (.nil)))))))))),by omega⟩
     ·have hj3:j=(nmK h k).length:=by
       have:(nmK h k).length≤j:=by simpa using hc46
       omega
      refine rn ?_;have hend:=yer (h:=h) (k:=k) (by rw [hf,hj3,List.drop_length];rfl)
      exact ⟨k+1,by omega,by rw [←hend];exact (v8 (zct (h1:= [_])) (w8 (.cons _ _ _ rfl (.cons _ _ _ rfl (.cons _ _ _ rfl (.cons _ _ _ rfl (.nil))))))),by omega⟩
   ·have hk4:k=4:=by simp at hc30;omega
    subst hk4
    refine rn ?_;first
     |exact (w8 (.cons _ _ _ rfl (.cons _ _ _ rfl (.nil))))
     |(rw [hbad,←hfl];exact (v8 (zct (h1:= [_])) (w8 (.cons _ _ _ rfl (.cons _ _ _ rfl (.nil))))))
  ·refine rn ?_;refine z7 rfl (x5 rfl fun b9=> ?_)
   refine rn ?_;refine q9 (fun hg16_1=> ?_) (fun hg16_1=> ?_)
   ·refine rn ?_;refine qv rfl rfl (y6 rfl rfl (z8.of_fun (yih h.evs (.fn (.func 136) [] [pZ b1]) (zd9 h) (.box b9 207 [.fn (.func 131) [] [pZ b1]]:: .box b1 28 (x6 h):: [.glob 3 148 y8,.glob 5 276 y9,.glob 6 279 y4]) rfl (fun e he=>z8.qt (z8.of_acall (fs:= []) (cs:= [pZ b1]) (yak h b1 e (la.scans e he))) (pt1 _ _ _)) la.evs))) ?_
    refine rn ?_;refine q9 (fun hg16_7=> ?_) (fun hg16_7=> ?_)
    ·refine rn ?_;refine qv rfl rfl (y6 rfl rfl (z8.of_fun (ygf h.ords (.fn (.func 139) [] [pZ b1,pZ b9]) (zsh h) (.box b9 207 [.fn (.func 131) [] [pZ b1]]:: .box b1 28 (x6 h):: [.glob 3 148 y8,.glob 5 276 y9,.glob 6 279 y4]) rfl (fun e he=>z8.qt (z8.of_acall (fs:= []) (cs:= [pZ b1,pZ b9]) (yaj h b1 b9 e (la.ordts e he))) (pt1 _ _ _)) la.ords))) ?_
     refine rn ?_;refine q9 (fun hg16_13=> ?_) (fun hg16_13=> ?_)
     ·refine rn ?_;refine qv rfl rfl (y6 rfl rfl (z8.of_fun (ygg h.mats (.fn (.func 141) [] [pZ b1,pZ b9]) (zxo h) (.box b9 207 [.fn (.func 131) [] [pZ b1]]:: .box b1 28 (x6 h):: [.glob 3 148 y8,.glob 5 276 y9,.glob 6 279 y4]) rfl (fun e he=>z8.qt (z8.of_acall (fs:= []) (cs:= [pZ b1,pZ b9]) (yai h b1 b9 e (la.matts e he))) (pt1 _ _ _)) la.mats))) ?_
      refine rn ?_;refine q9 (fun hg16_19=> ?_) (fun hg16_19=> ?_)
      ·refine rn ?_;refine qv rfl rfl (y6 rfl rfl (z8.of_fun (yge h.wants (.fn (.func 143) [] [pZ b1]) (zyt h) (.box b9 207 [.fn (.func 131) [] [pZ b1]]:: .box b1 28 (x6 h):: [.glob 3 148 y8,.glob 5 276 y9,.glob 6 279 y4]) rfl (fun e he=>z8.qt (z8.of_acall (fs:= []) (cs:= [pZ b1]) (yah h b1 e)) (pt1 _ _ _)) la.wants))) ?_
       refine rn ?_;refine ⟨fun l h=>(by cases h),?_⟩
       exact zab rfl (.drop [_,_] _ _) ⟨rfl,bvz7_7926⟩
      ·refine rn ?_;refine ⟨fun l h=>(by cases h),?_⟩
       exact zab rfl (.drop [_,_] _ _) ⟨rfl,bvz7_7926⟩
     ·refine rn ?_;refine ⟨fun l h=>(by cases h),?_⟩
      exact zab rfl (.drop [_,_] _ _) ⟨rfl,bvz7_7926⟩
    ·refine rn ?_;refine ⟨fun l h=>(by cases h),?_⟩
     exact zab rfl (.drop [_,_] _ _) ⟨rfl,bvz7_7926⟩
   ·refine rn ?_;refine ⟨fun l h=>(by cases h),?_⟩
    exact zab rfl (.drop [_,_] _ _) ⟨rfl,bvz7_7926⟩
theorem zrl {σ:Type} (step:σ→Nat×Int→Option σ) (ok:Nat×Int→Prop) (IJ:Option σ→List Res→Prop) (y:AV) (hy:∀(s:σ) (L:List Res) (sort:Nat) (n:Int) (cells:List AV),ok (sort,n)→IJ (some s) L→z8 Tryz.prog y [iv sort,.pp (iv n::cells)] L (fun r h'=>r=bv (step s (sort,n)).isSome∧IJ (step s (sort,n)) h')) (sort:Nat) (n:Int) (hs:ok (sort,n)) (cells:List AV) (bm by_:Nat) (st:Option σ) (L:List Res) (hI:IJ st L):x3 Tryz.prog 145 [iv sort,.pp (iv n::cells),pZ bm,pZ by_] (.box bm 4 [bv (st).isSome]:: .box by_ 215 [y]::L) (fun r h'=>∃L',IJ (goes step st [(sort,n)]) L'∧h'= .box bm 4 [bv (goes step st [(sort,n)]).isSome]:: .box by_ 215 [y]::L'):=by
 refine z6 Tryz.func145 rfl rfl rfl ?_
 refine rn ?_;refine q9 (fun hg0_1=> ?_) (fun hg0_1=> ?_)
 ·refine rn ?_;obtain ⟨s,rfl⟩:=Option.isSome_iff_exists.1 hg0_1
  refine z7 rfl (w7 rfl rfl (z8.fr2 (hy s L sort n cells hs hI)) rfl ?_)
  rintro _ _ ⟨L2,rfl,rfl,hI2⟩
  refine rn ?_;first
   |exact zdp .nil (.refl _ _) ⟨L2,hI2,rfl⟩
   |(obtain rfl:=Option.not_isSome_iff_eq_none.1 (show ¬st.isSome=true by simp [hg0_1])
     exact zdp .nil (.refl _ _) ⟨L,hI,rfl⟩)
 ·refine rn ?_;first
   |exact zdp .nil (.refl _ _) ⟨L2,hI2,rfl⟩
   |(obtain rfl:=Option.not_isSome_iff_eq_none.1 (show ¬st.isSome=true by simp [hg0_1])
     exact zdp .nil (.refl _ _) ⟨L,hI,rfl⟩)
theorem ybr {σ:Type} (step:σ→Nat×Int→Option σ) (ok:Nat×Int→Prop) (IJ:Option σ→List Res→Prop) (y:AV) (hy:∀(s:σ) (L:List Res) (sort:Nat) (n:Int) (cells:List AV),ok (sort,n)→IJ (some s) L→z8 Tryz.prog y [iv sort,.pp (iv n::cells)] L (fun r h'=>r=bv (step s (sort,n)).isSome∧IJ (step s (sort,n)) h')) (v:Ver) (hv:∀x∈ze3 v,ok x) (cells:List AV) (bs bm by_:Nat) (st:Option σ) (L:List Res) (hI:IJ st L):x3 Tryz.prog 146 [.pp (iv v.t::iv v.k::cells),pZ bs] (.box bs 216 [.fn (.func 145) [] [pZ bm,pZ by_]]:: .box bm 4 [bv (st).isSome]:: .box by_ 215 [y]::L) (fun r h'=>∃L',IJ (goes step st (ze3 v)) L'∧h'= .box bs 216 [.fn (.func 145) [] [pZ bm,pZ by_]]:: .box bm 4 [bv (goes step st (ze3 v)).isSome]:: .box by_ 215 [y]::L'):=by
 refine z6 Tryz.func146 rfl rfl rfl ?_
 refine rn ?_;refine y3 rfl (fun hc7=> ?_) (fun hc7=> ?_)
 ·refine j5 4 rfl ?_
  refine rn ?_;refine z7 rfl (w7 rfl rfl (z8.fr1 (z8.of_acall (fs:= []) (cs:= [pZ bm,pZ by_]) (zrl step ok IJ y hy 0 v.t (hv _ (by rw [ze3,if_pos hc7];simp)) (iv v.k::cells) bm by_ _ _ hI))) rfl ?_)
  rintro _ _ ⟨_,rfl,L2,hI2,rfl⟩
  refine rn ?_;first
   |(have hm:ze3 v= [(0,v.t)]:=by rw [ze3,if_pos hc7]
     rw [hm];exact zdp .nil (.refl _ _) ⟨L2,hI2,rfl⟩)
   |(have hm:ze3 v= []:=by rw [ze3,if_neg (by rw [hc7];decide)]
     rw [hm];exact zdp .nil (.refl _ _) ⟨L,hI,rfl⟩)
 ·refine rn ?_;first
   |(have hm:ze3 v= [(0,v.t)]:=by rw [ze3,if_pos hc7]
     rw [hm];exact zdp .nil (.refl _ _) ⟨L2,hI2,rfl⟩)
   |(have hm:ze3 v= []:=by rw [ze3,if_neg (by rw [hc7];decide)]
     rw [hm];exact zdp .nil (.refl _ _) ⟨L,hI,rfl⟩)
theorem yac {σ:Type} (step:σ→Nat×Int→Option σ) (ok:Nat×Int→Prop) (IJ:Option σ→List Res→Prop) (y:AV) (hone:y.cellsOf=some [y]) (hy:∀(s:σ) (L:List Res) (sort:Nat) (n:Int) (cells:List AV),ok (sort,n)→IJ (some s) L→z8 Tryz.prog y [iv sort,.pp (iv n::cells)] L (fun r h'=>r=bv (step s (sort,n)).isSome∧IJ (step s (sort,n)) h')) (h:Hist) (la:Lim 4611686018427387904 h) (b1 bh:Nat) (hok:∀x∈zcb h,ok x) (s0:σ) (L0:List Res) (h0:IJ (some s0) L0):x3 Tryz.prog 144 [y,pZ b1] (.box b1 168 [pZ bh]:: .box bh 28 (x6 h)::L0) (fun r h'=>∃L',IJ (goes step (some s0) (zcb h)) L'∧h'= .box b1 168 [pZ bh]:: .box bh 28 (x6 h)::L'):=by
 refine z6 Tryz.func144 rfl rfl rfl ?_
 refine rn ?_;refine z7 rfl (x9 rfl hone rfl fun by_=> ?_)
 refine rn ?_;refine z7 rfl (x5 rfl fun bm=> ?_)
 refine rn ?_;refine z7 rfl (x5 rfl fun bs=> ?_)
 refine rn ?_;refine j9 (fun x:Nat×Option σ×List Res=>x.1≤h.evs.length∧IJ x.2.1 x.2.2∧Rem step ok x.2.1 (((h.evs.drop x.1).flatMap evL)++(h.ords.flatMap ybd++(h.mats.flatMap zxn++h.wants.flatMap zvz))) (goes step (some s0) (zcb h))) (fun x=>⟨[(22,iv x.1),(21,iv (h.evs.map evR).length),(1,pZ b1),(4,pZ bs),(5,.fn (.func 146) [] [pZ bs])],.box b1 168 [pZ bh]:: .box bh 28 (x6 h):: .box bs 216 [.fn (.func 145) [] [pZ bm,pZ by_]]:: .box bm 4 [bv (x.2.1).isSome]:: .box by_ 215 [y]::x.2.2,[]⟩) (fun x=>h.evs.length - x.1) (0,some s0,L0) ⟨by omega,h0,rfl,hok⟩
  (v8 (zam ((pt3 _ _ _ _ _).trans (.cons _ (pt3 _ _ _ _ _)))) (w8 (.cons _ _ _ rfl (.cons _ _ _ rfl (.cons _ _ _ rfl (.cons _ _ _ rfl (.cons _ _ _ rfl (.nil)))))))) ?_
 rintro ⟨k,st,L⟩ ⟨hk,hI,hF⟩
 simp only at hk hI hF
 refine rn ?_;refine y3 rfl (fun hc23=> ?_) (fun hc23=> ?_)
 ·have k2:k < h.evs.length:=by simpa using hc23
  obtain ⟨e,he⟩:∃e,e=h.evs[k]:=⟨_,rfl⟩
  have hrowe:(h.evs.map evR)[k]? =some (evR e):=by rw [he];simp [k2]
  have hde:=List.drop_eq_getElem_cons k2
  rw [hde,←he] at hF
  simp only [List.flatMap_cons,evL,List.cons_append,List.append_assoc] at hF
  obtain ⟨hx,hF⟩:=hF.cons
  obtain ⟨hkx,hF⟩:=hF.app
  have hle:=la.evs
  have hls:=la.scans e (by rw [he];simp)
  refine rn ?_;refine j5 4 rfl ?_
  refine rn ?_;refine z7 rfl (w7 rfl rfl (z8.fr3 (z8.of_acall (fs:= []) (cs:= [pZ bm,pZ by_]) (zrl step ok IJ y hy 0 e.t hx _ bm by_ _ _ hI))) rfl ?_)
  rintro _ _ ⟨_,rfl,L,hI,rfl⟩
  refine rn0 ?_;refine zvf (fun L=>IJ (goes step (goes step st [(0,e.t)]) (ze5 e)) L) (fun L=>⟨[(7,.pp (evR e)),(22,iv k),(21,iv (h.evs.map evR).length),(1,pZ b1),(4,pZ bs),(5,.fn (.func 146) [] [pZ bs])],.box b1 168 [pZ bh]:: .box bh 28 (x6 h):: .box bs 216 [.fn (.func 145) [] [pZ bm,pZ by_]]:: .box bm 4 [bv (goes step (goes step st [(0,e.t)]) (ze5 e)).isSome]:: .box by_ 215 [y]::L,[]⟩) ?_ ?_
  ·refine rn ?_;refine y3 rfl (fun hc40=> ?_) (fun hc40=> ?_)
   ·have hkl:=zud (e:=e) (by simpa using hc40)
    refine j5 4 rfl ?_
    refine rn ?_;refine z7 rfl (w7 rfl rfl (z8.fr3 (z8.of_acall (fs:= []) (cs:= [pZ bm,pZ by_]) (zrl step ok IJ y hy 1 e.s (hkx _ (by rw [hkl];simp)) _ bm by_ _ _ hI))) rfl ?_)
    rintro _ _ ⟨_,rfl,L,hI,rfl⟩
    refine rn ?_;refine ⟨L,?_,?_⟩
    ·show IJ (goes step _ (ze5 e)) L
     rw [hkl];exact hI
    ·rw [hkl];exact (w8 (.cons _ _ _ rfl (.cons _ _ _ rfl (.cons _ _ _ rfl (.cons _ _ _ rfl (.cons _ _ _ rfl (.cons _ _ _ rfl (.nil))))))))
   ·have hn1:e.kind≠1:=by simpa using hc40
    refine rn ?_;refine y3 rfl (fun hc47=> ?_) (fun hc47=> ?_)
    ·have hk23:e.kind=2∨e.kind=3:=by simp at hc47;omega
     have hkl:=zjd hk23
     refine rn ?_;refine y3 rfl (fun hc47=> ?_) (fun hc47=> ?_)
     ·have hk23:e.kind=2∨e.kind=3:=by simp at hc47;omega
      have hkl:=zjd hk23
      refine rn ?_;refine j5 4 rfl ?_
      refine rn ?_;refine z7 rfl (w7 rfl rfl (z8.fr3 (z8.of_acall (fs:= []) (cs:= [pZ bm,pZ by_]) (zrl step ok IJ y hy 2 e.o (hkx _ (by rw [hkl];simp)) _ bm by_ _ _ hI))) rfl ?_)
      rintro _ _ ⟨_,rfl,L,hI,rfl⟩
      refine rn ?_;refine z7 rfl (w7 rfl rfl (z8.fr2 (z8.of_acall (fs:= []) (cs:= [pZ bs]) (ybr step ok IJ y hy e.v (fun x hx=>hkx x (by rw [hkl];simp [hx])) _ bs bm by_ _ _ hI))) rfl ?_)
      rintro _ _ ⟨_,rfl,L,hI,rfl⟩
      refine rn ?_;refine ⟨L,?_,?_⟩
      ·show IJ (goes step _ (ze5 e)) L
       rw [hkl];exact hI
      ·rw [hkl];exact (w8 (.cons _ _ _ rfl (.cons _ _ _ rfl (.cons _ _ _ rfl (.cons _ _ _ rfl (.cons _ _ _ rfl (.cons _ _ _ rfl (.nil))))))))
     ·first|cases hc47|exact absurd hc47 (by decide)|(exfalso;simp_all;done)
    ·have hn23:=hc47
     simp at hn23
     refine rn ?_;refine y3 rfl (fun hc47=> ?_) (fun hc47=> ?_)
     ·have hk23:e.kind=2∨e.kind=3:=by simp at hc47;omega
      have hkl:=zjd hk23
      refine rn ?_;refine j5 4 rfl ?_
      refine rn ?_;refine z7 rfl (w7 rfl rfl (z8.fr3 (z8.of_acall (fs:= []) (cs:= [pZ bm,pZ by_]) (zrl step ok IJ y hy 2 e.o (hkx _ (by rw [hkl];simp)) _ bm by_ _ _ hI))) rfl ?_)
      rintro _ _ ⟨_,rfl,L,hI,rfl⟩
      refine rn ?_;refine z7 rfl (w7 rfl rfl (z8.fr2 (z8.of_acall (fs:= []) (cs:= [pZ bs]) (ybr step ok IJ y hy e.v (fun x hx=>hkx x (by rw [hkl];simp [hx])) _ bs bm by_ _ _ hI))) rfl ?_)
      rintro _ _ ⟨_,rfl,L,hI,rfl⟩
      refine rn ?_;refine ⟨L,?_,?_⟩
      ·show IJ (goes step _ (ze5 e)) L
       rw [hkl];exact hI
      ·rw [hkl];exact (w8 (.cons _ _ _ rfl (.cons _ _ _ rfl (.cons _ _ _ rfl (.cons _ _ _ rfl (.cons _ _ _ rfl (.cons _ _ _ rfl (.nil))))))))
     ·have hn23:=hc47
      simp at hn23
      refine rn ?_;refine y3 rfl (fun hc60=> ?_) (fun hc60=> ?_)
      ·have hkl:=zuc (e:=e) (by simpa using hc60)
       refine j5 4 rfl ?_
       refine rn ?_;refine z7 rfl (w7 rfl rfl (z8.fr3 (z8.of_acall (fs:= []) (cs:= [pZ bm,pZ by_]) (zrl step ok IJ y hy 3 e.p (hkx _ (by rw [hkl];simp)) _ bm by_ _ _ hI))) rfl ?_)
       rintro _ _ ⟨_,rfl,L,hI,rfl⟩
       refine rn ?_;refine ⟨L,?_,?_⟩
       ·show IJ (goes step _ (ze5 e)) L
        rw [hkl];exact hI
       ·rw [hkl];exact (w8 (.cons _ _ _ rfl (.cons _ _ _ rfl (.cons _ _ _ rfl (.cons _ _ _ rfl (.cons _ _ _ rfl (.cons _ _ _ rfl (.nil))))))))
      ·have hn4:e.kind≠4:=by simpa using hc60
       have hkl:=zue (e:=e) hn1 (by omega) (by omega) hn4
       refine rn ?_;refine ⟨L,?_,?_⟩
       ·show IJ (goes step _ (ze5 e)) L
        rw [hkl];exact hI
       ·rw [hkl];exact (w8 (.cons _ _ _ rfl (.cons _ _ _ rfl (.cons _ _ _ rfl (.cons _ _ _ rfl (.cons _ _ _ rfl (.cons _ _ _ rfl (.nil))))))))
  ·rintro L hI
   revert hI hF
   generalize goes step (goes step st [(0,e.t)]) (ze5 e)=st2
   intro hF hI
   refine rn ?_;refine j9 (fun x:Nat×Option σ×List Res=>x.1≤e.scan.length∧IJ x.2.1 x.2.2∧Rem step ok x.2.1 (((e.scan.drop x.1).flatMap zs5)++(((h.evs.drop (k+1)).flatMap evL)++(h.ords.flatMap ybd++(h.mats.flatMap zxn++h.wants.flatMap zvz)))) (goes step (some s0) (zcb h))) (fun x=>⟨[(72,iv x.1),(71,iv (e.scan.map zbm).length),(7,.pp (evR e)),(22,iv k),(21,iv (h.evs.map evR).length),(1,pZ b1),(4,pZ bs),(5,.fn (.func 146) [] [pZ bs])],.box b1 168 [pZ bh]:: .box bh 28 (x6 h):: .box bs 216 [.fn (.func 145) [] [pZ bm,pZ by_]]:: .box bm 4 [bv (x.2.1).isSome]:: .box by_ 215 [y]::x.2.2,[]⟩) (fun x=>e.scan.length - x.1) (0,st2,L) ⟨by omega,hI,hF⟩
    (w8 (.cons _ _ _ rfl (.cons _ _ _ rfl (.cons _ _ _ rfl (.cons _ _ _ rfl (.cons _ _ _ rfl (.cons _ _ _ rfl (.cons _ _ _ rfl (.cons _ _ _ rfl (.nil)))))))))) ?_
   rintro ⟨j,st,L⟩ ⟨hj,hI,hF⟩
   simp only at hj hI hF
   refine rn ?_;refine y3 rfl (fun hc73=> ?_) (fun hc73=> ?_)
   ·have j2:j < e.scan.length:=by simpa using hc73
    obtain ⟨x,hx⟩:∃x,x=e.scan[j]:=⟨_,rfl⟩
    have hrowx:(e.scan.map zbm)[j]? =some (zbm x):=by rw [hx];simp [j2]
    have hdx:=List.drop_eq_getElem_cons j2
    rw [hdx,←hx] at hF
    simp only [List.flatMap_cons,zs5,List.cons_append,List.append_assoc] at hF
    obtain ⟨hx,hF⟩:=hF.cons
    obtain ⟨hkx,hF⟩:=hF.app
    refine rn ?_;refine j5 8 rfl ?_
    refine rn ?_;refine z7 rfl (w7 rfl rfl (z8.fr3 (z8.of_acall (fs:= []) (cs:= [pZ bm,pZ by_]) (zrl step ok IJ y hy 2 x.o hx _ bm by_ _ _ hI))) rfl ?_)
    rintro _ _ ⟨_,rfl,L,hI,rfl⟩
    refine rn ?_;refine z7 rfl (w7 rfl rfl (z8.fr2 (z8.of_acall (fs:= []) (cs:= [pZ bs]) (ybr step ok IJ y hy x.v hkx _ bs bm by_ _ _ hI))) rfl ?_)
    rintro _ _ ⟨_,rfl,L,hI,rfl⟩
    refine rn ?_;exact ⟨(j+1,_,L),⟨by omega,hI,hF⟩,(w8 (.cons _ _ _ rfl (.cons _ _ _ rfl (.cons _ _ _ rfl (.cons _ _ _ rfl (.cons _ _ _ rfl (.cons _ _ _ rfl (.cons _ _ _ rfl (.cons _ _ _ rfl (.nil)))))))))),by simp only;omega⟩
   ·obtain rfl:j=e.scan.length:=by
     have:e.scan.length≤j:=by simpa using hc73
     omega
    rw [List.drop_length,List.flatMap_nil,List.nil_append] at hF
    refine rn ?_;exact ⟨(k+1,_,L),⟨by omega,hI,hF⟩,(w8 (.cons _ _ _ rfl (.cons _ _ _ rfl (.cons _ _ _ rfl (.cons _ _ _ rfl (.cons _ _ _ rfl (.nil))))))),by simp only;omega⟩
 ·obtain rfl:k=h.evs.length:=by
   have:h.evs.length≤k:=by simpa using hc23
   omega
  rw [List.drop_length,List.flatMap_nil,List.nil_append] at hF
  refine rn ?_;refine j9 (fun x:Nat×Option σ×List Res=>x.1≤h.ords.length∧IJ x.2.1 x.2.2∧Rem step ok x.2.1 (((h.ords.drop x.1).flatMap ybd)++(h.mats.flatMap zxn++h.wants.flatMap zvz)) (goes step (some s0) (zcb h))) (fun x=>⟨[(100,iv x.1),(99,iv (h.ords.map zdk).length),(1,pZ b1),(4,pZ bs),(5,.fn (.func 146) [] [pZ bs])],.box b1 168 [pZ bh]:: .box bh 28 (x6 h):: .box bs 216 [.fn (.func 145) [] [pZ bm,pZ by_]]:: .box bm 4 [bv (x.2.1).isSome]:: .box by_ 215 [y]::x.2.2,[]⟩) (fun x=>h.ords.length - x.1) (0,st,L) ⟨by omega,hI,hF⟩
   (w8 (.cons _ _ _ rfl (.cons _ _ _ rfl (.cons _ _ _ rfl (.cons _ _ _ rfl (.cons _ _ _ rfl (.nil))))))) ?_
  rintro ⟨k,st,L⟩ ⟨hk,hI,hF⟩
  simp only at hk hI hF
  refine rn ?_;refine y3 rfl (fun hc101=> ?_) (fun hc101=> ?_)
  ·have k2:k < h.ords.length:=by simpa using hc101
   obtain ⟨r,hr⟩:∃r,r=h.ords[k]:=⟨_,rfl⟩
   have hrowr:(h.ords.map zdk)[k]? =some (zdk r):=by rw [hr];simp [k2]
   have hdr:=List.drop_eq_getElem_cons k2
   rw [hdr,←hr] at hF
   simp only [List.flatMap_cons,ybd,List.cons_append,List.append_assoc] at hF
   obtain ⟨hx,hF⟩:=hF.cons
   have hle:=la.ords
   have hls:=la.ordts r (by rw [hr];simp)
   refine rn ?_;refine j5 8 rfl ?_
   refine rn ?_;refine z7 rfl (w7 rfl rfl (z8.fr3 (z8.of_acall (fs:= []) (cs:= [pZ bm,pZ by_]) (zrl step ok IJ y hy 2 r.o hx _ bm by_ _ _ hI))) rfl ?_)
   rintro _ _ ⟨_,rfl,L,hI,rfl⟩
   refine rn ?_;refine j9 (fun x:Nat×Option σ×List Res=>x.1≤r.ts.length∧IJ x.2.1 x.2.2∧Rem step ok x.2.1 (((r.ts.drop x.1).map fun t=>((0:Nat),t))++(((h.ords.drop (k+1)).flatMap ybd)++(h.mats.flatMap zxn++h.wants.flatMap zvz))) (goes step (some s0) (zcb h))) (fun x=>⟨[(121,iv x.1),(120,iv (r.ts.map zcz).length),(9,iv k),(100,iv k),(99,iv (h.ords.map zdk).length),(1,pZ b1),(4,pZ bs),(5,.fn (.func 146) [] [pZ bs])],.box b1 168 [pZ bh]:: .box bh 28 (x6 h):: .box bs 216 [.fn (.func 145) [] [pZ bm,pZ by_]]:: .box bm 4 [bv (x.2.1).isSome]:: .box by_ 215 [y]::x.2.2,[]⟩) (fun x=>r.ts.length - x.1) (0,_,L) ⟨by omega,hI,hF⟩
    (w8 (.cons _ _ _ rfl (.cons _ _ _ rfl (.cons _ _ _ rfl (.cons _ _ _ rfl (.cons _ _ _ rfl (.cons _ _ _ rfl (.cons _ _ _ rfl (.cons _ _ _ rfl (.nil)))))))))) ?_
   rintro ⟨j,st,L⟩ ⟨hj,hI,hF⟩
   simp only at hj hI hF
   refine rn ?_;refine y3 rfl (fun hc122=> ?_) (fun hc122=> ?_)
   ·have j2:j < r.ts.length:=by simpa using hc122
    obtain ⟨t,ht⟩:∃t,t=r.ts[j]:=⟨_,rfl⟩
    have hrowt:(r.ts.map zcz)[j]? =some (zcz t):=by rw [ht];simp [j2]
    have hdt:=List.drop_eq_getElem_cons j2
    rw [hdt,←ht] at hF
    simp only [List.map_cons,List.cons_append] at hF
    obtain ⟨hx,hF⟩:=hF.cons
    refine rn ?_;refine j5 11 rfl ?_
    refine rn ?_;refine z7 rfl (w7 rfl rfl (z8.fr3 (z8.of_acall (fs:= []) (cs:= [pZ bm,pZ by_]) (zrl step ok IJ y hy 0 t hx _ bm by_ _ _ hI))) rfl ?_)
    rintro _ _ ⟨_,rfl,L,hI,rfl⟩
    refine rn ?_;exact ⟨(j+1,_,L),⟨by omega,hI,hF⟩,(w8 (.cons _ _ _ rfl (.cons _ _ _ rfl (.cons _ _ _ rfl (.cons _ _ _ rfl (.cons _ _ _ rfl (.cons _ _ _ rfl (.cons _ _ _ rfl (.cons _ _ _ rfl (.nil)))))))))),by simp only;omega⟩
   ·obtain rfl:j=r.ts.length:=by
     have:r.ts.length≤j:=by simpa using hc122
     omega
    rw [List.drop_length,List.map_nil,List.nil_append] at hF
    refine rn ?_;exact ⟨(k+1,_,L),⟨by omega,hI,hF⟩,(w8 (.cons _ _ _ rfl (.cons _ _ _ rfl (.cons _ _ _ rfl (.cons _ _ _ rfl (.cons _ _ _ rfl (.nil))))))),by simp only;omega⟩
  ·obtain rfl:k=h.ords.length:=by
    have:h.ords.length≤k:=by simpa using hc101
    omega
   rw [List.drop_length,List.flatMap_nil,List.nil_append] at hF
   refine rn ?_;refine j9 (fun x:Nat×Option σ×List Res=>x.1≤h.mats.length∧IJ x.2.1 x.2.2∧Rem step ok x.2.1 (((h.mats.drop x.1).flatMap zxn)++h.wants.flatMap zvz) (goes step (some s0) (zcb h))) (fun x=>⟨[(143,iv x.1),(142,iv (h.mats.map zf0).length),(1,pZ b1),(4,pZ bs),(5,.fn (.func 146) [] [pZ bs])],.box b1 168 [pZ bh]:: .box bh 28 (x6 h):: .box bs 216 [.fn (.func 145) [] [pZ bm,pZ by_]]:: .box bm 4 [bv (x.2.1).isSome]:: .box by_ 215 [y]::x.2.2,[]⟩) (fun x=>h.mats.length - x.1) (0,st,L) ⟨by omega,hI,hF⟩
    (w8 (.cons _ _ _ rfl (.cons _ _ _ rfl (.cons _ _ _ rfl (.cons _ _ _ rfl (.cons _ _ _ rfl (.nil))))))) ?_
   rintro ⟨k,st,L⟩ ⟨hk,hI,hF⟩
   simp only at hk hI hF
   refine rn ?_;refine y3 rfl (fun hc144=> ?_) (fun hc144=> ?_)
   ·have k2:k < h.mats.length:=by simpa using hc144
    obtain ⟨r,hr⟩:∃r,r=h.mats[k]:=⟨_,rfl⟩
    have hrowr:(h.mats.map zf0)[k]? =some (zf0 r):=by rw [hr];simp [k2]
    have hdr:=List.drop_eq_getElem_cons k2
    rw [hdr,←hr] at hF
    simp only [List.flatMap_cons,zxn,List.cons_append,List.append_assoc] at hF
    obtain ⟨hx,hF⟩:=hF.cons
    obtain ⟨hx2,hF⟩:=hF.cons
    have hle:=la.mats
    have hls:=la.matts r (by rw [hr];simp)
    refine rn ?_;refine j5 4 rfl ?_
    refine rn ?_;refine z7 rfl (w7 rfl rfl (z8.fr3 (z8.of_acall (fs:= []) (cs:= [pZ bm,pZ by_]) (zrl step ok IJ y hy 3 r.p hx _ bm by_ _ _ hI))) rfl ?_)
    rintro _ _ ⟨_,rfl,L,hI,rfl⟩
    refine rn ?_;refine j5 4 rfl ?_
    refine rn ?_;refine z7 rfl (w7 rfl rfl (z8.fr3 (z8.of_acall (fs:= []) (cs:= [pZ bm,pZ by_]) (zrl step ok IJ y hy 2 r.o hx2 _ bm by_ _ _ hI))) rfl ?_)
    rintro _ _ ⟨_,rfl,L,hI,rfl⟩
    refine rn ?_;refine j9 (fun x:Nat×Option σ×List Res=>x.1≤r.ts.length∧IJ x.2.1 x.2.2∧Rem step ok x.2.1 (((r.ts.drop x.1).map fun t=>((0:Nat),t))++(((h.mats.drop (k+1)).flatMap zxn)++h.wants.flatMap zvz)) (goes step (some s0) (zcb h))) (fun x=>⟨[(167,iv x.1),(166,iv (r.ts.map zcz).length),(12,.pp (zf0 r)),(143,iv k),(142,iv (h.mats.map zf0).length),(1,pZ b1),(4,pZ bs),(5,.fn (.func 146) [] [pZ bs])],.box b1 168 [pZ bh]:: .box bh 28 (x6 h):: .box bs 216 [.fn (.func 145) [] [pZ bm,pZ by_]]:: .box bm 4 [bv (x.2.1).isSome]:: .box by_ 215 [y]::x.2.2,[]⟩) (fun x=>r.ts.length - x.1) (0,_,L) ⟨by omega,hI,hF⟩
     (w8 (.cons _ _ _ rfl (.cons _ _ _ rfl (.cons _ _ _ rfl (.cons _ _ _ rfl (.cons _ _ _ rfl (.cons _ _ _ rfl (.cons _ _ _ rfl (.cons _ _ _ rfl (.nil)))))))))) ?_
    rintro ⟨j,st,L⟩ ⟨hj,hI,hF⟩
    simp only at hj hI hF
    refine rn ?_;refine y3 rfl (fun hc168=> ?_) (fun hc168=> ?_)
    ·have j2:j < r.ts.length:=by simpa using hc168
     obtain ⟨t,ht⟩:∃t,t=r.ts[j]:=⟨_,rfl⟩
     have hrowt:(r.ts.map zcz)[j]? =some (zcz t):=by rw [ht];simp [j2]
     have hdt:=List.drop_eq_getElem_cons j2
     rw [hdt,←ht] at hF
     simp only [List.map_cons,List.cons_append] at hF
     obtain ⟨hx,hF⟩:=hF.cons
     refine rn ?_;refine j5 7 rfl ?_
     refine rn ?_;refine z7 rfl (w7 rfl rfl (z8.fr3 (z8.of_acall (fs:= []) (cs:= [pZ bm,pZ by_]) (zrl step ok IJ y hy 0 t hx _ bm by_ _ _ hI))) rfl ?_)
     rintro _ _ ⟨_,rfl,L,hI,rfl⟩
     refine rn ?_;exact ⟨(j+1,_,L),⟨by omega,hI,hF⟩,(w8 (.cons _ _ _ rfl (.cons _ _ _ rfl (.cons _ _ _ rfl (.cons _ _ _ rfl (.cons _ _ _ rfl (.cons _ _ _ rfl (.cons _ _ _ rfl (.cons _ _ _ rfl (.nil)))))))))),by simp only;omega⟩
    ·obtain rfl:j=r.ts.length:=by
      have:r.ts.length≤j:=by simpa using hc168
      omega
     rw [List.drop_length,List.map_nil,List.nil_append] at hF
     refine rn ?_;exact ⟨(k+1,_,L),⟨by omega,hI,hF⟩,(w8 (.cons _ _ _ rfl (.cons _ _ _ rfl (.cons _ _ _ rfl (.cons _ _ _ rfl (.cons _ _ _ rfl (.nil))))))),by simp only;omega⟩
   ·obtain rfl:k=h.mats.length:=by
     have:h.mats.length≤k:=by simpa using hc144
     omega
    rw [List.drop_length,List.flatMap_nil,List.nil_append] at hF
    refine rn ?_;refine j9 (fun x:Nat×Option σ×List Res=>x.1≤h.wants.length∧IJ x.2.1 x.2.2∧Rem step ok x.2.1 (((h.wants.drop x.1).flatMap zvz)++ []) (goes step (some s0) (zcb h))) (fun x=>⟨[(185,iv x.1),(184,iv (h.wants.map zfq).length),(1,pZ b1),(4,pZ bs),(5,.fn (.func 146) [] [pZ bs])],.box b1 168 [pZ bh]:: .box bh 28 (x6 h):: .box bs 216 [.fn (.func 145) [] [pZ bm,pZ by_]]:: .box bm 4 [bv (x.2.1).isSome]:: .box by_ 215 [y]::x.2.2,[]⟩) (fun x=>h.wants.length - x.1) (0,st,L) ⟨by omega,hI,by rw [List.append_nil];exact hF⟩
     (w8 (.cons _ _ _ rfl (.cons _ _ _ rfl (.cons _ _ _ rfl (.cons _ _ _ rfl (.cons _ _ _ rfl (.nil))))))) ?_
    rintro ⟨k,st,L⟩ ⟨hk,hI,hF⟩
    simp only at hk hI hF
    refine rn ?_;refine y3 rfl (fun hc186=> ?_) (fun hc186=> ?_)
    ·have k2:k < h.wants.length:=by simpa using hc186
     obtain ⟨r,hr⟩:∃r,r=h.wants[k]:=⟨_,rfl⟩
     have hrowr:(h.wants.map zfq)[k]? =some (zfq r):=by rw [hr];simp [k2]
     have hdr:=List.drop_eq_getElem_cons k2
     rw [hdr,←hr] at hF
     simp only [List.flatMap_cons,zvz,List.cons_append,List.append_assoc,List.nil_append] at hF
     obtain ⟨hx,hF⟩:=hF.cons
     have hle:=la.wants
     refine rn ?_;refine j5 8 rfl ?_
     refine rn ?_;refine z7 rfl (w7 rfl rfl (z8.fr3 (z8.of_acall (fs:= []) (cs:= [pZ bm,pZ by_]) (zrl step ok IJ y hy 1 r.s hx _ bm by_ _ _ hI))) rfl ?_)
     rintro _ _ ⟨_,rfl,L,hI,rfl⟩
     refine rn ?_;exact ⟨(k+1,_,L),⟨by omega,hI,hF⟩,(w8 (.cons _ _ _ rfl (.cons _ _ _ rfl (.cons _ _ _ rfl (.cons _ _ _ rfl (.cons _ _ _ rfl (.nil))))))),by simp only;omega⟩
    ·obtain rfl:k=h.wants.length:=by
      have:h.wants.length≤k:=by simpa using hc186
      omega
     rw [List.drop_length,List.flatMap_nil,List.nil_append] at hF
     refine rn ?_;have hF':st=goes step (some s0) (zcb h):=hF.fin
     exact zdp .nil (.trans (.perm ((pt2 _ _ _ _).trans (.cons _ ((pt2 _ _ _ _).trans (.cons _ (pt2 _ _ _ _))))) _) (.drop [_,_,_] _ _)) ⟨L,hF' ▸ hI,rfl⟩
theorem zyy (bh:Nat) (h:List Res):x3 Tryz.prog 104 [pZ bh] h (fun r h'=>∃b1,h'= .box b1 168 [pZ bh]::h∧r= .fn (.func 144) [] [pZ b1]):=by
 refine z6 Tryz.func104 rfl rfl rfl ?_
 refine rn ?_;refine z7 rfl (x9 rfl rfl rfl fun b1=> ?_)
 refine rn ?_;exact zab rfl (.refl _ _) ⟨_,rfl,rfl⟩
def IJC (lp:LP) (q b2 b3:Nat):Option (List Int)→List Res→Prop
 |some m,L=>L=lp .ready none:: .defs q:: .box b3 148 ((m).map iv):: .box b2 32 [iv 0]:: [.glob 3 148 y8,.glob 5 276 y9,.glob 6 279 y4]∧m.length=4
 |none,L=>∃m:List Int,L=lp .done (some .ret):: .defs q:: .box b3 148 ((m).map iv):: .box b2 32 [iv 210]:: [.glob 3 148 y8,.glob 5 276 y9,.glob 6 279 y4]
theorem yf3 (h:Hist) (la:Lim 4611686018427387904 h):x3 Tryz.prog 51 [.agg (x6 h)] [.glob 3 148 y8,.glob 5 276 y9,.glob 6 279 y4] (fun r h'=>h'= [.glob 3 148 y8,.glob 5 276 y9,.glob 6 279 y4]∧r=iv (zcl h)):=by
 refine z6 Tryz.func51 rfl rfl rfl ?_
 refine rn ?_;refine z7 rfl (x9 rfl rfl rfl fun b1=> ?_)
 refine z7 rfl (x5 rfl fun b2=> ?_)
 refine rn ?_;refine qv rfl rfl (y6 rfl rfl (z8.qt (z8.of_fun (ydo h la)) ((pt2 _ _ _ _).trans (.cons _ ((pt2 _ _ _ _).trans (.cons _ (pt2 _ _ _ _))))))) ?_
 refine rn ?_;refine y3 rfl (fun hc10=> ?_) (fun hc10=> ?_)
 ·have hs:zah h=false:=zxc hc10
  refine rn ?_;exact zfr (.cons _ _ _ _ (.one _ _ _ _ _ _ _ rfl inferInstance inferInstance rfl) .nil) (.drop [_,_] _ _) ⟨rfl,congrArg iv (zye hs).symm⟩
 ·have hs:zah h=true:=zxd hc10
  refine rn ?_;refine z7 rfl (x5 rfl fun b3=> ?_)
  refine rn ?_;refine z7 rfl (w7 rfl rfl (z8.of_fun (zyy b1 _)) rfl ?_)
  rintro _ _ ⟨b1',rfl,rfl⟩
  refine rn ?_;refine zl7 (fun pend h''=>(pend=none∧∃m:List Int,zm2 h=some m∧m.length=4∧h''= .box b1' 168 [pZ b1]:: .box b1 28 (x6 h):: .box b3 148 ((m).map iv):: .box b2 32 [iv 0]:: [.glob 3 148 y8,.glob 5 276 y9,.glob 6 279 y4])∨(pend=some .ret∧zm2 h=none∧∃m:List Int,h''= .box b1' 168 [pZ b1]:: .box b1 28 (x6 h):: .box b3 148 ((m).map iv):: .box b2 32 [iv 210]:: [.glob 3 148 y8,.glob 5 276 y9,.glob 6 279 y4])) rfl (fun fn l q lp hlp=> ?_) (fun q h'' hK=> ?_) (fun q h'' c hK=> ?_)
  ·suffices hy:∀(s:List Int) (L:List Res) (sort:Nat) (n:Int) (cells:List AV),OkN h (sort,n)→IJC lp q b2 b3 (some s) L→z8 Tryz.prog (yv l) [iv sort,.pp (iv n::cells)] L (fun r h'=>r=bv (zc6 s (sort,n)).isSome∧IJC lp q b2 b3 (zc6 s (sort,n)) h') by
    refine x3.mono (x3.perm ((pt2 _ _ _ _).trans (.cons _ (pt4 _ _ _ _ _ _))) (yac zc6 (OkN h) (IJC lp q b2 b3) (yv l) rfl hy h la b1' b1 (zsx hs) [0,0,0,0] _ ⟨rfl,rfl⟩)) ?_
    rintro _ _ ⟨L',hI,rfl⟩
    cases hm:goes zc6 (some [0,0,0,0]) (zcb h) with
    |some m=>
     rw [hm] at hI
     obtain ⟨rfl,hl⟩:=hI
     exact ⟨_,_,_,((pt2 _ _ _ _).trans (.cons _ (pt2 _ _ _ _))),by simp,.inl ⟨rfl,m,hm,hl,rfl⟩⟩
    |none=>
     rw [hm] at hI
     obtain ⟨m,rfl⟩:=hI
     exact ⟨_,_,_,((pt2 _ _ _ _).trans (.cons _ (pt2 _ _ _ _))),by simp,.inr ⟨rfl,hm,m,rfl⟩⟩
   rintro m _ sort n cells ⟨hs4,hn0,hn1⟩ ⟨rfl,hl⟩
   simp only at hs4 hn0 hn1
   have hnm:=la.nm sort
   refine zq3 hlp rfl rfl ?_
   refine rn ?_;refine ⟨[(4,iv sort),(5,.pp (iv n::cells)),(3,pZ b3),(2,pZ b2)],(w8 (.cons _ _ _ rfl (.cons _ _ _ rfl (.cons _ _ _ rfl (.cons _ _ _ rfl (.nil)))))),?_⟩
   refine rn ?_;refine j5 6 rfl ?_
   refine dq rfl rfl qrA ?_;refine dq rfl rfl qrA ?_;refine dq rfl rfl qrA ?_;refine dq rfl rfl qrA ?_;refine dq rfl rfl (u7 rfl rfl hs4) ?_
   refine dq rfl rfl (j3 rfl (yhz hl hs4)) ?_
   refine rn ?_;refine y3 rfl (fun hc20=> ?_) (fun hc20=> ?_)
   ·refine rn ?_;have hst:zc6 m (sort,n)=none:=by rw [zc6];exact if_pos (by simpa using hc20)
    exact zlg (.refl _) (by rw [hst];exact ⟨rfl,_,rfl⟩)
   ·refine rn ?_;refine j5 9 rfl ?_
    refine dq rfl rfl qrA ?_;refine dq rfl rfl qrA ?_;refine dq rfl rfl (u7 rfl rfl hs4) ?_
    refine dq rfl rfl (j3 rfl (yhz hl hs4)) ?_
    refine rn2 ?_;refine qq rfl rfl (u7 rfl rfl hs4) ?_
    refine z7 rfl (zaq rfl rfl rfl rfl (by simp [hl];omega) ?_)
    refine rn ?_;have hst:zc6 m (sort,n)=some (m.set sort (max (m.getD sort 0) (n+1))):=by rw [zc6];exact if_neg (by simpa using hc20)
    exact zf8 (.refl _) (by rw [hst];exact ⟨rfl,by rw [←yi4 hl hs4];rfl,by simpa using hl⟩)
  ·obtain ⟨_,m,hm,hl,rfl⟩|⟨hc,_⟩:=hK
   rotate_left
   ·cases hc
   refine rn ?_;refine qv rfl rfl (y6 rfl rfl (zbr (ybh _) (Sbs.refl _))) ?_
   refine rn ?_;refine j9 (fun k:Nat=>k≤4∧∀j,j < k→m.getD j 0=(nmK h j).length) (fun k=>⟨[(33,iv k),(32,.agg (zhr h)),(3,pZ b3),(2,pZ b2)],.defs q:: .box b1' 168 [pZ b1]:: .box b1 28 (x6 h):: .box b3 148 ((m).map iv):: .box b2 32 [iv 0]:: [.glob 3 148 y8,.glob 5 276 y9,.glob 6 279 y4],[q]⟩) (fun k=>4 - k) 0 ⟨by omega,fun j hj=>absurd hj (Nat.not_lt_zero j)⟩
    (w8 (.cons _ _ _ rfl (.cons _ _ _ rfl (.cons _ _ _ rfl (.cons _ _ _ rfl (.nil)))))) ?_
   rintro k ⟨hk,hz⟩
   refine rn ?_;refine y3 rfl (fun hc34=> ?_) (fun hc34=> ?_)
   ·have hk4:k < 4:=by simp at hc34;omega
    refine zad ?_;refine j7 ?_;refine x8 ?_;refine zac ?_;refine x8 (y7 ?_)
    refine q1 ?_;refine qq rfl rfl (zb1 rfl rfl (by omega) (by have:=ztw h hk4;simpa using this)) ?_
    refine q1 ?_;refine q1 ?_;refine u2 (j7 ?_)
    refine x8 (y7 ?_)
    refine q1 ?_;refine qq rfl rfl (u7 rfl rfl hk4) ?_
    refine qq rfl rfl (j3 rfl (yhz hl hk4)) ?_
    refine rn ?_;refine y3 rfl (fun hc42=> ?_) (fun hc42=> ?_)
    ·refine rn ?_;exact zgq (.refl _) (.cons _ _ _ _ (.one _ _ _ _ _ _ _ rfl inferInstance inferInstance rfl) .nil) (.drop [_,_,_,_] _ _) ⟨rfl,congrArg iv (zyf hm hk4 (by simpa using hc42)).symm⟩
    ·refine rn ?_;exact ⟨k+1,⟨by omega,fun j hj=>by
      by_cases hjk:j=k
      ·subst hjk;simpa using hc42
      ·exact hz j (by omega)⟩,(w8 (.cons _ _ _ rfl (.cons _ _ _ rfl (.cons _ _ _ rfl (.cons _ _ _ rfl (.nil)))))),by omega⟩
   ·have hk4:k=4:=by simp at hc34;omega
    subst hk4
    refine rn ?_;exact zgq (.refl _) (.cons _ _ _ _ (.one _ _ _ _ _ _ _ rfl inferInstance inferInstance rfl) .nil) (.drop [_,_,_,_] _ _) ⟨rfl,congrArg iv (zyg hs hm hl hz).symm⟩
  ·obtain ⟨hc,_⟩|⟨hc,hm,m,rfl⟩:=hK
   ·cases hc
   obtain rfl:c= .ret:=by simpa using hc
   refine rn ?_;exact zgq (.refl _) (.cons _ _ _ _ (.one _ _ _ _ _ _ _ rfl inferInstance inferInstance rfl) .nil) (.drop [_,_,_,_] _ _) ⟨rfl,congrArg iv (zsb hm).symm⟩
attribute [local irreducible] zdh jch zeh
def u3:List AV:= [.any,.fn (.func 245) [] [],.fn (.func 249) [] [],.fn (.func 250) [] [],.fn (.func 251) [] [],.fn (.func 252) [] [],.fn (.func 253) [] [],.fn (.func 254) [] [],.fn (.func 255) [] [],.fn (.func 256) [] [],.fn (.func 257) [] []]
def ygz (k:Nat):AV:=u3.getD k .any
theorem ycw {k:Nat} (h2:k≤10):u3[k]? =some (ygz k):=by
 have:k < u3.length:=by show k < 11;omega
 rw [ygz,List.getD_eq_getElem?_getD,List.getElem?_eq_getElem this];rfl
theorem zym (h:Hist) (la:Lim 3000 h) (b:Nat) (G:List Res) {k:Nat} (h1:1≤k) (h2:k≤10):z8 Tryz.prog (ygz k) [pZ b] (.box b 203 (za2 h)::G) (fun r h'=>h'=G∧r=zai (zbn h k)):=by
 match k,h1,h2 with
 |1,_,_=>exact z8.of_acall (fs:= []) (cs:= []) (yef h la b G)
 |2,_,_=>exact z8.of_acall (fs:= []) (cs:= []) (yje h la b G)
 |3,_,_=>exact z8.of_acall (fs:= []) (cs:= []) (yee h la b G)
 |4,_,_=>exact z8.of_acall (fs:= []) (cs:= []) (zwv h la b G)
 |5,_,_=>exact z8.of_acall (fs:= []) (cs:= []) (yja h la b G)
 |6,_,_=>exact z8.of_acall (fs:= []) (cs:= []) (yhc h la b G)
 |7,_,_=>exact z8.of_acall (fs:= []) (cs:= []) (yd8 h la b G)
 |8,_,_=>exact z8.of_acall (fs:= []) (cs:= []) (zwy h la b G)
 |9,_,_=>exact z8.of_acall (fs:= []) (cs:= []) (yeb h la b G)
 |10,_,_=>exact z8.of_acall (fs:= []) (cs:= []) (yha h la b G)
 |k+11,_,h2=>omega
theorem ybb {o:Option Nat} {i:Int} {b:Bool} (h:zai o= .tup [iv i,bv b]):i=yjg o∧b=o.isSome:=by
 cases o with
 |none=>simp only [zai,AV.tup.injEq,List.cons.injEq,AV.v.injEq,Value.int.injEq,Value.bool.injEq,true_and,and_true] at h;exact ⟨h.1.symm,h.2.symm⟩
 |some n=>simp only [zai,AV.tup.injEq,List.cons.injEq,AV.v.injEq,Value.int.injEq,Value.bool.injEq,true_and,and_true] at h;exact ⟨h.1.symm,h.2.symm⟩
theorem zoy {h:Hist} (hm:zer h=true):Lim 3000 h:=by
 unfold zer at hm;simp only [Bool.and_eq_true] at hm;exact zrj hm.1
theorem yed (h:Hist) (la:Lim 4611686018427387904 h):x3 Tryz.prog 91 [.agg (x6 h)] [.glob 3 148 y8,.glob 5 276 y9,.glob 6 279 y4,.glob 2 197 u3] (fun r h'=>h'= [.glob 3 148 y8,.glob 5 276 y9,.glob 6 279 y4,.glob 2 197 u3]∧r=zfm h):=by
 refine z6 Tryz.func91 rfl rfl rfl ?_
 refine rn ?_;refine z7 rfl (x9 rfl rfl rfl fun b1=> ?_)
 refine z7 rfl (x5 rfl fun b2=> ?_)
 refine rn ?_;refine qv rfl rfl (y6 rfl rfl (z8.qt (z8.of_fun (yf3 h la)) ((pt2 _ _ _ _).trans (.cons _ ((pt2 _ _ _ _).trans (.cons _ (pt2 _ _ _ _))))))) ?_
 refine rn ?_;refine y3 rfl (fun hc12=> ?_) (fun hc12=> ?_)
 ·have hm:¬zer h=true:=by intro q;rw [zcl,if_pos q] at hc12;cases hc12
  have he:zcl h=210:=by rw [zcl,if_neg hm]
  refine rn ?_;exact zfr (.cons _ _ _ _ (.agg _ _ _ _ _ _ _ rfl inferInstance inferInstance inferInstance rfl) (.cons _ _ _ _ (.tmp _ _ rfl) (.cons _ _ _ _ (.tmp _ _ rfl) .nil))) (.drop [_,_] _ _) ⟨rfl,by rw [zfm,if_neg hm,he];rfl⟩
 ·have hm:zer h=true:=zu5.1 (by simpa using hc12)
  have la3:=zoy hm
  refine rn ?_;refine zcu (fun k:Nat=>(1≤k∧k≤11)∧zat (zbn h) rules10=zat (zbn h) (rules10.drop (k - 1))) (fun k=>⟨[(6,iv k),(1,pZ b1),(2,pZ b2)],(.box b2 152 [iv 0,iv 0]:: .box b1 28 (x6 h):: .glob 3 148 y8:: .glob 5 276 y9:: .glob 6 279 y4:: .glob 2 197 u3:: []),[]⟩) (fun k=>11 - k) 1 ⟨by omega,rfl⟩ es ?_
  rintro k ⟨⟨k1,k3⟩,zk⟩
  obtain ⟨pi,pb,hpv⟩:∃i b,zai (zbn h k)= .tup [iv i,bv b]:=zcg _
  obtain ⟨ei,eb⟩:=ybb hpv
  refine rn ?_;refine y3 rfl (fun hc16=> ?_) (fun hc16=> ?_)
  ·have k2:k≤10:=by have:=of_decide_eq_true hc16;omega
   refine zad ?_;refine rn0 ?_;refine x8 ?_;refine zac ?_;refine x8 ?_;refine ziw 11 [5,6] [7,8,9,10] (fun he=>he=(.box b2 152 [iv 0,iv 0]:: .box b1 28 (x6 h):: .glob 3 148 y8:: .glob 5 276 y9:: .glob 6 279 y4:: .glob 2 197 u3:: [])∨∃b,he= .box b 203 (za2 h)::(.box b2 152 [iv 0,iv 0]:: .box b1 28 (x6 h):: .glob 3 148 y8:: .glob 5 276 y9:: .glob 6 279 y4:: .glob 2 197 u3:: [])) rfl rfl (.inl rfl) ?_
   refine jq rfl (fun he hC=>by rcases hC with rfl|⟨b,rfl⟩ <;> exact qrA) ?_
   refine jq rfl (fun he hC=>by rcases hC with rfl|⟨b,rfl⟩ <;> exact (by exact u7 rfl rfl (by show k < 11;omega))) ?_
   refine jq rfl (fun he hC=>by rcases hC with rfl|⟨b,rfl⟩ <;> exact (by exact j3 rfl (show u3[0+k * 1]? =some (ygz k) by rw [Nat.zero_add,Nat.mul_one];exact ycw k2))) ?_
   refine jq rfl (fun he hC=>by rcases hC with rfl|⟨b,rfl⟩ <;> exact qrA) ?_
   refine jq rfl (fun he hC=>by rcases hC with rfl|⟨b,rfl⟩ <;> exact (by exact k6 (out:=za2 h) rfl (by rfl))) ?_
   refine je rfl ?_;refine je rfl ?_;refine je rfl ?_;refine je rfl ?_;refine je rfl ?_;refine je rfl ?_;refine zxz ?_;refine jce rfl fun u=> ?_
   refine x9 rfl rfl rfl fun b5=>⟨_,_,rfl,.inr ⟨_,rfl⟩,?_⟩
   refine jce rfl fun u=> ?_
   refine w7 rfl rfl (zym h la3 b5 _ k1 k2) rfl ?_
   rintro _ _ ⟨rfl,rfl⟩
   rw [hpv]
   refine ⟨_,_,rfl,.inl rfl,?_⟩
   refine jcn ?_;refine lq rfl rfl (by exact qrA) ?_
   refine lq rfl rfl (by exact qrA) ?_
   refine lq rfl rfl (by exact qrA) ?_
   refine lq rfl rfl (by exact qrA) ?_
   refine ln ?_;refine rn ?_;refine y3 rfl (fun hc29=> ?_) (fun hc29=> ?_)
   ·refine rn ?_;exact zfr (.cons _ _ _ _ (.agg _ _ _ _ _ _ _ rfl inferInstance inferInstance inferInstance rfl) (.cons _ _ _ _ (.tmp _ _ rfl) (.cons _ _ _ _ (.tmp _ _ rfl) .nil))) (.drop [_,_] _ _) ⟨rfl,by
     cases hp:zbn h k with
     |none=>rw [hp] at eb;rw [eb] at hc29;cases hc29
     |some n=>rw [hp] at ei;subst ei;rw [zfm,if_pos hm,zhx,zus k1 k2 zk hp];rfl⟩
   ·refine rn ?_;exact ⟨k+1,⟨by omega,zr5 k1 k2 zk (by cases hp:zbn h k with|none=>rfl|some n=>rw [hp] at eb;rw [eb] at hc29;cases hc29)⟩,eA,by omega⟩
  ·have k2:11≤k:=by have:=of_decide_eq_false hc16;omega
   refine rn ?_;exact zfr (.cons _ _ _ _ (.agg _ _ _ _ _ _ _ rfl inferInstance inferInstance inferInstance rfl) (.cons _ _ _ _ (.tmp _ _ rfl) (.cons _ _ _ _ (.tmp _ _ rfl) .nil))) (.drop [_,_] _ _) ⟨rfl,by rw [zfm,if_pos hm,zhx,zr6 k2 k3 zk];rfl⟩
theorem yd3 (h:Hist) (la:Lim 4611686018427387904 h):x3 Tryz.prog 45 [.agg (x6 h)] [.glob 3 148 y8,.glob 5 276 y9,.glob 6 279 y4,.glob 2 197 u3] (fun r h'=>h'= [.glob 3 148 y8,.glob 5 276 y9,.glob 6 279 y4,.glob 2 197 u3]∧r=bv (zcx h)):=by
 refine z6 Tryz.func45 rfl rfl rfl ?_
 refine rn ?_;refine z7 rfl (x9 rfl rfl rfl fun b1=> ?_)
 refine q1 ?_;refine u2 (j7 ?_)
 refine x8 (y7 ?_)
 obtain ⟨fi,fj,fb,fe,hf,hfb⟩:=znf h
 refine rn ?_;refine qv rfl rfl (y6 rfl rfl (z8.qt (z8.of_fun (yed h la)) ((pt1 _ _ _).trans (.cons _ ((pt1 _ _ _).trans (.cons _ ((pt1 _ _ _).trans (.cons _ (pt1 _ _ _))))))))) ?_
 rw [hf]
 refine rn ?_;refine z7 rfl (x5 rfl fun b3=> ?_)
 refine rn ?_;refine q9 (fun hg2_2=> ?_) (fun hg2_2=> ?_)
 ·refine rn ?_;refine rq 2 ?_
  exact ⟨rfl,congrArg bv (by rw [hfb];simp_all)⟩
 ·refine rn ?_;refine rq 2 ?_
  exact ⟨rfl,congrArg bv (by rw [hfb];simp_all)⟩
end Go.Proofs
set_option maxRecDepth 100000
namespace Go.Proofs.YtcaijocpofcbdaaGreatDoor
open Go Go.Ab Go.H
def ycv:DataW Unit:=match (Rows.laid_yardarm_rules_asks:DataW Unit) with| .iface _ d=>d|d=>d
def ztx:List (List UInt8):=match ycv with| .agg ds=>ds.map (fun d=>match d with| .iface _ (.lit (.string b))=>b|_=> [])|_=> []
def nm (k:Nat):List UInt8:=ztx.getD (k+1) []
theorem zvh:ycv.funcsOut= .agg (.nil::(ztx.drop 1).map .held):=by kernel_rfl
theorem zqy {w:World} {c:Array Value} {T0:TypeId} {fr:Nat×Nat} {g:Nat} {T:TypeId} {vs:List AV} (hh:w.heap[g]? =some (.cells c T0 fr)) (hl:vs.length=c.size) (h:∀j (h1:j < vs.length) (h2:j < c.size),Rel w noX vs[j] c[j]):(Res.glob g T vs).holds w noX:=
 ⟨fun h=>h,(Array.getElem?_eq_some_iff.1 hh).1,c,T0,fr,hh,hl,fun j h1 h2=>h j h1 h2⟩
theorem zgw (w:World) (f:Nat):Rel w noX (.fn (.func f) [] []) (.func (.func f) #[] #[]):= .fn _ _ _ _ _ rfl rfl (fun j h=>absurd h (Nat.not_lt_zero _)) (fun j h=>absurd h (Nat.not_lt_zero _))
def fnA:List Nat:= [245,249,250,251,252,253,254,255,256,257]
theorem zyl (k:Nat) (hk:k < 10):∃b r,ztx[k+1]? =some (b::r)∧((List.range Tryz.prog.funcs.size).filter fun f=>(Tryz.prog.funcs[f]?).any (·.name.toUTF8.data.toList==b::r))= [fnA.getD k 0]∧u3[k+1]? =some (.fn (.func (fnA.getD k 0)) [] []):=by
 match k,hk with
 |0,_=>exact ⟨(nm 0).headD 0,(nm 0).tail,by kernel_rfl,by kernel_rfl,by kernel_rfl⟩
 |1,_=>exact ⟨(nm 1).headD 0,(nm 1).tail,by kernel_rfl,by kernel_rfl,by kernel_rfl⟩
 |2,_=>exact ⟨(nm 2).headD 0,(nm 2).tail,by kernel_rfl,by kernel_rfl,by kernel_rfl⟩
 |3,_=>exact ⟨(nm 3).headD 0,(nm 3).tail,by kernel_rfl,by kernel_rfl,by kernel_rfl⟩
 |4,_=>exact ⟨(nm 4).headD 0,(nm 4).tail,by kernel_rfl,by kernel_rfl,by kernel_rfl⟩
 |5,_=>exact ⟨(nm 5).headD 0,(nm 5).tail,by kernel_rfl,by kernel_rfl,by kernel_rfl⟩
 |6,_=>exact ⟨(nm 6).headD 0,(nm 6).tail,by kernel_rfl,by kernel_rfl,by kernel_rfl⟩
 |7,_=>exact ⟨(nm 7).headD 0,(nm 7).tail,by kernel_rfl,by kernel_rfl,by kernel_rfl⟩
 |8,_=>exact ⟨(nm 8).headD 0,(nm 8).tail,by kernel_rfl,by kernel_rfl,by kernel_rfl⟩
 |9,_=>exact ⟨(nm 9).headD 0,(nm 9).tail,by kernel_rfl,by kernel_rfl,by kernel_rfl⟩
end Go.Proofs.YtcaijocpofcbdaaGreatDoor
