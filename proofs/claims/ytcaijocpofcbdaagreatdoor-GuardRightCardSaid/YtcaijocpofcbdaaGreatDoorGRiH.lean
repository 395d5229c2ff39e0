/- The decoding of runes. Conditions: none. -/
import Derived.Test.YtcaijocpofcbdaaGreatDoorGRiG
set_option linter.unusedSectionVars false
set_option linter.unusedSimpArgs false
set_option linter.unusedVariables false
set_option maxRecDepth 10000
namespace Go.Proofs
open Go Go.Ab
attribute [local irreducible] QR QV OE zca aw zcm za3 zau zag thn zeu
open Go.H
theorem znb (s:ByteArray) (hx:zb2 (bt s 0).toNat=240):x3 Tryz.prog 227 [.v (.string s)] [.glob 5 276 y9,.glob 6 279 y4] (fun r h'=>h'= [.glob 5 276 y9,.glob 6 279 y4]∧r= .tup [.v (.int .i32 (y7 s).1),iv (y7 s).2]):=by
 refine z6 Tryz.func227 rfl rfl rfl ?_
 refine rn ?_;refine z8 rfl (fun hc16=> ?_) (fun hc16=> ?_)
 ·refine rn ?_;have hd:y7 s=(65533,0):=by
   unfold y7
   rw [if_pos (by simp at hc16;omega)]
  exact zbj rfl rfl (.refl _ _) ⟨rfl,by rw [hd];rfl⟩
 ·have h1:0 < s.size:=by simp at hc16;omega
  refine rn ?_;refine qq rfl rfl (v7 0 rfl rfl (by omega)) ?_
  refine rn ?_;refine qq rfl rfl (u2 rfl rfl (zfb _ _) (zfa _ _)) ?_
  refine qq rfl rfl (j4 rfl (show _=some (.v (.int .u8 240)) from by rw [zb6 (zfb s 0) (zfa s 0),hx])) ?_
  refine rn ?_;refine z8 rfl (fun hc23=> ?_) (fun hc23=> ?_)
  ·refine rn ?_;refine qq rfl rfl (v7 0 rfl rfl (by omega)) ?_
   refine rn ?_;have hd:y7 s=(bI .or .i32 (bI .andNot .i32 (IntKind.i32.wrap (bt s 0)) (zh9 240)) (bI .and .i32 65533 (zh9 240)),1):=by
    unfold y7
    rw [if_neg (by omega)]
    simp only [hx]
    rw [if_pos (by decide)]
   exact zbj rfl rfl (.refl _ _) ⟨rfl,by rw [hd];rfl⟩
  ·first|cases hc23|exact absurd hc23 (by decide)|(exfalso;simp_all;done)
theorem zna (s:ByteArray) (hx:zb2 (bt s 0).toNat=241):x3 Tryz.prog 227 [.v (.string s)] [.glob 5 276 y9,.glob 6 279 y4] (fun r h'=>h'= [.glob 5 276 y9,.glob 6 279 y4]∧r= .tup [.v (.int .i32 (y7 s).1),iv (y7 s).2]):=by
 refine z6 Tryz.func227 rfl rfl rfl ?_
 refine rn ?_;refine z8 rfl (fun hc16=> ?_) (fun hc16=> ?_)
 ·refine rn ?_;have hd:y7 s=(65533,0):=by
   unfold y7
   rw [if_pos (by simp at hc16;omega)]
  exact zbj rfl rfl (.refl _ _) ⟨rfl,by rw [hd];rfl⟩
 ·have h1:0 < s.size:=by simp at hc16;omega
  refine rn ?_;refine qq rfl rfl (v7 0 rfl rfl (by omega)) ?_
  refine rn ?_;refine qq rfl rfl (u2 rfl rfl (zfb _ _) (zfa _ _)) ?_
  refine qq rfl rfl (j4 rfl (show _=some (.v (.int .u8 241)) from by rw [zb6 (zfb s 0) (zfa s 0),hx])) ?_
  refine rn ?_;refine z8 rfl (fun hc23=> ?_) (fun hc23=> ?_)
  ·refine rn ?_;refine qq rfl rfl (v7 0 rfl rfl (by omega)) ?_
   refine rn ?_;have hd:y7 s=(bI .or .i32 (bI .andNot .i32 (IntKind.i32.wrap (bt s 0)) (zh9 241)) (bI .and .i32 65533 (zh9 241)),1):=by
    unfold y7
    rw [if_neg (by omega)]
    simp only [hx]
    rw [if_pos (by decide)]
   exact zbj rfl rfl (.refl _ _) ⟨rfl,by rw [hd];rfl⟩
  ·first|cases hc23|exact absurd hc23 (by decide)|(exfalso;simp_all;done)
theorem zrh (s:ByteArray) (hx:zb2 (bt s 0).toNat=2):x3 Tryz.prog 227 [.v (.string s)] [.glob 5 276 y9,.glob 6 279 y4] (fun r h'=>h'= [.glob 5 276 y9,.glob 6 279 y4]∧r= .tup [.v (.int .i32 (y7 s).1),iv (y7 s).2]):=by
 refine z6 Tryz.func227 rfl rfl rfl ?_
 refine rn ?_;refine z8 rfl (fun hc16=> ?_) (fun hc16=> ?_)
 ·refine rn ?_;have hd:y7 s=(65533,0):=by
   unfold y7
   rw [if_pos (by simp at hc16;omega)]
  exact zbj rfl rfl (.refl _ _) ⟨rfl,by rw [hd];rfl⟩
 ·have h1:0 < s.size:=by simp at hc16;omega
  refine rn ?_;refine qq rfl rfl (v7 0 rfl rfl (by omega)) ?_
  refine rn ?_;refine qq rfl rfl (u2 rfl rfl (zfb _ _) (zfa _ _)) ?_
  refine qq rfl rfl (j4 rfl (show _=some (.v (.int .u8 2)) from by rw [zb6 (zfb s 0) (zfa s 0),hx])) ?_
  refine rn ?_;refine z8 rfl (fun hc23=> ?_) (fun hc23=> ?_)
  ·first|cases hc23|exact absurd hc23 (by decide)|(exfalso;simp_all;done)
  ·refine rn ?_;refine qq rfl rfl (u2 rfl rfl (by decide) (by decide)) ?_
   refine rn ?_;refine z7 rfl (x6 rfl fun b9=> ?_)
   refine rn ?_;refine z8 rfl (fun hc45=> ?_) (fun hc45=> ?_)
   ·refine rn ?_;have hd:y7 s=(65533,1):=by
     unfold y7
     rw [if_neg (by omega)]
     simp only [hx]
     rw [if_neg (by decide),if_pos (show (s.size:Int) < (2:Int) % 8 from of_decide_eq_true hc45)]
    exact zbj rfl rfl (.drop1 _ _ _) ⟨rfl,by rw [hd];rfl⟩
   ·have h2:2≤s.size:=by
     have:¬((s.size:Int) < 2):=of_decide_eq_false hc45
     omega
    refine rn ?_;refine qq rfl rfl (v7 1 rfl rfl (by omega)) ?_
    refine rn ?_;refine q8 (fun hg14_4=> ?_) (fun hg14_4=> ?_)
    ·refine rn ?_;refine z8 rfl (fun hc57=> ?_) (fun hc57=> ?_)
     ·refine rn ?_;have hd:y7 s=(65533,1):=by
       unfold y7
       rw [if_neg (by omega)]
       simp only [hx]
       rw [if_neg (by decide),if_neg (show ¬(s.size:Int) < (2:Int) % 8 from of_decide_eq_false hc45),if_pos (show bt s 1 < zbh ((2:Int) / 16).toNat∨zbi ((2:Int) / 16).toNat < bt s 1 from by first|exact .inl (of_decide_eq_true hg14_4)|exact .inr (of_decide_eq_true hc57))]
      exact zbj rfl rfl (.drop1 _ _ _) ⟨rfl,by rw [hd];rfl⟩
     ·first|cases hc57|exact absurd hc57 (by decide)|(exfalso;simp_all;done)
    ·refine rn ?_;refine z8 rfl (fun hc57=> ?_) (fun hc57=> ?_)
     ·refine rn ?_;have hd:y7 s=(65533,1):=by
       unfold y7
       rw [if_neg (by omega)]
       simp only [hx]
       rw [if_neg (by decide),if_neg (show ¬(s.size:Int) < (2:Int) % 8 from of_decide_eq_false hc45),if_pos (show bt s 1 < zbh ((2:Int) / 16).toNat∨zbi ((2:Int) / 16).toNat < bt s 1 from by first|exact .inl (of_decide_eq_true hg14_4)|exact .inr (of_decide_eq_true hc57))]
      exact zbj rfl rfl (.drop1 _ _ _) ⟨rfl,by rw [hd];rfl⟩
     ·refine rn ?_;refine z8 rfl (fun hc59=> ?_) (fun hc59=> ?_)
      ·refine rn ?_;have hd:y7 s=(bI .or .i32 (zcb (bt s 0) 31 6) (zcb (bt s 1) 63 0),2):=by
        unfold y7
        rw [if_neg (by omega)]
        simp only [hx]
        rw [if_neg (by decide),if_neg (show ¬(s.size:Int) < (2:Int) % 8 from of_decide_eq_false hc45),if_neg (show ¬(bt s 1 < zbh ((2:Int) / 16).toNat∨zbi ((2:Int) / 16).toNat < bt s 1) from fun q=>q.elim (of_decide_eq_false hg14_4) (of_decide_eq_false hc57)),if_pos (by decide)]
       exact zbj rfl rfl (.drop1 _ _ _) ⟨rfl,by rw [hd];rfl⟩
      ·first|cases hc59|exact absurd hc59 (by decide)|(exfalso;simp_all;done)
theorem zo6 (s:ByteArray) (hx:zb2 (bt s 0).toNat=19):x3 Tryz.prog 227 [.v (.string s)] [.glob 5 276 y9,.glob 6 279 y4] (fun r h'=>h'= [.glob 5 276 y9,.glob 6 279 y4]∧r= .tup [.v (.int .i32 (y7 s).1),iv (y7 s).2]):=by
 refine z6 Tryz.func227 rfl rfl rfl ?_
 refine rn ?_;refine z8 rfl (fun hc16=> ?_) (fun hc16=> ?_)
 ·refine rn ?_;have hd:y7 s=(65533,0):=by
   unfold y7
   rw [if_pos (by simp at hc16;omega)]
  exact zbj rfl rfl (.refl _ _) ⟨rfl,by rw [hd];rfl⟩
 ·have h1:0 < s.size:=by simp at hc16;omega
  refine rn ?_;refine qq rfl rfl (v7 0 rfl rfl (by omega)) ?_
  refine rn ?_;refine qq rfl rfl (u2 rfl rfl (zfb _ _) (zfa _ _)) ?_
  refine qq rfl rfl (j4 rfl (show _=some (.v (.int .u8 19)) from by rw [zb6 (zfb s 0) (zfa s 0),hx])) ?_
  refine rn ?_;refine z8 rfl (fun hc23=> ?_) (fun hc23=> ?_)
  ·first|cases hc23|exact absurd hc23 (by decide)|(exfalso;simp_all;done)
  ·refine rn ?_;refine qq rfl rfl (u2 rfl rfl (by decide) (by decide)) ?_
   refine rn ?_;refine z7 rfl (x6 rfl fun b9=> ?_)
   refine rn ?_;refine z8 rfl (fun hc45=> ?_) (fun hc45=> ?_)
   ·refine rn ?_;have hd:y7 s=(65533,1):=by
     unfold y7
     rw [if_neg (by omega)]
     simp only [hx]
     rw [if_neg (by decide),if_pos (show (s.size:Int) < (19:Int) % 8 from of_decide_eq_true hc45)]
    exact zbj rfl rfl (.drop1 _ _ _) ⟨rfl,by rw [hd];rfl⟩
   ·have h2:3≤s.size:=by
     have:¬((s.size:Int) < 3):=of_decide_eq_false hc45
     omega
    refine rn ?_;refine qq rfl rfl (v7 1 rfl rfl (by omega)) ?_
    refine rn ?_;refine q8 (fun hg14_4=> ?_) (fun hg14_4=> ?_)
    ·refine rn ?_;refine z8 rfl (fun hc57=> ?_) (fun hc57=> ?_)
     ·refine rn ?_;have hd:y7 s=(65533,1):=by
       unfold y7
       rw [if_neg (by omega)]
       simp only [hx]
       rw [if_neg (by decide),if_neg (show ¬(s.size:Int) < (19:Int) % 8 from of_decide_eq_false hc45),if_pos (show bt s 1 < zbh ((19:Int) / 16).toNat∨zbi ((19:Int) / 16).toNat < bt s 1 from by first|exact .inl (of_decide_eq_true hg14_4)|exact .inr (of_decide_eq_true hc57))]
      exact zbj rfl rfl (.drop1 _ _ _) ⟨rfl,by rw [hd];rfl⟩
     ·first|cases hc57|exact absurd hc57 (by decide)|(exfalso;simp_all;done)
    ·refine rn ?_;refine z8 rfl (fun hc57=> ?_) (fun hc57=> ?_)
     ·refine rn ?_;have hd:y7 s=(65533,1):=by
       unfold y7
       rw [if_neg (by omega)]
       simp only [hx]
       rw [if_neg (by decide),if_neg (show ¬(s.size:Int) < (19:Int) % 8 from of_decide_eq_false hc45),if_pos (show bt s 1 < zbh ((19:Int) / 16).toNat∨zbi ((19:Int) / 16).toNat < bt s 1 from by first|exact .inl (of_decide_eq_true hg14_4)|exact .inr (of_decide_eq_true hc57))]
      exact zbj rfl rfl (.drop1 _ _ _) ⟨rfl,by rw [hd];rfl⟩
     ·refine rn ?_;refine z8 rfl (fun hc59=> ?_) (fun hc59=> ?_)
      ·first|cases hc59|exact absurd hc59 (by decide)|(exfalso;simp_all;done)
      ·refine rn ?_;refine qq rfl rfl (v7 2 rfl rfl (by omega)) ?_
       refine rn ?_;refine q8 (fun hg19_2=> ?_) (fun hg19_2=> ?_)
       ·refine rn ?_;refine z8 rfl (fun hc75=> ?_) (fun hc75=> ?_)
        ·refine rn ?_;have hd:y7 s=(65533,1):=by
          unfold y7
          rw [if_neg (by omega)]
          simp only [hx]
          rw [if_neg (by decide),if_neg (show ¬(s.size:Int) < (19:Int) % 8 from of_decide_eq_false hc45),if_neg (show ¬(bt s 1 < zbh ((19:Int) / 16).toNat∨zbi ((19:Int) / 16).toNat < bt s 1) from fun q=>q.elim (of_decide_eq_false hg14_4) (of_decide_eq_false hc57)),if_neg (by decide),if_pos (show bt s 2 < 128∨191 < bt s 2 from by first|exact .inl (of_decide_eq_true hg19_2)|exact .inr (of_decide_eq_true hc75))]
         exact zbj rfl rfl (.drop1 _ _ _) ⟨rfl,by rw [hd];rfl⟩
        ·first|cases hc75|exact absurd hc75 (by decide)|(exfalso;simp_all;done)
       ·refine rn ?_;refine z8 rfl (fun hc75=> ?_) (fun hc75=> ?_)
        ·refine rn ?_;have hd:y7 s=(65533,1):=by
          unfold y7
          rw [if_neg (by omega)]
          simp only [hx]
          rw [if_neg (by decide),if_neg (show ¬(s.size:Int) < (19:Int) % 8 from of_decide_eq_false hc45),if_neg (show ¬(bt s 1 < zbh ((19:Int) / 16).toNat∨zbi ((19:Int) / 16).toNat < bt s 1) from fun q=>q.elim (of_decide_eq_false hg14_4) (of_decide_eq_false hc57)),if_neg (by decide),if_pos (show bt s 2 < 128∨191 < bt s 2 from by first|exact .inl (of_decide_eq_true hg19_2)|exact .inr (of_decide_eq_true hc75))]
         exact zbj rfl rfl (.drop1 _ _ _) ⟨rfl,by rw [hd];rfl⟩
        ·refine rn ?_;refine z8 rfl (fun hc77=> ?_) (fun hc77=> ?_)
         ·refine rn ?_;have hd:y7 s=(bI .or .i32 (bI .or .i32 (zcb (bt s 0) 15 12) (zcb (bt s 1) 63 6)) (zcb (bt s 2) 63 0),3):=by
           unfold y7
           rw [if_neg (by omega)]
           simp only [hx]
           rw [if_neg (by decide),if_neg (show ¬(s.size:Int) < (19:Int) % 8 from of_decide_eq_false hc45),if_neg (show ¬(bt s 1 < zbh ((19:Int) / 16).toNat∨zbi ((19:Int) / 16).toNat < bt s 1) from fun q=>q.elim (of_decide_eq_false hg14_4) (of_decide_eq_false hc57)),if_neg (by decide),if_neg (show ¬(bt s 2 < 128∨191 < bt s 2) from fun q=>q.elim (of_decide_eq_false hg19_2) (of_decide_eq_false hc75)),if_pos (by decide)]
          exact zbj rfl rfl (.drop1 _ _ _) ⟨rfl,by rw [hd];rfl⟩
         ·first|cases hc77|exact absurd hc77 (by decide)|(exfalso;simp_all;done)
theorem zrg (s:ByteArray) (hx:zb2 (bt s 0).toNat=3):x3 Tryz.prog 227 [.v (.string s)] [.glob 5 276 y9,.glob 6 279 y4] (fun r h'=>h'= [.glob 5 276 y9,.glob 6 279 y4]∧r= .tup [.v (.int .i32 (y7 s).1),iv (y7 s).2]):=by
 refine z6 Tryz.func227 rfl rfl rfl ?_
 refine rn ?_;refine z8 rfl (fun hc16=> ?_) (fun hc16=> ?_)
 ·refine rn ?_;have hd:y7 s=(65533,0):=by
   unfold y7
   rw [if_pos (by simp at hc16;omega)]
  exact zbj rfl rfl (.refl _ _) ⟨rfl,by rw [hd];rfl⟩
 ·have h1:0 < s.size:=by simp at hc16;omega
  refine rn ?_;refine qq rfl rfl (v7 0 rfl rfl (by omega)) ?_
  refine rn ?_;refine qq rfl rfl (u2 rfl rfl (zfb _ _) (zfa _ _)) ?_
  refine qq rfl rfl (j4 rfl (show _=some (.v (.int .u8 3)) from by rw [zb6 (zfb s 0) (zfa s 0),hx])) ?_
  refine rn ?_;refine z8 rfl (fun hc23=> ?_) (fun hc23=> ?_)
  ·first|cases hc23|exact absurd hc23 (by decide)|(exfalso;simp_all;done)
  ·refine rn ?_;refine qq rfl rfl (u2 rfl rfl (by decide) (by decide)) ?_
   refine rn ?_;refine z7 rfl (x6 rfl fun b9=> ?_)
   refine rn ?_;refine z8 rfl (fun hc45=> ?_) (fun hc45=> ?_)
   ·refine rn ?_;have hd:y7 s=(65533,1):=by
     unfold y7
     rw [if_neg (by omega)]
     simp only [hx]
     rw [if_neg (by decide),if_pos (show (s.size:Int) < (3:Int) % 8 from of_decide_eq_true hc45)]
    exact zbj rfl rfl (.drop1 _ _ _) ⟨rfl,by rw [hd];rfl⟩
   ·have h2:3≤s.size:=by
     have:¬((s.size:Int) < 3):=of_decide_eq_false hc45
     omega
    refine rn ?_;refine qq rfl rfl (v7 1 rfl rfl (by omega)) ?_
    refine rn ?_;refine q8 (fun hg14_4=> ?_) (fun hg14_4=> ?_)
    ·refine rn ?_;refine z8 rfl (fun hc57=> ?_) (fun hc57=> ?_)
     ·refine rn ?_;have hd:y7 s=(65533,1):=by
       unfold y7
       rw [if_neg (by omega)]
       simp only [hx]
       rw [if_neg (by decide),if_neg (show ¬(s.size:Int) < (3:Int) % 8 from of_decide_eq_false hc45),if_pos (show bt s 1 < zbh ((3:Int) / 16).toNat∨zbi ((3:Int) / 16).toNat < bt s 1 from by first|exact .inl (of_decide_eq_true hg14_4)|exact .inr (of_decide_eq_true hc57))]
      exact zbj rfl rfl (.drop1 _ _ _) ⟨rfl,by rw [hd];rfl⟩
     ·first|cases hc57|exact absurd hc57 (by decide)|(exfalso;simp_all;done)
    ·refine rn ?_;refine z8 rfl (fun hc57=> ?_) (fun hc57=> ?_)
     ·refine rn ?_;have hd:y7 s=(65533,1):=by
       unfold y7
       rw [if_neg (by omega)]
       simp only [hx]
       rw [if_neg (by decide),if_neg (show ¬(s.size:Int) < (3:Int) % 8 from of_decide_eq_false hc45),if_pos (show bt s 1 < zbh ((3:Int) / 16).toNat∨zbi ((3:Int) / 16).toNat < bt s 1 from by first|exact .inl (of_decide_eq_true hg14_4)|exact .inr (of_decide_eq_true hc57))]
      exact zbj rfl rfl (.drop1 _ _ _) ⟨rfl,by rw [hd];rfl⟩
     ·refine rn ?_;refine z8 rfl (fun hc59=> ?_) (fun hc59=> ?_)
      ·first|cases hc59|exact absurd hc59 (by decide)|(exfalso;simp_all;done)
      ·refine rn ?_;refine qq rfl rfl (v7 2 rfl rfl (by omega)) ?_
       refine rn ?_;refine q8 (fun hg19_2=> ?_) (fun hg19_2=> ?_)
       ·refine rn ?_;refine z8 rfl (fun hc75=> ?_) (fun hc75=> ?_)
        ·refine rn ?_;have hd:y7 s=(65533,1):=by
          unfold y7
          rw [if_neg (by omega)]
          simp only [hx]
          rw [if_neg (by decide),if_neg (show ¬(s.size:Int) < (3:Int) % 8 from of_decide_eq_false hc45),if_neg (show ¬(bt s 1 < zbh ((3:Int) / 16).toNat∨zbi ((3:Int) / 16).toNat < bt s 1) from fun q=>q.elim (of_decide_eq_false hg14_4) (of_decide_eq_false hc57)),if_neg (by decide),if_pos (show bt s 2 < 128∨191 < bt s 2 from by first|exact .inl (of_decide_eq_true hg19_2)|exact .inr (of_decide_eq_true hc75))]
         exact zbj rfl rfl (.drop1 _ _ _) ⟨rfl,by rw [hd];rfl⟩
        ·first|cases hc75|exact absurd hc75 (by decide)|(exfalso;simp_all;done)
       ·refine rn ?_;refine z8 rfl (fun hc75=> ?_) (fun hc75=> ?_)
        ·refine rn ?_;have hd:y7 s=(65533,1):=by
          unfold y7
          rw [if_neg (by omega)]
          simp only [hx]
          rw [if_neg (by decide),if_neg (show ¬(s.size:Int) < (3:Int) % 8 from of_decide_eq_false hc45),if_neg (show ¬(bt s 1 < zbh ((3:Int) / 16).toNat∨zbi ((3:Int) / 16).toNat < bt s 1) from fun q=>q.elim (of_decide_eq_false hg14_4) (of_decide_eq_false hc57)),if_neg (by decide),if_pos (show bt s 2 < 128∨191 < bt s 2 from by first|exact .inl (of_decide_eq_true hg19_2)|exact .inr (of_decide_eq_true hc75))]
         exact zbj rfl rfl (.drop1 _ _ _) ⟨rfl,by rw [hd];rfl⟩
        ·refine rn ?_;refine z8 rfl (fun hc77=> ?_) (fun hc77=> ?_)
         ·refine rn ?_;have hd:y7 s=(bI .or .i32 (bI .or .i32 (zcb (bt s 0) 15 12) (zcb (bt s 1) 63 6)) (zcb (bt s 2) 63 0),3):=by
           unfold y7
           rw [if_neg (by omega)]
           simp only [hx]
           rw [if_neg (by decide),if_neg (show ¬(s.size:Int) < (3:Int) % 8 from of_decide_eq_false hc45),if_neg (show ¬(bt s 1 < zbh ((3:Int) / 16).toNat∨zbi ((3:Int) / 16).toNat < bt s 1) from fun q=>q.elim (of_decide_eq_false hg14_4) (of_decide_eq_false hc57)),if_neg (by decide),if_neg (show ¬(bt s 2 < 128∨191 < bt s 2) from fun q=>q.elim (of_decide_eq_false hg19_2) (of_decide_eq_false hc75)),if_pos (by decide)]
          exact zbj rfl rfl (.drop1 _ _ _) ⟨rfl,by rw [hd];rfl⟩
         ·first|cases hc77|exact absurd hc77 (by decide)|(exfalso;simp_all;done)
theorem zo5 (s:ByteArray) (hx:zb2 (bt s 0).toNat=35):x3 Tryz.prog 227 [.v (.string s)] [.glob 5 276 y9,.glob 6 279 y4] (fun r h'=>h'= [.glob 5 276 y9,.glob 6 279 y4]∧r= .tup [.v (.int .i32 (y7 s).1),iv (y7 s).2]):=by
 refine z6 Tryz.func227 rfl rfl rfl ?_
 refine rn ?_;refine z8 rfl (fun hc16=> ?_) (fun hc16=> ?_)
 ·refine rn ?_;have hd:y7 s=(65533,0):=by
   unfold y7
   rw [if_pos (by simp at hc16;omega)]
  exact zbj rfl rfl (.refl _ _) ⟨rfl,by rw [hd];rfl⟩
 ·have h1:0 < s.size:=by simp at hc16;omega
  refine rn ?_;refine qq rfl rfl (v7 0 rfl rfl (by omega)) ?_
  refine rn ?_;refine qq rfl rfl (u2 rfl rfl (zfb _ _) (zfa _ _)) ?_
  refine qq rfl rfl (j4 rfl (show _=some (.v (.int .u8 35)) from by rw [zb6 (zfb s 0) (zfa s 0),hx])) ?_
  refine rn ?_;refine z8 rfl (fun hc23=> ?_) (fun hc23=> ?_)
  ·first|cases hc23|exact absurd hc23 (by decide)|(exfalso;simp_all;done)
  ·refine rn ?_;refine qq rfl rfl (u2 rfl rfl (by decide) (by decide)) ?_
   refine rn ?_;refine z7 rfl (x6 rfl fun b9=> ?_)
   refine rn ?_;refine z8 rfl (fun hc45=> ?_) (fun hc45=> ?_)
   ·refine rn ?_;have hd:y7 s=(65533,1):=by
     unfold y7
     rw [if_neg (by omega)]
     simp only [hx]
     rw [if_neg (by decide),if_pos (show (s.size:Int) < (35:Int) % 8 from of_decide_eq_true hc45)]
    exact zbj rfl rfl (.drop1 _ _ _) ⟨rfl,by rw [hd];rfl⟩
   ·have h2:3≤s.size:=by
     have:¬((s.size:Int) < 3):=of_decide_eq_false hc45
     omega
    refine rn ?_;refine qq rfl rfl (v7 1 rfl rfl (by omega)) ?_
    refine rn ?_;refine q8 (fun hg14_4=> ?_) (fun hg14_4=> ?_)
    ·refine rn ?_;refine z8 rfl (fun hc57=> ?_) (fun hc57=> ?_)
     ·refine rn ?_;have hd:y7 s=(65533,1):=by
       unfold y7
       rw [if_neg (by omega)]
       simp only [hx]
       rw [if_neg (by decide),if_neg (show ¬(s.size:Int) < (35:Int) % 8 from of_decide_eq_false hc45),if_pos (show bt s 1 < zbh ((35:Int) / 16).toNat∨zbi ((35:Int) / 16).toNat < bt s 1 from by first|exact .inl (of_decide_eq_true hg14_4)|exact .inr (of_decide_eq_true hc57))]
      exact zbj rfl rfl (.drop1 _ _ _) ⟨rfl,by rw [hd];rfl⟩
     ·first|cases hc57|exact absurd hc57 (by decide)|(exfalso;simp_all;done)
    ·refine rn ?_;refine z8 rfl (fun hc57=> ?_) (fun hc57=> ?_)
     ·refine rn ?_;have hd:y7 s=(65533,1):=by
       unfold y7
       rw [if_neg (by omega)]
       simp only [hx]
       rw [if_neg (by decide),if_neg (show ¬(s.size:Int) < (35:Int) % 8 from of_decide_eq_false hc45),if_pos (show bt s 1 < zbh ((35:Int) / 16).toNat∨zbi ((35:Int) / 16).toNat < bt s 1 from by first|exact .inl (of_decide_eq_true hg14_4)|exact .inr (of_decide_eq_true hc57))]
      exact zbj rfl rfl (.drop1 _ _ _) ⟨rfl,by rw [hd];rfl⟩
     ·refine rn ?_;refine z8 rfl (fun hc59=> ?_) (fun hc59=> ?_)
      ·first|cases hc59|exact absurd hc59 (by decide)|(exfalso;simp_all;done)
      ·refine rn ?_;refine qq rfl rfl (v7 2 rfl rfl (by omega)) ?_
       refine rn ?_;refine q8 (fun hg19_2=> ?_) (fun hg19_2=> ?_)
       ·refine rn ?_;refine z8 rfl (fun hc75=> ?_) (fun hc75=> ?_)
        ·refine rn ?_;have hd:y7 s=(65533,1):=by
          unfold y7
          rw [if_neg (by omega)]
          simp only [hx]
          rw [if_neg (by decide),if_neg (show ¬(s.size:Int) < (35:Int) % 8 from of_decide_eq_false hc45),if_neg (show ¬(bt s 1 < zbh ((35:Int) / 16).toNat∨zbi ((35:Int) / 16).toNat < bt s 1) from fun q=>q.elim (of_decide_eq_false hg14_4) (of_decide_eq_false hc57)),if_neg (by decide),if_pos (show bt s 2 < 128∨191 < bt s 2 from by first|exact .inl (of_decide_eq_true hg19_2)|exact .inr (of_decide_eq_true hc75))]
         exact zbj rfl rfl (.drop1 _ _ _) ⟨rfl,by rw [hd];rfl⟩
        ·first|cases hc75|exact absurd hc75 (by decide)|(exfalso;simp_all;done)
       ·refine rn ?_;refine z8 rfl (fun hc75=> ?_) (fun hc75=> ?_)
        ·refine rn ?_;have hd:y7 s=(65533,1):=by
          unfold y7
          rw [if_neg (by omega)]
          simp only [hx]
          rw [if_neg (by decide),if_neg (show ¬(s.size:Int) < (35:Int) % 8 from of_decide_eq_false hc45),if_neg (show ¬(bt s 1 < zbh ((35:Int) / 16).toNat∨zbi ((35:Int) / 16).toNat < bt s 1) from fun q=>q.elim (of_decide_eq_false hg14_4) (of_decide_eq_false hc57)),if_neg (by decide),if_pos (show bt s 2 < 128∨191 < bt s 2 from by first|exact .inl (of_decide_eq_true hg19_2)|exact .inr (of_decide_eq_true hc75))]
         exact zbj rfl rfl (.drop1 _ _ _) ⟨rfl,by rw [hd];rfl⟩
        ·refine rn ?_;refine z8 rfl (fun hc77=> ?_) (fun hc77=> ?_)
         ·refine rn ?_;have hd:y7 s=(bI .or .i32 (bI .or .i32 (zcb (bt s 0) 15 12) (zcb (bt s 1) 63 6)) (zcb (bt s 2) 63 0),3):=by
           unfold y7
           rw [if_neg (by omega)]
           simp only [hx]
           rw [if_neg (by decide),if_neg (show ¬(s.size:Int) < (35:Int) % 8 from of_decide_eq_false hc45),if_neg (show ¬(bt s 1 < zbh ((35:Int) / 16).toNat∨zbi ((35:Int) / 16).toNat < bt s 1) from fun q=>q.elim (of_decide_eq_false hg14_4) (of_decide_eq_false hc57)),if_neg (by decide),if_neg (show ¬(bt s 2 < 128∨191 < bt s 2) from fun q=>q.elim (of_decide_eq_false hg19_2) (of_decide_eq_false hc75)),if_pos (by decide)]
          exact zbj rfl rfl (.drop1 _ _ _) ⟨rfl,by rw [hd];rfl⟩
         ·first|cases hc77|exact absurd hc77 (by decide)|(exfalso;simp_all;done)
theorem zo4 (s:ByteArray) (hx:zb2 (bt s 0).toNat=52):x3 Tryz.prog 227 [.v (.string s)] [.glob 5 276 y9,.glob 6 279 y4] (fun r h'=>h'= [.glob 5 276 y9,.glob 6 279 y4]∧r= .tup [.v (.int .i32 (y7 s).1),iv (y7 s).2]):=by
 refine z6 Tryz.func227 rfl rfl rfl ?_
 refine rn ?_;refine z8 rfl (fun hc16=> ?_) (fun hc16=> ?_)
 ·refine rn ?_;have hd:y7 s=(65533,0):=by
   unfold y7
   rw [if_pos (by simp at hc16;omega)]
  exact zbj rfl rfl (.refl _ _) ⟨rfl,by rw [hd];rfl⟩
 ·have h1:0 < s.size:=by simp at hc16;omega
  refine rn ?_;refine qq rfl rfl (v7 0 rfl rfl (by omega)) ?_
  refine rn ?_;refine qq rfl rfl (u2 rfl rfl (zfb _ _) (zfa _ _)) ?_
  refine qq rfl rfl (j4 rfl (show _=some (.v (.int .u8 52)) from by rw [zb6 (zfb s 0) (zfa s 0),hx])) ?_
  refine rn ?_;refine z8 rfl (fun hc23=> ?_) (fun hc23=> ?_)
  ·first|cases hc23|exact absurd hc23 (by decide)|(exfalso;simp_all;done)
  ·refine rn ?_;refine qq rfl rfl (u2 rfl rfl (by decide) (by decide)) ?_
   refine rn ?_;refine z7 rfl (x6 rfl fun b9=> ?_)
   refine rn ?_;refine z8 rfl (fun hc45=> ?_) (fun hc45=> ?_)
   ·refine rn ?_;have hd:y7 s=(65533,1):=by
     unfold y7
     rw [if_neg (by omega)]
     simp only [hx]
     rw [if_neg (by decide),if_pos (show (s.size:Int) < (52:Int) % 8 from of_decide_eq_true hc45)]
    exact zbj rfl rfl (.drop1 _ _ _) ⟨rfl,by rw [hd];rfl⟩
   ·have h2:4≤s.size:=by
     have:¬((s.size:Int) < 4):=of_decide_eq_false hc45
     omega
    refine rn ?_;refine qq rfl rfl (v7 1 rfl rfl (by omega)) ?_
    refine rn ?_;refine q8 (fun hg14_4=> ?_) (fun hg14_4=> ?_)
    ·refine rn ?_;refine z8 rfl (fun hc57=> ?_) (fun hc57=> ?_)
     ·refine rn ?_;have hd:y7 s=(65533,1):=by
       unfold y7
       rw [if_neg (by omega)]
       simp only [hx]
       rw [if_neg (by decide),if_neg (show ¬(s.size:Int) < (52:Int) % 8 from of_decide_eq_false hc45),if_pos (show bt s 1 < zbh ((52:Int) / 16).toNat∨zbi ((52:Int) / 16).toNat < bt s 1 from by first|exact .inl (of_decide_eq_true hg14_4)|exact .inr (of_decide_eq_true hc57))]
      exact zbj rfl rfl (.drop1 _ _ _) ⟨rfl,by rw [hd];rfl⟩
     ·first|cases hc57|exact absurd hc57 (by decide)|(exfalso;simp_all;done)
    ·refine rn ?_;refine z8 rfl (fun hc57=> ?_) (fun hc57=> ?_)
     ·refine rn ?_;have hd:y7 s=(65533,1):=by
       unfold y7
       rw [if_neg (by omega)]
       simp only [hx]
       rw [if_neg (by decide),if_neg (show ¬(s.size:Int) < (52:Int) % 8 from of_decide_eq_false hc45),if_pos (show bt s 1 < zbh ((52:Int) / 16).toNat∨zbi ((52:Int) / 16).toNat < bt s 1 from by first|exact .inl (of_decide_eq_true hg14_4)|exact .inr (of_decide_eq_true hc57))]
      exact zbj rfl rfl (.drop1 _ _ _) ⟨rfl,by rw [hd];rfl⟩
     ·refine rn ?_;refine z8 rfl (fun hc59=> ?_) (fun hc59=> ?_)
      ·first|cases hc59|exact absurd hc59 (by decide)|(exfalso;simp_all;done)
      ·refine rn ?_;refine qq rfl rfl (v7 2 rfl rfl (by omega)) ?_
       refine rn ?_;refine q8 (fun hg19_2=> ?_) (fun hg19_2=> ?_)
       ·refine rn ?_;refine z8 rfl (fun hc75=> ?_) (fun hc75=> ?_)
        ·refine rn ?_;have hd:y7 s=(65533,1):=by
          unfold y7
          rw [if_neg (by omega)]
          simp only [hx]
          rw [if_neg (by decide),if_neg (show ¬(s.size:Int) < (52:Int) % 8 from of_decide_eq_false hc45),if_neg (show ¬(bt s 1 < zbh ((52:Int) / 16).toNat∨zbi ((52:Int) / 16).toNat < bt s 1) from fun q=>q.elim (of_decide_eq_false hg14_4) (of_decide_eq_false hc57)),if_neg (by decide),if_pos (show bt s 2 < 128∨191 < bt s 2 from by first|exact .inl (of_decide_eq_true hg19_2)|exact .inr (of_decide_eq_true hc75))]
         exact zbj rfl rfl (.drop1 _ _ _) ⟨rfl,by rw [hd];rfl⟩
        ·first|cases hc75|exact absurd hc75 (by decide)|(exfalso;simp_all;done)
       ·refine rn ?_;refine z8 rfl (fun hc75=> ?_) (fun hc75=> ?_)
        ·refine rn ?_;have hd:y7 s=(65533,1):=by
          unfold y7
          rw [if_neg (by omega)]
          simp only [hx]
          rw [if_neg (by decide),if_neg (show ¬(s.size:Int) < (52:Int) % 8 from of_decide_eq_false hc45),if_neg (show ¬(bt s 1 < zbh ((52:Int) / 16).toNat∨zbi ((52:Int) / 16).toNat < bt s 1) from fun q=>q.elim (of_decide_eq_false hg14_4) (of_decide_eq_false hc57)),if_neg (by decide),if_pos (show bt s 2 < 128∨191 < bt s 2 from by first|exact .inl (of_decide_eq_true hg19_2)|exact .inr (of_decide_eq_true hc75))]
         exact zbj rfl rfl (.drop1 _ _ _) ⟨rfl,by rw [hd];rfl⟩
        ·refine rn ?_;refine z8 rfl (fun hc77=> ?_) (fun hc77=> ?_)
         ·first|cases hc77|exact absurd hc77 (by decide)|(exfalso;simp_all;done)
         ·refine rn ?_;refine qq rfl rfl (v7 3 rfl rfl (by omega)) ?_
          refine rn ?_;refine q8 (fun hg24_2=> ?_) (fun hg24_2=> ?_)
          ·refine rn ?_;refine z8 rfl (fun hc98=> ?_) (fun hc98=> ?_)
           ·refine rn ?_;have hd:y7 s=(65533,1):=by
             unfold y7
             rw [if_neg (by omega)]
             simp only [hx]
             rw [if_neg (by decide),if_neg (show ¬(s.size:Int) < (52:Int) % 8 from of_decide_eq_false hc45),if_neg (show ¬(bt s 1 < zbh ((52:Int) / 16).toNat∨zbi ((52:Int) / 16).toNat < bt s 1) from fun q=>q.elim (of_decide_eq_false hg14_4) (of_decide_eq_false hc57)),if_neg (by decide),if_neg (show ¬(bt s 2 < 128∨191 < bt s 2) from fun q=>q.elim (of_decide_eq_false hg19_2) (of_decide_eq_false hc75)),if_neg (by decide),if_pos (show bt s 3 < 128∨191 < bt s 3 from by first|exact .inl (of_decide_eq_true hg24_2)|exact .inr (of_decide_eq_true hc98))]
            exact zbj rfl rfl (.drop1 _ _ _) ⟨rfl,by rw [hd];rfl⟩
           ·first|cases hc98|exact absurd hc98 (by decide)|(exfalso;simp_all;done)
          ·refine rn ?_;refine z8 rfl (fun hc98=> ?_) (fun hc98=> ?_)
           ·refine rn ?_;have hd:y7 s=(65533,1):=by
             unfold y7
             rw [if_neg (by omega)]
             simp only [hx]
             rw [if_neg (by decide),if_neg (show ¬(s.size:Int) < (52:Int) % 8 from of_decide_eq_false hc45),if_neg (show ¬(bt s 1 < zbh ((52:Int) / 16).toNat∨zbi ((52:Int) / 16).toNat < bt s 1) from fun q=>q.elim (of_decide_eq_false hg14_4) (of_decide_eq_false hc57)),if_neg (by decide),if_neg (show ¬(bt s 2 < 128∨191 < bt s 2) from fun q=>q.elim (of_decide_eq_false hg19_2) (of_decide_eq_false hc75)),if_neg (by decide),if_pos (show bt s 3 < 128∨191 < bt s 3 from by first|exact .inl (of_decide_eq_true hg24_2)|exact .inr (of_decide_eq_true hc98))]
            exact zbj rfl rfl (.drop1 _ _ _) ⟨rfl,by rw [hd];rfl⟩
           ·refine rn ?_;have hd:y7 s=(bI .or .i32 (bI .or .i32 (bI .or .i32 (zcb (bt s 0) 7 18) (zcb (bt s 1) 63 12)) (zcb (bt s 2) 63 6)) (zcb (bt s 3) 63 0),4):=by
             unfold y7
             rw [if_neg (by omega)]
             simp only [hx]
             rw [if_neg (by decide),if_neg (show ¬(s.size:Int) < (52:Int) % 8 from of_decide_eq_false hc45),if_neg (show ¬(bt s 1 < zbh ((52:Int) / 16).toNat∨zbi ((52:Int) / 16).toNat < bt s 1) from fun q=>q.elim (of_decide_eq_false hg14_4) (of_decide_eq_false hc57)),if_neg (by decide),if_neg (show ¬(bt s 2 < 128∨191 < bt s 2) from fun q=>q.elim (of_decide_eq_false hg19_2) (of_decide_eq_false hc75)),if_neg (by decide),if_neg (show ¬(bt s 3 < 128∨191 < bt s 3) from fun q=>q.elim (of_decide_eq_false hg24_2) (of_decide_eq_false hc98))]
            exact zbj rfl rfl (.drop1 _ _ _) ⟨rfl,by rw [hd];rfl⟩
theorem zrf (s:ByteArray) (hx:zb2 (bt s 0).toNat=4):x3 Tryz.prog 227 [.v (.string s)] [.glob 5 276 y9,.glob 6 279 y4] (fun r h'=>h'= [.glob 5 276 y9,.glob 6 279 y4]∧r= .tup [.v (.int .i32 (y7 s).1),iv (y7 s).2]):=by
 refine z6 Tryz.func227 rfl rfl rfl ?_
 refine rn ?_;refine z8 rfl (fun hc16=> ?_) (fun hc16=> ?_)
 ·refine rn ?_;have hd:y7 s=(65533,0):=by
   unfold y7
   rw [if_pos (by simp at hc16;omega)]
  exact zbj rfl rfl (.refl _ _) ⟨rfl,by rw [hd];rfl⟩
 ·have h1:0 < s.size:=by simp at hc16;omega
  refine rn ?_;refine qq rfl rfl (v7 0 rfl rfl (by omega)) ?_
  refine rn ?_;refine qq rfl rfl (u2 rfl rfl (zfb _ _) (zfa _ _)) ?_
  refine qq rfl rfl (j4 rfl (show _=some (.v (.int .u8 4)) from by rw [zb6 (zfb s 0) (zfa s 0),hx])) ?_
  refine rn ?_;refine z8 rfl (fun hc23=> ?_) (fun hc23=> ?_)
  ·first|cases hc23|exact absurd hc23 (by decide)|(exfalso;simp_all;done)
  ·refine rn ?_;refine qq rfl rfl (u2 rfl rfl (by decide) (by decide)) ?_
   refine rn ?_;refine z7 rfl (x6 rfl fun b9=> ?_)
   refine rn ?_;refine z8 rfl (fun hc45=> ?_) (fun hc45=> ?_)
   ·refine rn ?_;have hd:y7 s=(65533,1):=by
     unfold y7
     rw [if_neg (by omega)]
     simp only [hx]
     rw [if_neg (by decide),if_pos (show (s.size:Int) < (4:Int) % 8 from of_decide_eq_true hc45)]
    exact zbj rfl rfl (.drop1 _ _ _) ⟨rfl,by rw [hd];rfl⟩
   ·have h2:4≤s.size:=by
     have:¬((s.size:Int) < 4):=of_decide_eq_false hc45
     omega
    refine rn ?_;refine qq rfl rfl (v7 1 rfl rfl (by omega)) ?_
    refine rn ?_;refine q8 (fun hg14_4=> ?_) (fun hg14_4=> ?_)
    ·refine rn ?_;refine z8 rfl (fun hc57=> ?_) (fun hc57=> ?_)
     ·refine rn ?_;have hd:y7 s=(65533,1):=by
       unfold y7
       rw [if_neg (by omega)]
       simp only [hx]
       rw [if_neg (by decide),if_neg (show ¬(s.size:Int) < (4:Int) % 8 from of_decide_eq_false hc45),if_pos (show bt s 1 < zbh ((4:Int) / 16).toNat∨zbi ((4:Int) / 16).toNat < bt s 1 from by first|exact .inl (of_decide_eq_true hg14_4)|exact .inr (of_decide_eq_true hc57))]
      exact zbj rfl rfl (.drop1 _ _ _) ⟨rfl,by rw [hd];rfl⟩
     ·first|cases hc57|exact absurd hc57 (by decide)|(exfalso;simp_all;done)
    ·refine rn ?_;refine z8 rfl (fun hc57=> ?_) (fun hc57=> ?_)
     ·refine rn ?_;have hd:y7 s=(65533,1):=by
       unfold y7
       rw [if_neg (by omega)]
       simp only [hx]
       rw [if_neg (by decide),if_neg (show ¬(s.size:Int) < (4:Int) % 8 from of_decide_eq_false hc45),if_pos (show bt s 1 < zbh ((4:Int) / 16).toNat∨zbi ((4:Int) / 16).toNat < bt s 1 from by first|exact .inl (of_decide_eq_true hg14_4)|exact .inr (of_decide_eq_true hc57))]
      exact zbj rfl rfl (.drop1 _ _ _) ⟨rfl,by rw [hd];rfl⟩
     ·refine rn ?_;refine z8 rfl (fun hc59=> ?_) (fun hc59=> ?_)
      ·first|cases hc59|exact absurd hc59 (by decide)|(exfalso;simp_all;done)
      ·refine rn ?_;refine qq rfl rfl (v7 2 rfl rfl (by omega)) ?_
       refine rn ?_;refine q8 (fun hg19_2=> ?_) (fun hg19_2=> ?_)
       ·refine rn ?_;refine z8 rfl (fun hc75=> ?_) (fun hc75=> ?_)
        ·refine rn ?_;have hd:y7 s=(65533,1):=by
          unfold y7
          rw [if_neg (by omega)]
          simp only [hx]
          rw [if_neg (by decide),if_neg (show ¬(s.size:Int) < (4:Int) % 8 from of_decide_eq_false hc45),if_neg (show ¬(bt s 1 < zbh ((4:Int) / 16).toNat∨zbi ((4:Int) / 16).toNat < bt s 1) from fun q=>q.elim (of_decide_eq_false hg14_4) (of_decide_eq_false hc57)),if_neg (by decide),if_pos (show bt s 2 < 128∨191 < bt s 2 from by first|exact .inl (of_decide_eq_true hg19_2)|exact .inr (of_decide_eq_true hc75))]
         exact zbj rfl rfl (.drop1 _ _ _) ⟨rfl,by rw [hd];rfl⟩
        ·first|cases hc75|exact absurd hc75 (by decide)|(exfalso;simp_all;done)
       ·refine rn ?_;refine z8 rfl (fun hc75=> ?_) (fun hc75=> ?_)
        ·refine rn ?_;have hd:y7 s=(65533,1):=by
          unfold y7
          rw [if_neg (by omega)]
          simp only [hx]
          rw [if_neg (by decide),if_neg (show ¬(s.size:Int) < (4:Int) % 8 from of_decide_eq_false hc45),if_neg (show ¬(bt s 1 < zbh ((4:Int) / 16).toNat∨zbi ((4:Int) / 16).toNat < bt s 1) from fun q=>q.elim (of_decide_eq_false hg14_4) (of_decide_eq_false hc57)),if_neg (by decide),if_pos (show bt s 2 < 128∨191 < bt s 2 from by first|exact .inl (of_decide_eq_true hg19_2)|exact .inr (of_decide_eq_true hc75))]
         exact zbj rfl rfl (.drop1 _ _ _) ⟨rfl,by rw [hd];rfl⟩
        ·refine rn ?_;refine z8 rfl (fun hc77=> ?_) (fun hc77=> ?_)
         ·first|cases hc77|exact absurd hc77 (by decide)|(exfalso;simp_all;done)
         ·refine rn ?_;refine qq rfl rfl (v7 3 rfl rfl (by omega)) ?_
          refine rn ?_;refine q8 (fun hg24_2=> ?_) (fun hg24_2=> ?_)
          ·refine rn ?_;refine z8 rfl (fun hc98=> ?_) (fun hc98=> ?_)
           ·refine rn ?_;have hd:y7 s=(65533,1):=by
             unfold y7
             rw [if_neg (by omega)]
             simp only [hx]
             rw [if_neg (by decide),if_neg (show ¬(s.size:Int) < (4:Int) % 8 from of_decide_eq_false hc45),if_neg (show ¬(bt s 1 < zbh ((4:Int) / 16).toNat∨zbi ((4:Int) / 16).toNat < bt s 1) from fun q=>q.elim (of_decide_eq_false hg14_4) (of_decide_eq_false hc57)),if_neg (by decide),if_neg (show ¬(bt s 2 < 128∨191 < bt s 2) from fun q=>q.elim (of_decide_eq_false hg19_2) (of_decide_eq_false hc75)),if_neg (by decide),if_pos (show bt s 3 < 128∨191 < bt s 3 from by first|exact .inl (of_decide_eq_true hg24_2)|exact .inr (of_decide_eq_true hc98))]
            exact zbj rfl rfl (.drop1 _ _ _) ⟨rfl,by rw [hd];rfl⟩
           ·first|cases hc98|exact absurd hc98 (by decide)|(exfalso;simp_all;done)
          ·refine rn ?_;refine z8 rfl (fun hc98=> ?_) (fun hc98=> ?_)
           ·refine rn ?_;have hd:y7 s=(65533,1):=by
             unfold y7
             rw [if_neg (by omega)]
             simp only [hx]
             rw [if_neg (by decide),if_neg (show ¬(s.size:Int) < (4:Int) % 8 from of_decide_eq_false hc45),if_neg (show ¬(bt s 1 < zbh ((4:Int) / 16).toNat∨zbi ((4:Int) / 16).toNat < bt s 1) from fun q=>q.elim (of_decide_eq_false hg14_4) (of_decide_eq_false hc57)),if_neg (by decide),if_neg (show ¬(bt s 2 < 128∨191 < bt s 2) from fun q=>q.elim (of_decide_eq_false hg19_2) (of_decide_eq_false hc75)),if_neg (by decide),if_pos (show bt s 3 < 128∨191 < bt s 3 from by first|exact .inl (of_decide_eq_true hg24_2)|exact .inr (of_decide_eq_true hc98))]
            exact zbj rfl rfl (.drop1 _ _ _) ⟨rfl,by rw [hd];rfl⟩
           ·refine rn ?_;have hd:y7 s=(bI .or .i32 (bI .or .i32 (bI .or .i32 (zcb (bt s 0) 7 18) (zcb (bt s 1) 63 12)) (zcb (bt s 2) 63 6)) (zcb (bt s 3) 63 0),4):=by
             unfold y7
             rw [if_neg (by omega)]
             simp only [hx]
             rw [if_neg (by decide),if_neg (show ¬(s.size:Int) < (4:Int) % 8 from of_decide_eq_false hc45),if_neg (show ¬(bt s 1 < zbh ((4:Int) / 16).toNat∨zbi ((4:Int) / 16).toNat < bt s 1) from fun q=>q.elim (of_decide_eq_false hg14_4) (of_decide_eq_false hc57)),if_neg (by decide),if_neg (show ¬(bt s 2 < 128∨191 < bt s 2) from fun q=>q.elim (of_decide_eq_false hg19_2) (of_decide_eq_false hc75)),if_neg (by decide),if_neg (show ¬(bt s 3 < 128∨191 < bt s 3) from fun q=>q.elim (of_decide_eq_false hg24_2) (of_decide_eq_false hc98))]
            exact zbj rfl rfl (.drop1 _ _ _) ⟨rfl,by rw [hd];rfl⟩
theorem zo3 (s:ByteArray) (hx:zb2 (bt s 0).toNat=68):x3 Tryz.prog 227 [.v (.string s)] [.glob 5 276 y9,.glob 6 279 y4] (fun r h'=>h'= [.glob 5 276 y9,.glob 6 279 y4]∧r= .tup [.v (.int .i32 (y7 s).1),iv (y7 s).2]):=by
 refine z6 Tryz.func227 rfl rfl rfl ?_
 refine rn ?_;refine z8 rfl (fun hc16=> ?_) (fun hc16=> ?_)
 ·refine rn ?_;have hd:y7 s=(65533,0):=by
   unfold y7
   rw [if_pos (by simp at hc16;omega)]
  exact zbj rfl rfl (.refl _ _) ⟨rfl,by rw [hd];rfl⟩
 ·have h1:0 < s.size:=by simp at hc16;omega
  refine rn ?_;refine qq rfl rfl (v7 0 rfl rfl (by omega)) ?_
  refine rn ?_;refine qq rfl rfl (u2 rfl rfl (zfb _ _) (zfa _ _)) ?_
  refine qq rfl rfl (j4 rfl (show _=some (.v (.int .u8 68)) from by rw [zb6 (zfb s 0) (zfa s 0),hx])) ?_
  refine rn ?_;refine z8 rfl (fun hc23=> ?_) (fun hc23=> ?_)
  ·first|cases hc23|exact absurd hc23 (by decide)|(exfalso;simp_all;done)
  ·refine rn ?_;refine qq rfl rfl (u2 rfl rfl (by decide) (by decide)) ?_
   refine rn ?_;refine z7 rfl (x6 rfl fun b9=> ?_)
   refine rn ?_;refine z8 rfl (fun hc45=> ?_) (fun hc45=> ?_)
   ·refine rn ?_;have hd:y7 s=(65533,1):=by
     unfold y7
     rw [if_neg (by omega)]
     simp only [hx]
     rw [if_neg (by decide),if_pos (show (s.size:Int) < (68:Int) % 8 from of_decide_eq_true hc45)]
    exact zbj rfl rfl (.drop1 _ _ _) ⟨rfl,by rw [hd];rfl⟩
   ·have h2:4≤s.size:=by
     have:¬((s.size:Int) < 4):=of_decide_eq_false hc45
     omega
    refine rn ?_;refine qq rfl rfl (v7 1 rfl rfl (by omega)) ?_
    refine rn ?_;refine q8 (fun hg14_4=> ?_) (fun hg14_4=> ?_)
    ·refine rn ?_;refine z8 rfl (fun hc57=> ?_) (fun hc57=> ?_)
     ·refine rn ?_;have hd:y7 s=(65533,1):=by
       unfold y7
       rw [if_neg (by omega)]
       simp only [hx]
       rw [if_neg (by decide),if_neg (show ¬(s.size:Int) < (68:Int) % 8 from of_decide_eq_false hc45),if_pos (show bt s 1 < zbh ((68:Int) / 16).toNat∨zbi ((68:Int) / 16).toNat < bt s 1 from by first|exact .inl (of_decide_eq_true hg14_4)|exact .inr (of_decide_eq_true hc57))]
      exact zbj rfl rfl (.drop1 _ _ _) ⟨rfl,by rw [hd];rfl⟩
     ·first|cases hc57|exact absurd hc57 (by decide)|(exfalso;simp_all;done)
    ·refine rn ?_;refine z8 rfl (fun hc57=> ?_) (fun hc57=> ?_)
     ·refine rn ?_;have hd:y7 s=(65533,1):=by
       unfold y7
       rw [if_neg (by omega)]
       simp only [hx]
       rw [if_neg (by decide),if_neg (show ¬(s.size:Int) < (68:Int) % 8 from of_decide_eq_false hc45),if_pos (show bt s 1 < zbh ((68:Int) / 16).toNat∨zbi ((68:Int) / 16).toNat < bt s 1 from by first|exact .inl (of_decide_eq_true hg14_4)|exact .inr (of_decide_eq_true hc57))]
      exact zbj rfl rfl (.drop1 _ _ _) ⟨rfl,by rw [hd];rfl⟩
     ·refine rn ?_;refine z8 rfl (fun hc59=> ?_) (fun hc59=> ?_)
      ·first|cases hc59|exact absurd hc59 (by decide)|(exfalso;simp_all;done)
      ·refine rn ?_;refine qq rfl rfl (v7 2 rfl rfl (by omega)) ?_
       refine rn ?_;refine q8 (fun hg19_2=> ?_) (fun hg19_2=> ?_)
       ·refine rn ?_;refine z8 rfl (fun hc75=> ?_) (fun hc75=> ?_)
        ·refine rn ?_;have hd:y7 s=(65533,1):=by
          unfold y7
          rw [if_neg (by omega)]
          simp only [hx]
          rw [if_neg (by decide),if_neg (show ¬(s.size:Int) < (68:Int) % 8 from of_decide_eq_false hc45),if_neg (show ¬(bt s 1 < zbh ((68:Int) / 16).toNat∨zbi ((68:Int) / 16).toNat < bt s 1) from fun q=>q.elim (of_decide_eq_false hg14_4) (of_decide_eq_false hc57)),if_neg (by decide),if_pos (show bt s 2 < 128∨191 < bt s 2 from by first|exact .inl (of_decide_eq_true hg19_2)|exact .inr (of_decide_eq_true hc75))]
         exact zbj rfl rfl (.drop1 _ _ _) ⟨rfl,by rw [hd];rfl⟩
        ·first|cases hc75|exact absurd hc75 (by decide)|(exfalso;simp_all;done)
       ·refine rn ?_;refine z8 rfl (fun hc75=> ?_) (fun hc75=> ?_)
        ·refine rn ?_;have hd:y7 s=(65533,1):=by
          unfold y7
          rw [if_neg (by omega)]
          simp only [hx]
          rw [if_neg (by decide),if_neg (show ¬(s.size:Int) < (68:Int) % 8 from of_decide_eq_false hc45),if_neg (show ¬(bt s 1 < zbh ((68:Int) / 16).toNat∨zbi ((68:Int) / 16).toNat < bt s 1) from fun q=>q.elim (of_decide_eq_false hg14_4) (of_decide_eq_false hc57)),if_neg (by decide),if_pos (show bt s 2 < 128∨191 < bt s 2 from by first|exact .inl (of_decide_eq_true hg19_2)|exact .inr (of_decide_eq_true hc75))]
         exact zbj rfl rfl (.drop1 _ _ _) ⟨rfl,by rw [hd];rfl⟩
        ·refine rn ?_;refine z8 rfl (fun hc77=> ?_) (fun hc77=> ?_)
         ·first|cases hc77|exact absurd hc77 (by decide)|(exfalso;simp_all;done)
         ·refine rn ?_;refine qq rfl rfl (v7 3 rfl rfl (by omega)) ?_
          refine rn ?_;refine q8 (fun hg24_2=> ?_) (fun hg24_2=> ?_)
          ·refine rn ?_;refine z8 rfl (fun hc98=> ?_) (fun hc98=> ?_)
           ·refine rn ?_;have hd:y7 s=(65533,1):=by
             unfold y7
             rw [if_neg (by omega)]
             simp only [hx]
             rw [if_neg (by decide),if_neg (show ¬(s.size:Int) < (68:Int) % 8 from of_decide_eq_false hc45),if_neg (show ¬(bt s 1 < zbh ((68:Int) / 16).toNat∨zbi ((68:Int) / 16).toNat < bt s 1) from fun q=>q.elim (of_decide_eq_false hg14_4) (of_decide_eq_false hc57)),if_neg (by decide),if_neg (show ¬(bt s 2 < 128∨191 < bt s 2) from fun q=>q.elim (of_decide_eq_false hg19_2) (of_decide_eq_false hc75)),if_neg (by decide),if_pos (show bt s 3 < 128∨191 < bt s 3 from by first|exact .inl (of_decide_eq_true hg24_2)|exact .inr (of_decide_eq_true hc98))]
            exact zbj rfl rfl (.drop1 _ _ _) ⟨rfl,by rw [hd];rfl⟩
           ·first|cases hc98|exact absurd hc98 (by decide)|(exfalso;simp_all;done)
          ·refine rn ?_;refine z8 rfl (fun hc98=> ?_) (fun hc98=> ?_)
           ·refine rn ?_;have hd:y7 s=(65533,1):=by
             unfold y7
             rw [if_neg (by omega)]
             simp only [hx]
             rw [if_neg (by decide),if_neg (show ¬(s.size:Int) < (68:Int) % 8 from of_decide_eq_false hc45),if_neg (show ¬(bt s 1 < zbh ((68:Int) / 16).toNat∨zbi ((68:Int) / 16).toNat < bt s 1) from fun q=>q.elim (of_decide_eq_false hg14_4) (of_decide_eq_false hc57)),if_neg (by decide),if_neg (show ¬(bt s 2 < 128∨191 < bt s 2) from fun q=>q.elim (of_decide_eq_false hg19_2) (of_decide_eq_false hc75)),if_neg (by decide),if_pos (show bt s 3 < 128∨191 < bt s 3 from by first|exact .inl (of_decide_eq_true hg24_2)|exact .inr (of_decide_eq_true hc98))]
            exact zbj rfl rfl (.drop1 _ _ _) ⟨rfl,by rw [hd];rfl⟩
           ·refine rn ?_;have hd:y7 s=(bI .or .i32 (bI .or .i32 (bI .or .i32 (zcb (bt s 0) 7 18) (zcb (bt s 1) 63 12)) (zcb (bt s 2) 63 6)) (zcb (bt s 3) 63 0),4):=by
             unfold y7
             rw [if_neg (by omega)]
             simp only [hx]
             rw [if_neg (by decide),if_neg (show ¬(s.size:Int) < (68:Int) % 8 from of_decide_eq_false hc45),if_neg (show ¬(bt s 1 < zbh ((68:Int) / 16).toNat∨zbi ((68:Int) / 16).toNat < bt s 1) from fun q=>q.elim (of_decide_eq_false hg14_4) (of_decide_eq_false hc57)),if_neg (by decide),if_neg (show ¬(bt s 2 < 128∨191 < bt s 2) from fun q=>q.elim (of_decide_eq_false hg19_2) (of_decide_eq_false hc75)),if_neg (by decide),if_neg (show ¬(bt s 3 < 128∨191 < bt s 3) from fun q=>q.elim (of_decide_eq_false hg24_2) (of_decide_eq_false hc98))]
            exact zbj rfl rfl (.drop1 _ _ _) ⟨rfl,by rw [hd];rfl⟩
theorem zl6 (s:ByteArray):x3 Tryz.prog 227 [.v (.string s)] [.glob 5 276 y9,.glob 6 279 y4] (fun r h'=>h'= [.glob 5 276 y9,.glob 6 279 y4]∧r= .tup [.v (.int .i32 (y7 s).1),iv (y7 s).2]):=by
 rcases zox (bt s 0).toNat with hx|hx|hx|hx|hx|hx|hx|hx|hx
 ·exact znb s hx
 ·exact zna s hx
 ·exact zrh s hx
 ·exact zo6 s hx
 ·exact zrg s hx
 ·exact zo5 s hx
 ·exact zo4 s hx
 ·exact zrf s hx
 ·exact zo3 s hx
theorem zuq (s:ByteArray):x3 Tryz.prog 221 [.v (.string s)] [.glob 5 276 y9,.glob 6 279 y4] (fun r h'=>h'= [.glob 5 276 y9,.glob 6 279 y4]∧r= .tup [.v (.int .i32 (zhp s).1),iv (zhp s).2]):=by
 refine z6 Tryz.func221 rfl rfl rfl ?_
 refine rn ?_;refine q8 (fun hg1_2=> ?_) (fun hg1_2=> ?_)
 ·refine rn ?_;have h1:0 < s.size:=zvi hg1_2
  refine qq rfl rfl (v7 0 rfl rfl (by omega)) ?_
  refine rn ?_;refine z8 rfl (fun hc10=> ?_) (fun hc10=> ?_)
  ·refine rn ?_;refine qq rfl rfl (v7 0 rfl rfl (by omega)) ?_
   refine rn ?_;have hd:zhp s=(bt s 0,1):=by
    unfold zhp
    exact if_pos ⟨zvi hg1_2,of_decide_eq_true hc10⟩
   exact zbj rfl rfl (.refl _ _) ⟨rfl,by rw [hd];exact congrArg (fun c=>AV.tup [.v (.int .i32 c),iv 1]) (zx4 s 0)⟩
  ·refine rn ?_;refine qv rfl rfl (y5 rfl rfl (y3.of_fun (zl6 s))) ?_
   refine rn ?_;have hd:zhp s=y7 s:=by
    unfold zhp
    exact if_neg fun q=>by first|exact yb6 hg1_2 q.1|exact absurd q.2 (of_decide_eq_false hc10)
   exact zbj rfl rfl (.refl _ _) ⟨rfl,by rw [hd];rfl⟩
 ·refine rn ?_;refine zpm rfl ?_;refine rn ?_;refine qv rfl rfl (y5 rfl rfl (y3.of_fun (zl6 s))) ?_
  refine rn ?_;have hd:zhp s=y7 s:=by
   unfold zhp
   exact if_neg fun q=>by first|exact yb6 hg1_2 q.1|exact absurd q.2 (of_decide_eq_false hc10)
  exact zbj rfl rfl (.refl _ _) ⟨rfl,by rw [hd];rfl⟩
theorem ybf {f g:Bool} (l m:List Int) (hl:l.length≤4611686018427387904) (hm:m.length≤4611686018427387904):x3 Tryz.prog 39 [.list f 1 (l.map za5),.list g 1 (m.map za5)] [] (fun r h'=>h'= []∧r=bv (eqF zuh l m)):=by
 refine z6 Tryz.func39 rfl rfl rfl ?_
 refine rn ?_;refine z8 rfl (fun hc10=> ?_) (fun hc10=> ?_)
 ·refine rn ?_;have hne:(l.length==m.length)=false:=beq_eq_false_iff_ne.2 fun q=>by simp [q] at hc10
  exact k7 rfl (.refl _ _) ⟨rfl,by rw [eqF,hne,Bool.false_and];rfl⟩
 ·have hlm:l.length=m.length:=by simp at hc10;omega
  refine rn ?_;refine u7 (fun k:Nat=>k≤l.length∧zto zuh l m=zto zuh (l.drop k) (m.drop k)) (fun k=>⟨[(13,iv k),(12,iv (l.map za5).length),(0,.list f 1 (l.map za5)),(1,.list g 1 (m.map za5))],[],[]⟩) (fun k=>l.length - k) 0 ⟨Nat.zero_le _,by simp⟩
   (x8 (.cons _ _ _ rfl (.cons _ _ _ rfl (.cons _ _ _ rfl (.cons _ _ _ rfl (.nil)))))) ?_
  rintro k ⟨hk,hz⟩
  refine rn ?_;refine z8 rfl (fun hc14=> ?_) (fun hc14=> ?_)
  ·have hk2:k < l.length:=by simpa using hc14
   have hk3:k < m.length:=by omega
   have hrow1:(l.map za5)[k]? =some (za5 l[k]):=by simp [hk2]
   have hrow2:(m.map za5)[k]? =some (za5 m[k]):=by simp [hk3]
   have hd1:=List.drop_eq_getElem_cons hk2
   have hd2:=List.drop_eq_getElem_cons hk3
   refine rn ?_;refine j6 8 rfl ?_
   refine rn ?_;refine z8 rfl (fun hc24=> ?_) (fun hc24=> ?_)
   ·refine rn ?_;exact k7 rfl (.refl _ _) ⟨rfl,by rw [eqF,hz,hd1,hd2,zto,show zuh l[k] m[k]=false from zwe hc24,Bool.false_and,Bool.and_false];rfl⟩
   ·refine rn ?_;exact ⟨k+1,⟨by omega,by rw [hz,hd1,hd2,zto,show zuh l[k] m[k]=true from zwf hc24,Bool.true_and]⟩,(x8 (.cons _ _ _ rfl (.cons _ _ _ rfl (.cons _ _ _ rfl (.cons _ _ _ rfl (.nil)))))),by omega⟩
  ·have hk3:k=l.length:=by
    have:l.length≤k:=by simpa using hc14
    omega
   refine rn ?_;exact k7 rfl (.refl _ _) ⟨rfl,by rw [eqF,hz,hk3,List.drop_length,zrt,hlm,beq_self_eq_true];rfl⟩
theorem zxo {f g:Bool} (l m:List Seen) (hl:l.length≤4611686018427387904) (hm:m.length≤4611686018427387904):x3 Tryz.prog 129 [.list f 3 (l.map zav),.list g 3 (m.map zav)] [] (fun r h'=>h'= []∧r=bv (eqF zig l m)):=by
 refine z6 Tryz.func129 rfl rfl rfl ?_
 refine rn ?_;refine z8 rfl (fun hc10=> ?_) (fun hc10=> ?_)
 ·refine rn ?_;have hne:(l.length==m.length)=false:=beq_eq_false_iff_ne.2 fun q=>by simp [q] at hc10
  exact k7 rfl (.refl _ _) ⟨rfl,by rw [eqF,hne,Bool.false_and];rfl⟩
 ·have hlm:l.length=m.length:=by simp at hc10;omega
  refine rn ?_;refine u7 (fun k:Nat=>k≤l.length∧zto zig l m=zto zig (l.drop k) (m.drop k)) (fun k=>⟨[(13,iv k),(12,iv (l.map zav).length),(0,.list f 3 (l.map zav)),(1,.list g 3 (m.map zav))],[],[]⟩) (fun k=>l.length - k) 0 ⟨Nat.zero_le _,by simp⟩
   (x8 (.cons _ _ _ rfl (.cons _ _ _ rfl (.cons _ _ _ rfl (.cons _ _ _ rfl (.nil)))))) ?_
  rintro k ⟨hk,hz⟩
  refine rn ?_;refine z8 rfl (fun hc14=> ?_) (fun hc14=> ?_)
  ·have hk2:k < l.length:=by simpa using hc14
   have hk3:k < m.length:=by omega
   have hrow1:(l.map zav)[k]? =some (zav l[k]):=by simp [hk2]
   have hrow2:(m.map zav)[k]? =some (zav m[k]):=by simp [hk3]
   have hd1:=List.drop_eq_getElem_cons hk2
   have hd2:=List.drop_eq_getElem_cons hk3
   refine rn ?_;refine j6 8 rfl ?_
   refine rn ?_;refine z8 rfl (fun hc24=> ?_) (fun hc24=> ?_)
   ·refine rn ?_;exact k7 rfl (.refl _ _) ⟨rfl,by rw [eqF,hz,hd1,hd2,zto,show zig l[k] m[k]=false from zwe hc24,Bool.false_and,Bool.and_false];rfl⟩
   ·refine rn ?_;exact ⟨k+1,⟨by omega,by rw [hz,hd1,hd2,zto,show zig l[k] m[k]=true from zwf hc24,Bool.true_and]⟩,(x8 (.cons _ _ _ rfl (.cons _ _ _ rfl (.cons _ _ _ rfl (.cons _ _ _ rfl (.nil)))))),by omega⟩
  ·have hk3:k=l.length:=by
    have:l.length≤k:=by simpa using hc14
    omega
   refine rn ?_;exact k7 rfl (.refl _ _) ⟨rfl,by rw [eqF,hz,hk3,List.drop_length,zrt,hlm,beq_self_eq_true];rfl⟩
theorem zub (l:Int):x3 Tryz.prog 176 [iv l] [] (fun r h'=>h'= []∧r=iv (yi3 l)):=by
 refine z6 Tryz.func176 rfl rfl rfl ?_
 refine rn ?_;refine q8 (fun hg1_2=> ?_) (fun hg1_2=> ?_)
 ·refine rn ?_;refine zro rfl ?_;refine rn ?_;exact k7 rfl (.refl _ _) ⟨rfl,congrArg iv (by simp_all [yi3])⟩
 ·refine rn ?_;refine z8 rfl (fun hc8=> ?_) (fun hc8=> ?_)
  ·refine rn ?_;exact k7 rfl (.refl _ _) ⟨rfl,congrArg iv (by simp_all [yi3])⟩
  ·refine rn ?_;exact k7 rfl (.refl _ _) ⟨rfl,congrArg iv (by simp_all [yi3])⟩
theorem zon (c:Int):x3 Tryz.prog 168 [.v (.int .i32 c)] [] (fun r h'=>h'= []∧r=bv (zwd c)):=by
 refine z6 Tryz.func168 rfl rfl rfl ?_
 refine rn ?_;refine q8 (fun hg1_2=> ?_) (fun hg1_2=> ?_)
 ·refine rn ?_;exact k7 rfl (.refl _ _) ⟨rfl,congrArg bv (by first|(simp only [zwd, *,Bool.true_and,Bool.false_and,Bool.and_false,Bool.and_true,Bool.true_or,Bool.or_false,Bool.false_or,Bool.or_true,if_true,if_false,Bool.false_eq_true,Bool.not_true,Bool.not_false];done)|(simp_all [zwd];done)|(simp_all [zwd] <;> omega))⟩
 ·refine rn ?_;exact k7 rfl (.refl _ _) ⟨rfl,congrArg bv (by first|(simp only [zwd, *,Bool.true_and,Bool.false_and,Bool.and_false,Bool.and_true,Bool.true_or,Bool.or_false,Bool.false_or,Bool.or_true,if_true,if_false,Bool.false_eq_true,Bool.not_true,Bool.not_false];done)|(simp_all [zwd];done)|(simp_all [zwd] <;> omega))⟩
theorem bvz0_161 {a b:Bool} (h:a=b:=by first|(simp only [ye9, *,Bool.true_and,Bool.false_and,Bool.and_false,Bool.and_true,Bool.true_or,Bool.or_false,Bool.false_or,Bool.or_true,if_true,if_false,Bool.false_eq_true,Bool.not_true,Bool.not_false];done)|(simp_all [ye9];done)|(simp_all [ye9] <;> omega)):bv a=bv b:=congrArg bv h
theorem zwu (c:Int):x3 Tryz.prog 201 [.v (.int .i32 c)] [] (fun r h'=>h'= []∧r=bv (ye9 c)):=by
 refine z6 Tryz.func201 rfl rfl rfl ?_
 refine rn ?_;refine q8 (fun hg1_2=> ?_) (fun hg1_2=> ?_)
 ·refine rn ?_;exact k7 rfl (.refl _ _) ⟨rfl,bvz0_161⟩
 ·refine rn ?_;refine q8 (fun hg1_5=> ?_) (fun hg1_5=> ?_)
  ·refine rn ?_;refine q8 (fun hg1_10=> ?_) (fun hg1_10=> ?_)
   ·refine rn ?_;exact k7 rfl (.refl _ _) ⟨rfl,bvz0_161⟩
   ·refine rn ?_;refine q8 (fun hg1_13=> ?_) (fun hg1_13=> ?_)
    ·refine rn ?_;refine q8 (fun hg1_18=> ?_) (fun hg1_18=> ?_)
     ·refine rn ?_;exact k7 rfl (.refl _ _) ⟨rfl,bvz0_161⟩
     ·refine rn ?_;exact k7 rfl (.refl _ _) ⟨rfl,bvz0_161⟩
    ·refine rn ?_;exact k7 rfl (.refl _ _) ⟨rfl,bvz0_161⟩
  ·refine rn ?_;refine q8 (fun hg1_13=> ?_) (fun hg1_13=> ?_)
   ·refine rn ?_;refine q8 (fun hg1_18=> ?_) (fun hg1_18=> ?_)
    ·refine rn ?_;exact k7 rfl (.refl _ _) ⟨rfl,bvz0_161⟩
    ·refine rn ?_;exact k7 rfl (.refl _ _) ⟨rfl,bvz0_161⟩
   ·refine rn ?_;exact k7 rfl (.refl _ _) ⟨rfl,bvz0_161⟩
theorem zwv (c:Int):x3 Tryz.prog 170 [.v (.int .i32 c)] [] (fun r h'=>h'= []∧r=bv (ye9 c||zwd c)):=by
 refine z6 Tryz.func170 rfl rfl rfl ?_
 refine rn ?_;refine qv rfl rfl (y5 rfl rfl (zat (zwu _) (Sbs.refl _))) ?_
 refine rn ?_;refine q8 (fun hg1_2=> ?_) (fun hg1_2=> ?_)
 ·refine rn ?_;exact k7 rfl (.refl _ _) ⟨rfl,congrArg bv (by first|(simp only [*,Bool.true_and,Bool.false_and,Bool.and_false,Bool.and_true,Bool.true_or,Bool.or_false,Bool.false_or,Bool.or_true,if_true,if_false,Bool.false_eq_true,Bool.not_true,Bool.not_false];done)|(simp_all;done)|(simp_all <;> omega))⟩
 ·refine rn ?_;refine qv rfl rfl (y5 rfl rfl (zat (zon _) (Sbs.refl _))) ?_
  refine rn ?_;exact k7 rfl (.refl _ _) ⟨rfl,congrArg bv (by first|(simp only [*,Bool.true_and,Bool.false_and,Bool.and_false,Bool.and_true,Bool.true_or,Bool.or_false,Bool.false_or,Bool.or_true,if_true,if_false,Bool.false_eq_true,Bool.not_true,Bool.not_false];done)|(simp_all;done)|(simp_all <;> omega))⟩
theorem ye1 (h:Hist):x3 Tryz.prog 93 [.agg (x4 h)] [] (fun r h'=>h'= []∧r= .agg (zij h)):=by
 refine z6 Tryz.func93 rfl rfl rfl ?_
 refine rn ?_;refine z7 rfl (w6 rfl rfl rfl fun b1=> ?_)
 refine z7 rfl (x6 rfl fun b2=> ?_)
 refine rn ?_;exact zd7 (.cons _ _ _ _ (.agg _ _ _ _ _ _ _ rfl inferInstance inferInstance inferInstance rfl) .nil) (.drop [_,_] _ _) ⟨rfl,rfl⟩
theorem zuy (h:Hist) (sort:Nat) (n:Int) (l:List ByteArray) (hs:(zij h)[sort]? =some (zba l)) (hs4:sort < 4):x3 Tryz.prog 134 [.agg (x4 h),iv sort,iv n] [] (fun r h'=>h'= []∧r=bv (zde l n)):=by
 refine z6 Tryz.func134 rfl rfl rfl ?_
 refine rn ?_;refine z7 rfl (w6 rfl rfl rfl fun b3=> ?_)
 refine rn ?_;refine q8 (fun hg1_2=> ?_) (fun hg1_2=> ?_)
 ·refine rn ?_;refine qv rfl rfl (y5 rfl rfl (zat (ye1 _) (Sbs.refl _))) ?_
  refine q1 ?_;refine qq rfl rfl (zch rfl rfl (by omega) (by simpa using hs)) ?_
  refine rn ?_;exact k7 rfl (.drop1 _ _ _) ⟨rfl,congrArg bv (by first|(simp only [zde, *,Bool.true_and,Bool.false_and,Bool.and_false,Bool.and_true,Bool.true_or,Bool.or_false,Bool.false_or,Bool.or_true,if_true,if_false,Bool.false_eq_true,Bool.not_true,Bool.not_false];done)|(simp_all [zde];done)|(simp_all [zde] <;> omega))⟩
 ·refine rn ?_;exact k7 rfl (.drop1 _ _ _) ⟨rfl,congrArg bv (by first|(simp only [zde, *,Bool.true_and,Bool.false_and,Bool.and_false,Bool.and_true,Bool.true_or,Bool.or_false,Bool.false_or,Bool.or_true,if_true,if_false,Bool.false_eq_true,Bool.not_true,Bool.not_false];done)|(simp_all [zde];done)|(simp_all [zde] <;> omega))⟩
theorem bvz1_6901 {a b:Bool} (h:a=b:=by first|(simp only [zy6, *,Bool.true_and,Bool.false_and,Bool.and_false,Bool.and_true,Bool.true_or,Bool.or_false,Bool.false_or,Bool.or_true,if_true,if_false,Bool.false_eq_true,Bool.not_true,Bool.not_false];done)|(simp_all [zy6];done)|(simp_all [zy6] <;> omega)):bv a=bv b:=congrArg bv h
theorem zpx (h:Hist) (v:Ver):x3 Tryz.prog 178 [.agg (x4 h),.agg (yg8 v)] [] (fun r h'=>h'= []∧r=bv (zy6 h.ts v)):=by
 refine z6 Tryz.func178 rfl rfl rfl ?_
 refine rn ?_;refine z7 rfl (w6 rfl rfl rfl fun b2=> ?_)
 refine z7 rfl (w6 rfl rfl rfl fun b3=> ?_)
 refine rn ?_;refine z8 rfl (fun hc7=> ?_) (fun hc7=> ?_)
 ·refine rn ?_;exact k7 rfl (.drop [_,_] _ _) ⟨rfl,bvz1_6901⟩
 ·refine rn ?_;refine qv rfl rfl (y5 rfl rfl (zat (zuy _ 0 _ _ rfl (by decide)) (Sbs.refl _))) ?_
  refine rn ?_;refine q8 (fun hg3_4=> ?_) (fun hg3_4=> ?_)
  ·refine rn ?_;refine q8 (fun hg3_9=> ?_) (fun hg3_9=> ?_)
   ·refine rn ?_;exact k7 rfl (.drop [_,_] _ _) ⟨rfl,bvz1_6901⟩
   ·refine rn ?_;exact k7 rfl (.drop [_,_] _ _) ⟨rfl,bvz1_6901⟩
  ·refine rn ?_;exact k7 rfl (.drop [_,_] _ _) ⟨rfl,bvz1_6901⟩
theorem bvz2_2227 {a b:Bool} (h:a=b:=by first|(simp only [yf5, *,Bool.true_and,Bool.false_and,Bool.and_false,Bool.and_true,Bool.true_or,Bool.or_false,Bool.false_or,Bool.or_true,if_true,if_false,Bool.false_eq_true,Bool.not_true,Bool.not_false];done)|(simp_all [yf5];done)|(simp_all [yf5] <;> omega)):bv a=bv b:=congrArg bv h
theorem zvu (a b:Ev) (ha:a.scan.length≤4611686018427387904) (hb:b.scan.length≤4611686018427387904):x3 Tryz.prog 101 [.agg (evR a),.agg (evR b)] [] (fun r h'=>h'= []∧r=bv (yf5 a b)):=by
 refine z6 Tryz.func101 rfl rfl rfl ?_
 refine rn ?_;refine z7 rfl (w6 rfl rfl rfl fun b2=> ?_)
 refine z7 rfl (w6 rfl rfl rfl fun b3=> ?_)
 refine rn ?_;refine q8 (fun hg1_5=> ?_) (fun hg1_5=> ?_)
 ·refine rn ?_;refine q8 (fun hg1_12=> ?_) (fun hg1_12=> ?_)
  ·refine rn ?_;refine q8 (fun hg1_19=> ?_) (fun hg1_19=> ?_)
   ·refine rn ?_;refine q8 (fun hg2_1=> ?_) (fun hg2_1=> ?_)
    ·refine rn ?_;refine q8 (fun hg2_8=> ?_) (fun hg2_8=> ?_)
     ·refine rn ?_;refine q8 (fun hg2_15=> ?_) (fun hg2_15=> ?_)
      ·refine rn ?_;refine q8 (fun hg2_22=> ?_) (fun hg2_22=> ?_)
       ·refine rn ?_;refine qv rfl rfl (y5 rfl rfl (zat (zxo _ _ ha hb) (Sbs.refl _))) ?_
        refine rn ?_;exact k7 rfl (.drop [_,_] _ _) ⟨rfl,bvz2_2227⟩
       ·refine rn ?_;exact k7 rfl (.drop [_,_] _ _) ⟨rfl,bvz2_2227⟩
      ·refine rn ?_;exact k7 rfl (.drop [_,_] _ _) ⟨rfl,bvz2_2227⟩
     ·refine rn ?_;exact k7 rfl (.drop [_,_] _ _) ⟨rfl,bvz2_2227⟩
    ·refine rn ?_;exact k7 rfl (.drop [_,_] _ _) ⟨rfl,bvz2_2227⟩
   ·refine rn ?_;exact k7 rfl (.drop [_,_] _ _) ⟨rfl,bvz2_2227⟩
  ·refine rn ?_;exact k7 rfl (.drop [_,_] _ _) ⟨rfl,bvz2_2227⟩
 ·refine rn ?_;exact k7 rfl (.drop [_,_] _ _) ⟨rfl,bvz2_2227⟩
theorem zzq (s:ByteArray) (i:Nat) (c:Int) (bs bi bc:Nat) (hi:i≤s.size):x3 Tryz.prog 220 [pZ bs,pZ bi,pZ bc] [.box bs 9 [sv s],.box bi 3 [iv (i:Nat)],.box bc 21 [.v (.int .i32 c)],.glob 5 276 y9,.glob 6 279 y4] (fun r h'=>h'= [.box bs 9 [sv s],.box bi 3 [iv (i:Nat)],.box bc 21 [.v (.int .i32 c)],.glob 5 276 y9,.glob 6 279 y4]∧r= .tup [.v (.int .i32 c),bv (zpz s i c)]):=by
 refine z6 Tryz.func220 rfl rfl rfl ?_
 refine x9 (y6 ?_)
 refine q1 ?_;refine q1 ?_;refine u3 (j8 ?_)
 refine x9 (y6 ?_)
 refine q1 ?_;refine q1 ?_;refine qq rfl rfl (zer rfl rfl hi) ?_
 refine qv rfl rfl (y5 rfl rfl (y3.quiet (R:=fun x=>x=_) (h2:= [_,_,_]) (List.perm_append_comm (l₁:= [_,_,_])) (y3.of_fun (zuq (s.extract i s.size))))) ?_
 refine rn ?_;refine q8 (fun hg2_3=> ?_) (fun hg2_3=> ?_)
 ·refine rn ?_;exact zbj rfl rfl (.refl _ _) ⟨rfl,congrArg (fun b=>AV.tup [.v (.int .i32 c),bv b]) (by first|(simp only [zpz, *,Bool.true_and,Bool.false_and,Bool.and_false,Bool.and_true,Bool.true_or,Bool.or_false,Bool.false_or,Bool.or_true,if_true,if_false,Bool.false_eq_true,Bool.not_true,Bool.not_false];done)|(simp_all [zpz];done))⟩
 ·refine rn ?_;exact zbj rfl rfl (.refl _ _) ⟨rfl,congrArg (fun b=>AV.tup [.v (.int .i32 c),bv b]) (by first|(simp only [zpz, *,Bool.true_and,Bool.false_and,Bool.and_false,Bool.and_true,Bool.true_or,Bool.or_false,Bool.false_or,Bool.or_true,if_true,if_false,Bool.false_eq_true,Bool.not_true,Bool.not_false];done)|(simp_all [zpz];done))⟩
theorem zvv (s:ByteArray) (bs:Nat) (y:AV) (p:Nat→Int→Bool) (I:List Res→Prop) (J:Nat→List Res→Prop) (hy:∀(i bi bc it:Nat) (L:List Res),i < s.size→I L→y3 Tryz.prog y [iv i,.fn (.func 220) [] [pZ bs,pZ bi,pZ bc]] (.box bc 21 [.v (.int .i32 (Utf8.decode s i).1)]:: .box bi 3 [iv (i:Nat)]:: .obj it (.stringIter s (i+(Utf8.decode s i).2)):: .box bs 9 [sv s]::L) (fun r h'=>∃L',h'= .box bc 21 [.v (.int .i32 (Utf8.decode s i).1)]:: .box bi 3 [iv (i:Nat)]:: .obj it (.stringIter s (i+(Utf8.decode s i).2)):: .box bs 9 [sv s]::L'∧((p i (Utf8.decode s i).1=true∧r=bv true∧I L')∨(p i (Utf8.decode s i).1=false∧r=bv false∧J i L')))) (L0:List Res) (h0:I L0):x3 Tryz.prog 219 [y,pZ bs] (.box bs 9 [sv s]::L0) (fun r h'=>∃L',h'= .box bs 9 [sv s]::L'∧((zdd s p 0=s.size∧I L')∨(zdd s p 0 < s.size∧J (zdd s p 0) L'))):=by
 refine z6 Tryz.func219 rfl rfl rfl ?_
 refine rn ?_;refine z7 rfl (zof rfl rfl fun b7=> ?_)
 refine rn ?_;refine u7 (fun x:Nat×List Res=>zdd s p 0=zdd s p x.1∧I x.2) (fun x=>⟨[(7,pZ b7),(0,y),(1,pZ bs)],.obj b7 (.stringIter s x.1):: .box bs 9 [sv s]::x.2,[]⟩) (fun x=>s.size - x.1) (0,L0) ⟨rfl,h0⟩
  (x8 (.cons _ _ _ rfl (.cons _ _ _ rfl (.cons _ _ _ rfl (.nil))))) ?_
 rintro ⟨k,L⟩ ⟨hw,hI⟩
 simp only at hw hI
 refine x9 (y6 ?_)
 refine z7 rfl (zqo rfl rfl (fun hp=> ?_) (fun hp=> ?_))
 ·refine rn ?_;refine z8 rfl (fun hc9=> ?_) (fun hc9=> ?_)
  ·first|cases hc9|exact absurd hc9 (by decide)|(exfalso;simp_all;done)
  ·refine rn ?_;exact zdy .nil (.drop1 _ _ _) ⟨_,rfl,.inl ⟨by rw [hw,zli hp],hI⟩⟩
 ·refine rn ?_;refine z8 rfl (fun hc9=> ?_) (fun hc9=> ?_)
  ·refine rn ?_;refine z7 rfl (x6 rfl fun b3=> ?_)
   refine z7 rfl (x6 rfl fun b4=> ?_)
   first|refine z7 rfl (zbl rfl rfl rfl ?_)|refine z7 rfl (zbx rfl rfl rfl rfl (Nat.le_of_ble_eq_true rfl) ?_)
   first|refine z7 rfl (zbl rfl rfl rfl ?_)|refine z7 rfl (zbx rfl rfl rfl rfl (Nat.le_of_ble_eq_true rfl) ?_)
   refine u3 (j8 ?_)
   refine x9 (y6 ?_)
   refine q1 ?_;refine q1 ?_;refine u3 (j8 ?_)
   refine x9 (y6 ?_)
   refine q1 ?_;refine q1 ?_;refine q1 ?_;refine z7 rfl (w7 rfl rfl (hy k b3 b4 b7 L hp hI) rfl ?_)
   rintro av h' ⟨L',rfl,⟨hp1,rfl,hI2⟩|⟨hp1,rfl,hJ⟩⟩
   ·refine rn ?_;refine z8 rfl (fun hc17=> ?_) (fun hc17=> ?_)
    ·first|cases hc17|exact absurd hc17 (by decide)|(exfalso;simp_all;done)
    ·refine rn ?_;exact ⟨(k+(Utf8.decode s k).2,L'),⟨hw.trans (znz hp hp1),hI2⟩,(w9 (za8 (h1:= [_,_])) (x8 (.cons _ _ _ rfl (.cons _ _ _ rfl (.cons _ _ _ rfl (.nil)))))),by have:=zny s k;simp only at hp ⊢;omega⟩
   ·refine rn ?_;refine z8 rfl (fun hc17=> ?_) (fun hc17=> ?_)
    ·refine rn ?_;exact zd7 .nil (.drop [_,_,_] _ _) ⟨_,rfl,.inr (by rw [hw,zpv hp hp1];exact ⟨hp,hJ⟩)⟩
    ·first|cases hc17|exact absurd hc17 (by decide)|(exfalso;simp_all;done)
  ·first|cases hc9|exact absurd hc9 (by decide)|(exfalso;simp_all;done)
theorem yhw (s:ByteArray) (h:List Res):x3 Tryz.prog 200 [sv s] h (fun r h'=>∃bs,h'= .box bs 9 [sv s]::h∧r= .fn (.func 219) [] [pZ bs]):=by
 refine z6 Tryz.func200 rfl rfl rfl ?_
 refine rn ?_;refine z7 rfl (w6 rfl rfl rfl fun b1=> ?_)
 refine rn ?_;exact k7 rfl (.refl _ _) ⟨_,rfl,rfl⟩
theorem yas (s:ByteArray) (fv:AV) (g:Int→Bool) (hone:fv.cellsOf=some [fv]) (hgo:∀c h,y3 Tryz.prog fv [.v (.int .i32 c)] h (fun r h'=>h'=h∧r=bv (g c))):x3 Tryz.prog 169 [sv s,fv] [.glob 5 276 y9,.glob 6 279 y4] (fun r h'=>h'= [.glob 5 276 y9,.glob 6 279 y4]∧r=iv (zdd s (zfg s g) 0:Nat)):=by
 refine z6 Tryz.func169 rfl rfl rfl ?_
 refine rn ?_;refine z7 rfl (w6 rfl hone rfl fun b3=> ?_)
 refine rn ?_;refine zhs ?_;refine rn ?_;refine z7 rfl (x6 rfl fun b5=> ?_)
 refine rn ?_;refine z7 rfl (w7 rfl rfl (y3.of_fun (yhw s _)) rfl ?_)
 rintro _ _ ⟨bs,rfl,rfl⟩
 refine rn ?_;refine zld (fun pend h''=>(pend=none∨pend=some (.exit 0))∧h''= .box bs 9 [sv s]:: .box b5 3 [iv (zdd s (zfg s g) 0:Nat)]:: .box b3 243 [fv]:: [.glob 5 276 y9,.glob 6 279 y4]) rfl (fun fn l q lp hlp=> ?_) (fun q h'' hK=> ?_) (fun q h'' c hK=> ?_)
 ·suffices hy:∀(i bi bc it:Nat) (L:List Res),i < s.size→L=lp .ready none:: .defs q:: .box b5 3 [iv s.size]:: .box b3 243 [fv]:: [.glob 5 276 y9,.glob 6 279 y4]→y3 Tryz.prog (yv l) [iv i,.fn (.func 220) [] [pZ bs,pZ bi,pZ bc]] (.box bc 21 [.v (.int .i32 (Utf8.decode s i).1)]:: .box bi 3 [iv (i:Nat)]:: .obj it (.stringIter s (i+(Utf8.decode s i).2)):: .box bs 9 [sv s]::L)
   (fun r h'=>∃L',h'= .box bc 21 [.v (.int .i32 (Utf8.decode s i).1)]:: .box bi 3 [iv (i:Nat)]:: .obj it (.stringIter s (i+(Utf8.decode s i).2)):: .box bs 9 [sv s]::L'∧((zfg s g i (Utf8.decode s i).1=true∧r=bv true∧L'=lp .ready none:: .defs q:: .box b5 3 [iv s.size]:: .box b3 243 [fv]:: [.glob 5 276 y9,.glob 6 279 y4])∨(zfg s g i (Utf8.decode s i).1=false∧r=bv false∧L'=lp .done (some (.exit 0)):: .defs q:: .box b5 3 [iv (i:Nat)]:: .box b3 243 [fv]:: [.glob 5 276 y9,.glob 6 279 y4]))) by
   refine x3.mono (x3.perm (pt2 _ _ _ _) (zvv s bs (yv l) (zfg s g) _ (fun i L=>L=lp .done (some (.exit 0)):: .defs q:: .box b5 3 [iv (i:Nat)]:: .box b3 243 [fv]:: [.glob 5 276 y9,.glob 6 279 y4]) hy _ rfl)) ?_
   rintro _ _ ⟨L',rfl,⟨hw,rfl⟩|⟨hw,rfl⟩⟩
   ·exact ⟨_,_,_,(pt2 _ _ _ _).symm,by simp,.inl rfl,by rw [hw]⟩
   ·exact ⟨_,_,_,(pt2 _ _ _ _).symm,by simp,.inr rfl,rfl⟩
  rintro i bi bc it _ hi rfl
  refine y3.perm (pt4 _ _ _ _ _ _) (y3.permR (zs9 hlp rfl rfl ?_))
  refine rn ?_;refine ⟨[(6,iv (i:Nat)),(7,.fn (.func 220) [] [pZ bs,pZ bi,pZ bc]),(5,pZ b5),(3,pZ b3)],x8 (.cons _ _ _ rfl (.cons _ _ _ rfl (.cons _ _ _ rfl (.cons _ _ _ rfl .nil)))),?_⟩
  refine rn ?_;refine qv rfl rfl (y5 rfl rfl (y3.qt (y3.of_acall (fs:= []) (cs:= [pZ bs,pZ bi,pZ bc]) (zzq s i (Utf8.decode s i).1 bs bi bc (by omega))) ((pt4 _ _ _ _ _ _).trans (.cons _ ((pt2 _ _ _ _).trans (.cons _ ((pt1 _ _ _).trans (.cons _ ((pt5 _ _ _ _ _ _ _).trans (.cons _ (pt5 _ _ _ _ _ _ _))))))))))) ?_
  refine rn ?_;refine q8 (fun hg6_2=> ?_) (fun hg6_2=> ?_)
  ·refine rn ?_;refine zro rfl ?_;refine rn ?_;exact zj0 (.refl _) ⟨_,((pt1 _ _ _).trans (.cons _ ((pt1 _ _ _).trans (.cons _ ((pt1 _ _ _).trans (.cons _ (pt1 _ _ _))))))),_,rfl,.inr ⟨by simp_all [zfg],rfl,rfl⟩⟩
  ·refine rn ?_;refine qv rfl rfl (y5 rfl rfl (hgo _ _)) ?_
   refine rn ?_;refine z8 rfl (fun hc28=> ?_) (fun hc28=> ?_)
   ·refine rn ?_;exact zj0 (.refl _) ⟨_,((pt1 _ _ _).trans (.cons _ ((pt1 _ _ _).trans (.cons _ ((pt1 _ _ _).trans (.cons _ (pt1 _ _ _))))))),_,rfl,.inr ⟨by simp_all [zfg],rfl,rfl⟩⟩
   ·refine rn ?_;exact zgw (.refl _) ⟨_,((pt1 _ _ _).trans (.cons _ ((pt1 _ _ _).trans (.cons _ ((pt1 _ _ _).trans (.cons _ (pt1 _ _ _))))))),_,rfl,.inl ⟨by simp_all [zfg],rfl,rfl⟩⟩
 ·obtain ⟨_,rfl⟩:=hK
  refine rn ?_;refine ⟨fun l h=>(by cases h),?_⟩
  exact zgk (.refl _) (.cons _ _ _ _ (.tmp _ _ rfl) .nil) (.drop [_,_,_] _ _) ⟨rfl,rfl⟩
 ·obtain ⟨hc,rfl⟩:=hK
  obtain rfl:c= .exit 0:=by simpa using hc
  refine rn ?_;refine ⟨fun l h=>(by cases h),?_⟩
  exact zgk (.refl _) (.cons _ _ _ _ (.tmp _ _ rfl) .nil) (.drop [_,_,_] _ _) ⟨rfl,rfl⟩
theorem bvz3_1563 {a b:Bool} (h:a=b:=by first|(simp only [wordB, *,Bool.true_and,Bool.false_and,Bool.and_false,Bool.and_true,Bool.true_or,Bool.or_false,Bool.false_or,Bool.or_true,if_true,if_false,Bool.false_eq_true,Bool.not_true,Bool.not_false];done)|(simp_all [wordB,zx4];done)):bv a=bv b:=congrArg bv h
theorem ynj (s:ByteArray):x3 Tryz.prog 130 [sv s] [.glob 5 276 y9,.glob 6 279 y4] (fun r h'=>h'= [.glob 5 276 y9,.glob 6 279 y4]∧r=bv (wordB s)):=by
 refine z6 Tryz.func130 rfl rfl rfl ?_
 refine rn ?_;refine q8 (fun hg1_2=> ?_) (fun hg1_2=> ?_)
 ·refine rn ?_;refine q8 (fun hg1_7=> ?_) (fun hg1_7=> ?_)
  ·refine rn ?_;have h1:0 < s.size:=zvi hg1_2
   refine qq rfl rfl (v7 0 rfl rfl (by omega)) ?_
   refine rn ?_;refine qv rfl rfl (y5 rfl rfl (zat (zon _) (Sbs.refl _))) ?_
   refine rn ?_;refine q8 (fun hg1_14=> ?_) (fun hg1_14=> ?_)
   ·refine rn ?_;refine qv rfl rfl (y5 rfl rfl (y3.of_fun (yas s (.fn (.func 170) [] []) zko rfl (fun c h=>(zat (zwv c) (Sbs.refl _)))))) ?_
    refine rn ?_;exact k7 rfl (.refl _ _) ⟨rfl,bvz3_1563⟩
   ·refine rn ?_;exact k7 rfl (.refl _ _) ⟨rfl,bvz3_1563⟩
  ·refine rn ?_;exact k7 rfl (.refl _ _) ⟨rfl,bvz3_1563⟩
 ·refine rn ?_;exact k7 rfl (.refl _ _) ⟨rfl,bvz3_1563⟩
theorem yj9 (e:Ev) (h:Hist) (be bh:Nat):x3 Tryz.prog 175 [pZ be,pZ bh] [.box be 66 (evR e),.box bh 28 (x4 h)] (fun r h'=>h'= [.box be 66 (evR e),.box bh 28 (x4 h)]∧r= .tup [.agg (evR ⟨0,0,e.s,e.l,0,⟨0,0⟩,0,[]⟩),bv (zc8 h e)]):=by
 refine z6 Tryz.func175 rfl rfl rfl ?_
 refine rn ?_;refine z7 rfl (x6 rfl fun b2=> ?_)
 refine rn ?_;refine zgh 16 [(b2,66,_)] rfl (List.perm_append_comm (l₁:= [_])) ?_
 refine rn ?_;refine dv rfl rfl (by exact y5 rfl rfl (zat (zuy _ 1 _ _ rfl (by decide)) (Sbs.refl _))) ?_
 refine rn ?_;refine zew (fun hg1_9=> ?_) (fun hg1_9=> ?_)
 ·refine rn ?_;refine dv rfl rfl (by exact y5 rfl rfl (zat (zub _) (Sbs.refl _))) ?_
  refine rn ?_;refine dw 0 rfl rfl rfl rfl rfl (Nat.le_of_ble_eq_true rfl) ?_
  refine rn2 ?_;show zca _ _ _ _ _ _ ⟨_,.box b2 66 _::_,_⟩
  refine rn ?_;exact zd7 (.cons _ _ _ _ (.agg _ _ _ _ _ _ _ rfl inferInstance inferInstance inferInstance rfl) (.cons _ _ _ _ (.tmp _ _ rfl) .nil)) (.trans (.drop1 _ _ _) (za9 (by exact Sb.aggs (by exact ⟨.refl _,.refl _,.refl _,.refl _,.refl _,.refl _,.refl _,.refl _,.nil _ _,trivial⟩)) (by exact .refl _))) ⟨rfl,congrArg (fun b=>AV.tup [.agg (evR ⟨0,0,e.s,e.l,0,⟨0,0⟩,0,[]⟩),bv b]) (by first|(simp only [zc8, *,Bool.true_and,Bool.false_and,Bool.and_false,Bool.and_true,Bool.true_or,Bool.or_false,Bool.false_or,Bool.or_true,if_true,if_false,Bool.false_eq_true,Bool.not_true,Bool.not_false];done)|(simp_all [zc8];done)|(simp_all [zc8] <;> omega))⟩
 ·refine rn ?_;refine dw 0 rfl rfl rfl rfl rfl (Nat.le_of_ble_eq_true rfl) ?_
  refine rn2 ?_;show zca _ _ _ _ _ _ ⟨_,.box b2 66 _::_,_⟩
  refine rn ?_;exact zd7 (.cons _ _ _ _ (.agg _ _ _ _ _ _ _ rfl inferInstance inferInstance inferInstance rfl) (.cons _ _ _ _ (.tmp _ _ rfl) .nil)) (.trans (.drop1 _ _ _) (za9 (by exact Sb.aggs (by exact ⟨.refl _,.refl _,.refl _,.refl _,.refl _,.refl _,.refl _,.refl _,.nil _ _,trivial⟩)) (by exact .refl _))) ⟨rfl,congrArg (fun b=>AV.tup [.agg (evR ⟨0,0,e.s,e.l,0,⟨0,0⟩,0,[]⟩),bv b]) (by first|(simp only [zc8, *,Bool.true_and,Bool.false_and,Bool.and_false,Bool.and_true,Bool.true_or,Bool.or_false,Bool.false_or,Bool.or_true,if_true,if_false,Bool.false_eq_true,Bool.not_true,Bool.not_false];done)|(simp_all [zc8];done)|(simp_all [zc8] <;> omega))⟩
theorem yj8 (e:Ev) (h:Hist) (be bh:Nat):x3 Tryz.prog 177 [pZ be,pZ bh] [.box be 66 (evR e),.box bh 28 (x4 h)] (fun r h'=>h'= [.box be 66 (evR e),.box bh 28 (x4 h)]∧r= .tup [.agg (evR ⟨0,0,0,0,e.o,e.v,0,[]⟩),bv (za7 h e)]):=by
 refine z6 Tryz.func177 rfl rfl rfl ?_
 refine rn ?_;refine z7 rfl (x6 rfl fun b2=> ?_)
 refine rn ?_;refine zgh 30 [(b2,66,_)] rfl (List.perm_append_comm (l₁:= [_])) ?_
 refine rn ?_;refine dv rfl rfl (by exact y5 rfl rfl (zat (zuy _ 2 _ _ rfl (by decide)) (Sbs.refl _))) ?_
 refine rn ?_;refine zew (fun hg1_9=> ?_) (fun hg1_9=> ?_)
 ·refine rn ?_;refine dv rfl rfl (by exact y5 rfl rfl (zat (zpx h e.v) (Sbs.refl _))) ?_
  refine rn ?_;refine zew (fun hg1_15=> ?_) (fun hg1_15=> ?_)
  ·refine rn ?_;refine zew (fun hg1_23=> ?_) (fun hg1_23=> ?_)
   ·refine rn ?_;refine dw 0 rfl rfl rfl rfl rfl (Nat.le_of_ble_eq_true rfl) ?_
    refine rn2 ?_;show zca _ _ _ _ _ _ ⟨_,.box b2 66 _::_,_⟩
    refine rn ?_;exact zd7 (.cons _ _ _ _ (.agg _ _ _ _ _ _ _ rfl inferInstance inferInstance inferInstance rfl) (.cons _ _ _ _ (.tmp _ _ rfl) .nil)) (.trans (.drop1 _ _ _) (za9 (by exact Sb.aggs (by exact ⟨.refl _,.refl _,.refl _,.refl _,.refl _,.refl _,.refl _,.refl _,.nil _ _,trivial⟩)) (by exact .refl _))) ⟨rfl,congrArg (fun b=>AV.tup [.agg (evR ⟨0,0,0,0,e.o,e.v,0,[]⟩),bv b]) (by first|(simp only [za7, *,Bool.true_and,Bool.false_and,Bool.and_false,Bool.and_true,Bool.true_or,Bool.or_false,Bool.false_or,Bool.or_true,if_true,if_false,Bool.false_eq_true,Bool.not_true,Bool.not_false];done)|(simp_all [za7];done)|(simp_all [za7] <;> omega))⟩
   ·refine rn ?_;refine dw 0 rfl rfl rfl rfl rfl (Nat.le_of_ble_eq_true rfl) ?_
    refine rn2 ?_;show zca _ _ _ _ _ _ ⟨_,.box b2 66 _::_,_⟩
    refine rn ?_;exact zd7 (.cons _ _ _ _ (.agg _ _ _ _ _ _ _ rfl inferInstance inferInstance inferInstance rfl) (.cons _ _ _ _ (.tmp _ _ rfl) .nil)) (.trans (.drop1 _ _ _) (za9 (by exact Sb.aggs (by exact ⟨.refl _,.refl _,.refl _,.refl _,.refl _,.refl _,.refl _,.refl _,.nil _ _,trivial⟩)) (by exact .refl _))) ⟨rfl,congrArg (fun b=>AV.tup [.agg (evR ⟨0,0,0,0,e.o,e.v,0,[]⟩),bv b]) (by first|(simp only [za7, *,Bool.true_and,Bool.false_and,Bool.and_false,Bool.and_true,Bool.true_or,Bool.or_false,Bool.false_or,Bool.or_true,if_true,if_false,Bool.false_eq_true,Bool.not_true,Bool.not_false];done)|(simp_all [za7];done)|(simp_all [za7] <;> omega))⟩
  ·refine rn ?_;refine dw 0 rfl rfl rfl rfl rfl (Nat.le_of_ble_eq_true rfl) ?_
   refine rn2 ?_;show zca _ _ _ _ _ _ ⟨_,.box b2 66 _::_,_⟩
   refine rn ?_;exact zd7 (.cons _ _ _ _ (.agg _ _ _ _ _ _ _ rfl inferInstance inferInstance inferInstance rfl) (.cons _ _ _ _ (.tmp _ _ rfl) .nil)) (.trans (.drop1 _ _ _) (za9 (by exact Sb.aggs (by exact ⟨.refl _,.refl _,.refl _,.refl _,.refl _,.refl _,.refl _,.refl _,.nil _ _,trivial⟩)) (by exact .refl _))) ⟨rfl,congrArg (fun b=>AV.tup [.agg (evR ⟨0,0,0,0,e.o,e.v,0,[]⟩),bv b]) (by first|(simp only [za7, *,Bool.true_and,Bool.false_and,Bool.and_false,Bool.and_true,Bool.true_or,Bool.or_false,Bool.false_or,Bool.or_true,if_true,if_false,Bool.false_eq_true,Bool.not_true,Bool.not_false];done)|(simp_all [za7];done)|(simp_all [za7] <;> omega))⟩
 ·refine rn ?_;refine dw 0 rfl rfl rfl rfl rfl (Nat.le_of_ble_eq_true rfl) ?_
  refine rn2 ?_;show zca _ _ _ _ _ _ ⟨_,.box b2 66 _::_,_⟩
  refine rn ?_;exact zd7 (.cons _ _ _ _ (.agg _ _ _ _ _ _ _ rfl inferInstance inferInstance inferInstance rfl) (.cons _ _ _ _ (.tmp _ _ rfl) .nil)) (.trans (.drop1 _ _ _) (za9 (by exact Sb.aggs (by exact ⟨.refl _,.refl _,.refl _,.refl _,.refl _,.refl _,.refl _,.refl _,.nil _ _,trivial⟩)) (by exact .refl _))) ⟨rfl,congrArg (fun b=>AV.tup [.agg (evR ⟨0,0,0,0,e.o,e.v,0,[]⟩),bv b]) (by first|(simp only [za7, *,Bool.true_and,Bool.false_and,Bool.and_false,Bool.and_true,Bool.true_or,Bool.or_false,Bool.false_or,Bool.or_true,if_true,if_false,Bool.false_eq_true,Bool.not_true,Bool.not_false];done)|(simp_all [za7];done)|(simp_all [za7] <;> omega))⟩
theorem yj7 (e:Ev) (h:Hist) (be bh:Nat):x3 Tryz.prog 179 [pZ be,pZ bh] [.box be 66 (evR e),.box bh 28 (x4 h)] (fun r h'=>h'= [.box be 66 (evR e),.box bh 28 (x4 h)]∧r= .tup [.agg (evR ⟨0,0,0,0,e.o,e.v,0,[]⟩),bv (zei h e)]):=by
 refine z6 Tryz.func179 rfl rfl rfl ?_
 refine rn ?_;refine z7 rfl (x6 rfl fun b2=> ?_)
 refine rn ?_;refine zgh 16 [(b2,66,_)] rfl (List.perm_append_comm (l₁:= [_])) ?_
 refine rn ?_;refine dv rfl rfl (by exact y5 rfl rfl (zat (zuy _ 2 _ _ rfl (by decide)) (Sbs.refl _))) ?_
 refine rn ?_;refine zew (fun hg1_9=> ?_) (fun hg1_9=> ?_)
 ·refine rn ?_;refine dv rfl rfl (by exact y5 rfl rfl (zat (zpx h e.v) (Sbs.refl _))) ?_
  refine rn ?_;refine dw 0 rfl rfl rfl rfl rfl (Nat.le_of_ble_eq_true rfl) ?_
  refine rn2 ?_;show zca _ _ _ _ _ _ ⟨_,.box b2 66 _::_,_⟩
  refine rn ?_;exact zd7 (.cons _ _ _ _ (.agg _ _ _ _ _ _ _ rfl inferInstance inferInstance inferInstance rfl) (.cons _ _ _ _ (.tmp _ _ rfl) .nil)) (.trans (.drop1 _ _ _) (za9 (by exact Sb.aggs (by exact ⟨.refl _,.refl _,.refl _,.refl _,.refl _,.refl _,.refl _,.refl _,.nil _ _,trivial⟩)) (by exact .refl _))) ⟨rfl,congrArg (fun b=>AV.tup [.agg (evR ⟨0,0,0,0,e.o,e.v,0,[]⟩),bv b]) (by first|(simp only [zei, *,Bool.true_and,Bool.false_and,Bool.and_false,Bool.and_true,Bool.true_or,Bool.or_false,Bool.false_or,Bool.or_true,if_true,if_false,Bool.false_eq_true,Bool.not_true,Bool.not_false];done)|(simp_all [zei];done)|(simp_all [zei] <;> omega))⟩
 ·refine rn ?_;refine dw 0 rfl rfl rfl rfl rfl (Nat.le_of_ble_eq_true rfl) ?_
  refine rn2 ?_;show zca _ _ _ _ _ _ ⟨_,.box b2 66 _::_,_⟩
  refine rn ?_;exact zd7 (.cons _ _ _ _ (.agg _ _ _ _ _ _ _ rfl inferInstance inferInstance inferInstance rfl) (.cons _ _ _ _ (.tmp _ _ rfl) .nil)) (.trans (.drop1 _ _ _) (za9 (by exact Sb.aggs (by exact ⟨.refl _,.refl _,.refl _,.refl _,.refl _,.refl _,.refl _,.refl _,.nil _ _,trivial⟩)) (by exact .refl _))) ⟨rfl,congrArg (fun b=>AV.tup [.agg (evR ⟨0,0,0,0,e.o,e.v,0,[]⟩),bv b]) (by first|(simp only [zei, *,Bool.true_and,Bool.false_and,Bool.and_false,Bool.and_true,Bool.true_or,Bool.or_false,Bool.false_or,Bool.or_true,if_true,if_false,Bool.false_eq_true,Bool.not_true,Bool.not_false];done)|(simp_all [zei];done)|(simp_all [zei] <;> omega))⟩
theorem yf2 (s:Seen) (h:Hist) (bh:Nat):x3 Tryz.prog 181 [.agg (zav s),pZ bh] [.box bh 28 (x4 h)] (fun r h'=>h'= [.box bh 28 (x4 h)]∧r=bv (ziw h s)):=by
 refine z6 Tryz.func181 rfl rfl rfl ?_
 refine rn ?_;refine z7 rfl (w6 rfl rfl rfl fun b2=> ?_)
 refine rn ?_;refine qv rfl rfl (y5 rfl rfl (zat (zuy _ 2 _ _ rfl (by decide)) (Sbs.refl _))) ?_
 refine rn ?_;refine q8 (fun hg1_4=> ?_) (fun hg1_4=> ?_)
 ·refine rn ?_;refine qv rfl rfl (y5 rfl rfl (zat (zpx h s.v) (Sbs.refl _))) ?_
  refine rn ?_;exact k7 rfl (.drop1 _ _ _) ⟨rfl,congrArg bv (by first|(simp only [ziw, *,Bool.true_and,Bool.false_and,Bool.and_false,Bool.and_true,Bool.true_or,Bool.or_false,Bool.false_or,Bool.or_true,if_true,if_false,Bool.false_eq_true,Bool.not_true,Bool.not_false];done)|(simp_all [ziw];done)|(simp_all [ziw] <;> omega))⟩
 ·refine rn ?_;exact k7 rfl (.drop1 _ _ _) ⟨rfl,congrArg bv (by first|(simp only [ziw, *,Bool.true_and,Bool.false_and,Bool.and_false,Bool.and_true,Bool.true_or,Bool.or_false,Bool.false_or,Bool.or_true,if_true,if_false,Bool.false_eq_true,Bool.not_true,Bool.not_false];done)|(simp_all [ziw];done)|(simp_all [ziw] <;> omega))⟩
theorem yj6 (e:Ev) (h:Hist) (be bh:Nat) (hl:e.scan.length≤4611686018427387904):x3 Tryz.prog 180 [pZ bh,pZ be] [.box be 66 (evR e),.box bh 28 (x4 h)] (fun r h'=>h'= [.box be 66 (evR e),.box bh 28 (x4 h)]∧r= .tup [.agg (evR ⟨0,0,0,0,0,⟨0,0⟩,e.p,e.scan⟩),bv (zcw h e)]):=by
 refine z6 Tryz.func180 rfl rfl rfl ?_
 refine rn ?_;refine z7 rfl (x6 rfl fun b2=> ?_)
 refine rn ?_;refine zgh 22 [(b2,66,_)] rfl (List.perm_append_comm (l₁:= [_])) ?_
 refine rn ?_;refine dv rfl rfl (by exact y5 rfl rfl (zat (zuy _ 3 _ _ rfl (by decide)) (Sbs.refl _))) ?_
 refine rn ?_;refine zew (fun hg2_9=> ?_) (fun hg2_9=> ?_)
 ·refine rn ?_;refine zew (fun hg2_15=> ?_) (fun hg2_15=> ?_)
  ·refine rn ?_;refine dv rfl rfl (by exact y5 rfl rfl (y3.of_fun (ygn e.scan (.fn (.func 181) [] [pZ bh]) (ziw h) [.box be 66 (evR e),.box bh 28 (x4 h)] rfl (fun s hs=>y3.quiet (R:=fun x=>x=bv (ziw h s)) (h2:= [_]) (List.perm_append_comm (l₁:= [_])) (y3.of_acall (fs:= []) (cs:= [pZ bh]) (yf2 s h bh))) hl))) ?_
   refine rn ?_;refine dw 0 rfl rfl rfl rfl rfl (Nat.le_of_ble_eq_true rfl) ?_
   refine rn2 ?_;show zca _ _ _ _ _ _ ⟨_,.box b2 66 _::_,_⟩
   refine rn ?_;exact zd7 (.cons _ _ _ _ (.agg _ _ _ _ _ _ _ rfl inferInstance inferInstance inferInstance rfl) (.cons _ _ _ _ (.tmp _ _ rfl) .nil)) (.trans (.drop1 _ _ _) (za9 (by exact Sb.aggs (by exact ⟨.refl _,.refl _,.refl _,.refl _,.refl _,.refl _,.refl _,.refl _,.refl _,trivial⟩)) (by exact .refl _))) ⟨rfl,congrArg (fun b=>AV.tup [.agg (evR ⟨0,0,0,0,0,⟨0,0⟩,e.p,e.scan⟩),bv b]) (by first|(simp only [zcw, *,Bool.true_and,Bool.false_and,Bool.and_false,Bool.and_true,Bool.true_or,Bool.or_false,Bool.false_or,Bool.or_true,if_true,if_false,Bool.false_eq_true,Bool.not_true,Bool.not_false];done)|(simp_all [zcw];done)|(simp_all [zcw] <;> omega))⟩
  ·refine rn ?_;refine dw 0 rfl rfl rfl rfl rfl (Nat.le_of_ble_eq_true rfl) ?_
   refine rn2 ?_;show zca _ _ _ _ _ _ ⟨_,.box b2 66 _::_,_⟩
   refine rn ?_;exact zd7 (.cons _ _ _ _ (.agg _ _ _ _ _ _ _ rfl inferInstance inferInstance inferInstance rfl) (.cons _ _ _ _ (.tmp _ _ rfl) .nil)) (.trans (.drop1 _ _ _) (za9 (by exact Sb.aggs (by exact ⟨.refl _,.refl _,.refl _,.refl _,.refl _,.refl _,.refl _,.refl _,.refl _,trivial⟩)) (by exact .refl _))) ⟨rfl,congrArg (fun b=>AV.tup [.agg (evR ⟨0,0,0,0,0,⟨0,0⟩,e.p,e.scan⟩),bv b]) (by first|(simp only [zcw, *,Bool.true_and,Bool.false_and,Bool.and_false,Bool.and_true,Bool.true_or,Bool.or_false,Bool.false_or,Bool.or_true,if_true,if_false,Bool.false_eq_true,Bool.not_true,Bool.not_false];done)|(simp_all [zcw];done)|(simp_all [zcw] <;> omega))⟩
 ·refine rn ?_;refine dw 0 rfl rfl rfl rfl rfl (Nat.le_of_ble_eq_true rfl) ?_
  refine rn2 ?_;show zca _ _ _ _ _ _ ⟨_,.box b2 66 _::_,_⟩
  refine rn ?_;exact zd7 (.cons _ _ _ _ (.agg _ _ _ _ _ _ _ rfl inferInstance inferInstance inferInstance rfl) (.cons _ _ _ _ (.tmp _ _ rfl) .nil)) (.trans (.drop1 _ _ _) (za9 (by exact Sb.aggs (by exact ⟨.refl _,.refl _,.refl _,.refl _,.refl _,.refl _,.refl _,.refl _,.refl _,trivial⟩)) (by exact .refl _))) ⟨rfl,congrArg (fun b=>AV.tup [.agg (evR ⟨0,0,0,0,0,⟨0,0⟩,e.p,e.scan⟩),bv b]) (by first|(simp only [zcw, *,Bool.true_and,Bool.false_and,Bool.and_false,Bool.and_true,Bool.true_or,Bool.or_false,Bool.false_or,Bool.or_true,if_true,if_false,Bool.false_eq_true,Bool.not_true,Bool.not_false];done)|(simp_all [zcw];done)|(simp_all [zcw] <;> omega))⟩
theorem yj5  :x3 Tryz.prog 183 [] [] (fun r h'=>h'= []∧r= .tup [.agg (evR ⟨0,0,0,0,0,⟨0,0⟩,0,[]⟩),bv true]):=by
 refine z6 Tryz.func183 rfl rfl rfl ?_
 refine rn ?_;refine z7 rfl (x6 rfl fun b0=> ?_)
 refine rn ?_;exact zd7 (.cons _ _ _ _ (.agg _ _ _ _ _ _ _ rfl inferInstance inferInstance inferInstance rfl) (.cons _ _ _ _ (.tmp _ _ rfl) .nil)) (.trans (.drop1 _ _ _) (za9 (by exact Sb.aggs (by exact ⟨.refl _,.refl _,.refl _,.refl _,.refl _,.refl _,.refl _,.refl _,.nil _ _,trivial⟩)) (by exact .refl _))) ⟨rfl,congrArg (fun b=>AV.tup [.agg (evR ⟨0,0,0,0,0,⟨0,0⟩,0,[]⟩),bv b]) (by rfl)⟩
theorem yj4  :x3 Tryz.prog 184 [] [] (fun r h'=>h'= []∧r= .tup [.agg (evR ⟨0,0,0,0,0,⟨0,0⟩,0,[]⟩),bv true]):=by
 refine z6 Tryz.func184 rfl rfl rfl ?_
 refine rn ?_;refine z7 rfl (x6 rfl fun b0=> ?_)
 refine rn ?_;exact zd7 (.cons _ _ _ _ (.agg _ _ _ _ _ _ _ rfl inferInstance inferInstance inferInstance rfl) (.cons _ _ _ _ (.tmp _ _ rfl) .nil)) (.trans (.drop1 _ _ _) (za9 (by exact Sb.aggs (by exact ⟨.refl _,.refl _,.refl _,.refl _,.refl _,.refl _,.refl _,.refl _,.nil _ _,trivial⟩)) (by exact .refl _))) ⟨rfl,congrArg (fun b=>AV.tup [.agg (evR ⟨0,0,0,0,0,⟨0,0⟩,0,[]⟩),bv b]) (by rfl)⟩
theorem ybe (h:Hist) (e:Ev) (b2 b3 k:Nat) (hl:e.scan.length≤4611686018427387904) (hk:e.kind=k) (h1:1≤k) (h7:k < 7):
 ∃av,(([.v .nilFunc,.fn (.func 175) [] [pZ b3,pZ b2],.fn (.func 177) [] [pZ b3,pZ b2],.fn (.func 179) [] [pZ b3,pZ b2],.fn (.func 180) [] [pZ b2,pZ b3],.fn (.func 183) [] [],.fn (.func 184) [] []]):List AV)[k * 1]? =some av∧y3 Tryz.prog av [] [.box b3 66 (evR e),.box b2 28 (x4 h)] (fun r h'=>h'= [.box b3 66 (evR e),.box b2 28 (x4 h)]∧r= .tup [.agg (evR (zjn h e).1),bv (zjn h e).2]):=by
 rcases (by omega:k=1∨k=2∨k=3∨k=4∨k=5∨k=6) with rfl|rfl|rfl|rfl|rfl|rfl
 ·refine ⟨_,rfl,?_⟩
  have hc:zjn h e=(⟨0,0,e.s,e.l,0,⟨0,0⟩,0,[]⟩,zc8 h e):=by unfold zjn;rw [hk];rfl
  rw [hc]
  exact y3.of_acall (fs:= []) (cs:= [pZ b3,pZ b2]) (yj9 e h b3 b2)
 ·refine ⟨_,rfl,?_⟩
  have hc:zjn h e=(⟨0,0,0,0,e.o,e.v,0,[]⟩,za7 h e):=by unfold zjn;rw [hk];rfl
  rw [hc]
  exact y3.of_acall (fs:= []) (cs:= [pZ b3,pZ b2]) (yj8 e h b3 b2)
 ·refine ⟨_,rfl,?_⟩
  have hc:zjn h e=(⟨0,0,0,0,e.o,e.v,0,[]⟩,zei h e):=by unfold zjn;rw [hk];rfl
  rw [hc]
  exact y3.of_acall (fs:= []) (cs:= [pZ b3,pZ b2]) (yj7 e h b3 b2)
 ·refine ⟨_,rfl,?_⟩
  have hc:zjn h e=(⟨0,0,0,0,0,⟨0,0⟩,e.p,e.scan⟩,zcw h e):=by unfold zjn;rw [hk];rfl
  rw [hc]
  exact y3.of_acall (fs:= []) (cs:= [pZ b2,pZ b3]) (yj6 e h b3 b2 hl)
 ·refine ⟨_,rfl,?_⟩
  have hc:zjn h e=(⟨0,0,0,0,0,⟨0,0⟩,0,[]⟩,true):=by unfold zjn;rw [hk];rfl
  rw [hc]
  exact y3.pure (R:=fun x=>x=_) (y3.of_acall (fs:= []) (cs:= []) yj5)
 ·refine ⟨_,rfl,?_⟩
  have hc:zjn h e=(⟨0,0,0,0,0,⟨0,0⟩,0,[]⟩,true):=by unfold zjn;rw [hk];rfl
  rw [hc]
  exact y3.pure (R:=fun x=>x=_) (y3.of_acall (fs:= []) (cs:= []) yj4)
theorem bvz4_6785 {a b:Bool} (h:a=b:=by first|(simp only [zfz, *,Bool.true_and,Bool.false_and,Bool.and_false,Bool.and_true,Bool.true_or,Bool.or_false,Bool.false_or,Bool.or_true,if_true,if_false,Bool.false_eq_true,Bool.not_true,Bool.not_false];done)|(simp_all [zfz];done)|(simp_all [zfz] <;> omega)):bv a=bv b:=congrArg bv h
theorem ymv (h:Hist) (e:Ev) (hl:e.scan.length≤4611686018427387904):x3 Tryz.prog 137 [.agg (x4 h),.agg (evR e)] [] (fun r h'=>h'= []∧r=bv (zfz h e)):=by
 refine z6 Tryz.func137 rfl rfl rfl ?_
 refine rn ?_;refine z7 rfl (w6 rfl rfl rfl fun b2=> ?_)
 refine z7 rfl (w6 rfl rfl rfl fun b3=> ?_)
 refine rn ?_;refine z7 rfl (x6 rfl fun b5=> ?_)
 refine rn ?_;refine q8 (fun hg2_3=> ?_) (fun hg2_3=> ?_)
 ·refine rn ?_;refine zro rfl ?_;refine rn ?_;exact k7 rfl (.drop [_,_,_] _ _) ⟨rfl,bvz4_6785⟩
 ·refine rn ?_;refine q8 (fun hg2_8=> ?_) (fun hg2_8=> ?_)
  ·refine rn ?_;refine zro rfl ?_;refine rn ?_;exact k7 rfl (.drop [_,_,_] _ _) ⟨rfl,bvz4_6785⟩
  ·refine rn ?_;refine qv rfl rfl (y5 rfl rfl (zat (zuy h 0 e.t _ rfl (by decide)) (Sbs.refl _))) ?_
   refine rn ?_;refine z8 rfl (fun hc27=> ?_) (fun hc27=> ?_)
   ·refine rn ?_;exact k7 rfl (.drop [_,_,_] _ _) ⟨rfl,bvz4_6785⟩
   ·have hlo:1≤e.kind:=by simpa using hg2_3
    have hhi:e.kind < 7:=by simpa using hg2_8
    obtain ⟨k,hk⟩:=Int.eq_ofNat_of_zero_le (show 0≤e.kind by omega)
    obtain ⟨av,hav,hfc⟩:=ybe h e b2 b3 k hl hk (by omega) (by omega)
    refine zaa ?_;refine j8 ?_;refine x9 (y6 ?_)
    refine q1 ?_;refine q1 ?_;refine qq rfl rfl (u6 rfl (by rw [←hk];rfl) (by omega)) ?_
    refine qq rfl rfl (j4 rfl (by simpa using hav)) ?_
    refine qv rfl rfl (y5 rfl rfl (y3.quiet (R:=fun x=>x=_) (h2:= [_]) (List.perm_append_comm (l₁:= [_])) hfc)) ?_
    refine rn ?_;refine z7 rfl (x6 rfl fun b6=> ?_)
    refine rn ?_;refine zgh 6 [(b6,66,_)] rfl (List.perm_append_comm (l₁:= [_])) ?_
    refine rn ?_;refine dw 0 rfl rfl rfl rfl rfl (Nat.le_of_ble_eq_true rfl) ?_
    refine rn2 ?_;show zca _ _ _ _ _ _ ⟨_,[.box b6 66 _,.box b5 _ _,.box b3 66 (evR e),.box b2 28 (x4 h)],_⟩
    refine rn ?_;refine q8 (fun hg6_1=> ?_) (fun hg6_1=> ?_)
    ·refine rn ?_;refine qv rfl rfl (y5 rfl rfl (zat (zvu {(zjn h e).1 with kind:=e.kind,t:=e.t} e (zx3 h e hl) hl) (by exact Sbs.refl _))) ?_
     refine rn ?_;exact k7 rfl (.drop [_,_,_,_] _ _) ⟨rfl,bvz4_6785⟩
    ·refine rn ?_;exact k7 rfl (.drop [_,_,_,_] _ _) ⟨rfl,bvz4_6785⟩
theorem zzl (h:Hist) (b:Nat) (t:Int):x3 Tryz.prog 133 [iv t,pZ b] [.box b 28 (x4 h)] (fun r h'=>h'= [.box b 28 (x4 h)]∧r=bv (zde h.ts t)):=by
 refine z6 Tryz.func133 rfl rfl rfl ?_
 refine rn ?_;refine qv rfl rfl (y5 rfl rfl (zat (zuy h 0 _ _ rfl (by decide)) (Sbs.refl _))) ?_
 refine rn ?_;exact k7 rfl (.refl _ _) ⟨rfl,congrArg bv (by rfl)⟩
theorem zvp {full:Bool} (h:Hist) (b:Nat) (ts:List Int) (hl:ts.length≤4611686018427387904):x3 Tryz.prog 131 [.list full 1 (ts.map za5),pZ b] [.box b 28 (x4 h)] (fun r h'=>h'= [.box b 28 (x4 h)]∧r=bv (tsB h ts)):=by
 refine z6 Tryz.func131 rfl rfl rfl ?_
 refine rn ?_;refine q8 (fun hg1_3=> ?_) (fun hg1_3=> ?_)
 ·refine rn ?_;refine qv rfl rfl (y5 rfl rfl (y3.of_fun (ykw ts (.fn (.func 133) [] [pZ b]) (zde h.ts) [.box b 28 (x4 h)] rfl (fun t _=>y3.of_acall (fs:= []) (cs:= [pZ b]) (zzl h b t)) hl))) ?_
  refine rn ?_;exact k7 rfl (.refl _ _) ⟨rfl,congrArg bv (by first|(simp only [tsB, *,Bool.true_and,Bool.false_and,Bool.and_false,Bool.and_true,Bool.true_or,Bool.or_false,Bool.false_or,Bool.or_true,if_true,if_false,Bool.false_eq_true,Bool.not_true,Bool.not_false];done)|(simp_all [tsB];done)|(simp_all [tsB] <;> omega))⟩
 ·refine rn ?_;exact k7 rfl (.refl _ _) ⟨rfl,congrArg bv (by first|(simp only [tsB, *,Bool.true_and,Bool.false_and,Bool.and_false,Bool.and_true,Bool.true_or,Bool.or_false,Bool.false_or,Bool.or_true,if_true,if_false,Bool.false_eq_true,Bool.not_true,Bool.not_false];done)|(simp_all [tsB];done)|(simp_all [tsB] <;> omega))⟩
theorem yd3 (h:Hist) (b:Nat) (e:Ev) (hl:e.scan.length≤4611686018427387904):x3 Tryz.prog 136 [.agg (evR e),pZ b] [.box b 28 (x4 h)] (fun r h'=>h'= [.box b 28 (x4 h)]∧r=bv (zfz h e)):=by
 refine z6 Tryz.func136 rfl rfl rfl ?_
 refine rn ?_;refine z7 rfl (w6 rfl rfl rfl fun b2=> ?_)
 refine rn ?_;refine qv rfl rfl (y5 rfl rfl (zat (ymv h e hl) (Sbs.refl _))) ?_
 refine rn ?_;exact k7 rfl (.drop1 _ _ _) ⟨rfl,congrArg bv (by rfl)⟩
theorem yd2 (h:Hist) (b c:Nat) (m:H.Ord) (hl:m.ts.length≤4611686018427387904):x3 Tryz.prog 139 [.agg (zc4 m),pZ b,pZ c] [.box b 28 (x4 h),.box c 207 [.fn (.func 131) [] [pZ b]]] (fun r h'=>h'= [.box b 28 (x4 h),.box c 207 [.fn (.func 131) [] [pZ b]]]∧r=bv (zuz h m)):=by
 refine z6 Tryz.func139 rfl rfl rfl ?_
 refine rn ?_;refine z7 rfl (w6 rfl rfl rfl fun b3=> ?_)
 refine rn ?_;refine qv rfl rfl (y5 rfl rfl (zat (zuy h 2 _ _ rfl (by decide)) (Sbs.refl _))) ?_
 refine rn ?_;refine q8 (fun hg1_4=> ?_) (fun hg1_4=> ?_)
 ·refine rn ?_;refine qv rfl rfl (y5 rfl rfl (y3.quiet (R:=fun x=>x=bv (tsB h m.ts)) (h2:= [_,_]) (List.Perm.swap _ _ _) (y3.of_acall (fs:= []) (cs:= [pZ b]) (zvp h b m.ts hl)))) ?_
  refine rn ?_;exact k7 rfl (.drop1 _ _ _) ⟨rfl,congrArg bv (by first|(simp only [zuz, *,Bool.true_and,Bool.false_and,Bool.and_false,Bool.and_true,Bool.true_or,Bool.or_false,Bool.false_or,Bool.or_true,if_true,if_false,Bool.false_eq_true,Bool.not_true,Bool.not_false];done)|(simp_all [zuz];done)|(simp_all [zuz] <;> omega))⟩
 ·refine rn ?_;exact k7 rfl (.drop1 _ _ _) ⟨rfl,congrArg bv (by first|(simp only [zuz, *,Bool.true_and,Bool.false_and,Bool.and_false,Bool.and_true,Bool.true_or,Bool.or_false,Bool.false_or,Bool.or_true,if_true,if_false,Bool.false_eq_true,Bool.not_true,Bool.not_false];done)|(simp_all [zuz];done)|(simp_all [zuz] <;> omega))⟩
theorem bvz5_5908 {a b:Bool} (h:a=b:=by first|(simp only [yak, *,Bool.true_and,Bool.false_and,Bool.and_false,Bool.and_true,Bool.true_or,Bool.or_false,Bool.false_or,Bool.or_true,if_true,if_false,Bool.false_eq_true,Bool.not_true,Bool.not_false];done)|(simp_all [yak];done)|(simp_all [yak] <;> omega)):bv a=bv b:=congrArg bv h
theorem yd1 (h:Hist) (b c:Nat) (m:Mat) (hl:m.ts.length≤4611686018427387904):x3 Tryz.prog 141 [.agg (zc9 m),pZ b,pZ c] [.box b 28 (x4 h),.box c 207 [.fn (.func 131) [] [pZ b]]] (fun r h'=>h'= [.box b 28 (x4 h),.box c 207 [.fn (.func 131) [] [pZ b]]]∧r=bv (yak h m)):=by
 refine z6 Tryz.func141 rfl rfl rfl ?_
 refine rn ?_;refine z7 rfl (w6 rfl rfl rfl fun b3=> ?_)
 refine rn ?_;refine qv rfl rfl (y5 rfl rfl (zat (zuy h 3 _ _ rfl (by decide)) (Sbs.refl _))) ?_
 refine rn ?_;refine q8 (fun hg1_4=> ?_) (fun hg1_4=> ?_)
 ·refine rn ?_;refine qv rfl rfl (y5 rfl rfl (zat (zuy h 2 _ _ rfl (by decide)) (Sbs.refl _))) ?_
  refine rn ?_;refine q8 (fun hg1_10=> ?_) (fun hg1_10=> ?_)
  ·refine rn ?_;refine qv rfl rfl (y5 rfl rfl (y3.quiet (R:=fun x=>x=bv (tsB h m.ts)) (h2:= [_,_]) (List.Perm.swap _ _ _) (y3.of_acall (fs:= []) (cs:= [pZ b]) (zvp h b m.ts hl)))) ?_
   refine rn ?_;exact k7 rfl (.drop1 _ _ _) ⟨rfl,bvz5_5908⟩
  ·refine rn ?_;exact k7 rfl (.drop1 _ _ _) ⟨rfl,bvz5_5908⟩
 ·refine rn ?_;exact k7 rfl (.drop1 _ _ _) ⟨rfl,bvz5_5908⟩
theorem bvz6_4053 {a b:Bool} (h:a=b:=by first|(simp only [zva, *,Bool.true_and,Bool.false_and,Bool.and_false,Bool.and_true,Bool.true_or,Bool.or_false,Bool.false_or,Bool.or_true,if_true,if_false,Bool.false_eq_true,Bool.not_true,Bool.not_false];done)|(simp_all [zva];done)|(simp_all [zva] <;> omega)):bv a=bv b:=congrArg bv h
theorem yd0 (h:Hist) (b:Nat) (w:Wan):x3 Tryz.prog 143 [.agg (zcj w),pZ b] [.box b 28 (x4 h)] (fun r h'=>h'= [.box b 28 (x4 h)]∧r=bv (zva h w)):=by
 refine z6 Tryz.func143 rfl rfl rfl ?_
 refine rn ?_;refine z7 rfl (w6 rfl rfl rfl fun b2=> ?_)
 refine rn ?_;refine qv rfl rfl (y5 rfl rfl (zat (zuy h 1 _ _ rfl (by decide)) (Sbs.refl _))) ?_
 refine rn ?_;refine q8 (fun hg1_4=> ?_) (fun hg1_4=> ?_)
 ·refine rn ?_;refine q8 (fun hg1_9=> ?_) (fun hg1_9=> ?_)
  ·refine rn ?_;exact k7 rfl (.drop1 _ _ _) ⟨rfl,bvz6_4053⟩
  ·refine rn ?_;exact k7 rfl (.drop1 _ _ _) ⟨rfl,bvz6_4053⟩
 ·refine rn ?_;exact k7 rfl (.drop1 _ _ _) ⟨rfl,bvz6_4053⟩
theorem bvz7_3405 {a b:Bool} (h:a=b:=by first|(simp only [zap, *,Bool.true_and,Bool.false_and,Bool.and_false,Bool.and_true,Bool.true_or,Bool.or_false,Bool.false_or,Bool.or_true,if_true,if_false,Bool.false_eq_true,Bool.not_true,Bool.not_false];done)|(simp_all [zap];done)):bv a=bv b:=congrArg bv h
theorem yhr (h:Hist) (la:Lim 4611686018427387904 h):x3 Tryz.prog 103 [.agg (x4 h)] [.glob 3 148 y8,.glob 5 276 y9,.glob 6 279 y4] (fun r h'=>h'= [.glob 3 148 y8,.glob 5 276 y9,.glob 6 279 y4]∧r=bv (zap h)):=by
 refine z6 Tryz.func103 rfl rfl rfl ?_
 refine rn ?_;refine z7 rfl (w6 rfl rfl rfl fun b1=> ?_)
 refine rn ?_;refine zhs ?_;refine zgu (⟨[(1,pZ b1),(3,bv (okK h 0))],.box b1 28 (x4 h):: [.glob 3 148 y8,.glob 5 276 y9,.glob 6 279 y4],[]⟩) ?_ ?_
 ·refine rn ?_;refine q8 (fun hg1_4=> ?_) (fun hg1_4=> ?_)
  ·refine rn ?_;rw [show okK h 0=_ from zsg h,hg1_4]
   exact (x8 (.cons _ _ _ rfl (.cons _ _ _ rfl (.nil))))
  ·refine rn ?_;rw [show okK h 0=_ from zsg h,hg1_4]
   exact (x8 (.cons _ _ _ rfl (.cons _ _ _ rfl (.nil))))
 ·refine x9 ?_;refine zti ?_;refine rn0 ?_;refine zgu (⟨[(3,bv (okK h 4)),(1,pZ b1)],.box b1 28 (x4 h):: [.glob 3 148 y8,.glob 5 276 y9,.glob 6 279 y4],[]⟩) ?_ ?_
  ·refine rn ?_;refine qv rfl rfl (y5 rfl rfl (zat (ye1 _) (Sbs.refl _))) ?_
   refine rn ?_;refine u7 (fun k:Nat=>k≤4) (fun k=>⟨[(29,iv k),(28,.agg (zij h)),(1,pZ b1),(3,bv (okK h k))],.box b1 28 (x4 h):: [.glob 3 148 y8,.glob 5 276 y9,.glob 6 279 y4],[]⟩) (fun k=>4 - k) 0 (by omega)
    (x8 (.cons _ _ _ rfl (.cons _ _ _ rfl (.cons _ _ _ rfl (.cons _ _ _ rfl (.nil)))))) ?_
   rintro k hk
   refine rn ?_;refine z8 rfl (fun hc30=> ?_) (fun hc30=> ?_)
   ·have hk4:k < 4:=by simp at hc30;omega
    refine zaa ?_;refine j8 ?_;refine x9 ?_;refine zab ?_;refine x9 (y6 ?_)
    refine q1 ?_;refine qq rfl rfl (zch rfl rfl (by omega) (by have:=zwh h hk4;simpa using this)) ?_
    refine rn ?_;refine z7 rfl (zao (enc:=zvj) rfl fun b33=> ?_)
    refine rn0 ?_;refine zgu (⟨[(5,zba (nmK h k)),(3,bv (okj h k 0)),(6,.v (.map (some b33))),(29,iv k),(28,.agg (zij h)),(1,pZ b1)],.map b33 (j9 zvj []):: .box b1 28 (x4 h):: [.glob 3 148 y8,.glob 5 276 y9,.glob 6 279 y4],[]⟩) ?_ ?_
    ·refine rn ?_;refine q8 (fun hg6_1=> ?_) (fun hg6_1=> ?_)
     ·refine q1 ?_;refine q1 ?_;refine q1 ?_;refine qq rfl rfl (u6 rfl rfl (by omega)) ?_
      refine qq rfl rfl (j4 rfl (zqy hk4)) ?_
      refine rn ?_;rw [ycb h k,hg6_1]
      first|exact (x8 (.cons _ _ _ rfl (.cons _ _ _ rfl (.cons _ _ _ rfl (.cons _ _ _ rfl (.cons _ _ _ rfl (.cons _ _ _ rfl (.nil))))))))|(rw [Bool.true_and];exact (x8 (.cons _ _ _ rfl (.cons _ _ _ rfl (.cons _ _ _ rfl (.cons _ _ _ rfl (.cons _ _ _ rfl (.cons _ _ _ rfl (.nil)))))))))
     ·refine rn ?_;rw [ycb h k,hg6_1]
      first|exact (x8 (.cons _ _ _ rfl (.cons _ _ _ rfl (.cons _ _ _ rfl (.cons _ _ _ rfl (.cons _ _ _ rfl (.cons _ _ _ rfl (.nil))))))))|(rw [Bool.true_and];exact (x8 (.cons _ _ _ rfl (.cons _ _ _ rfl (.cons _ _ _ rfl (.cons _ _ _ rfl (.cons _ _ _ rfl (.cons _ _ _ rfl (.nil)))))))))
    ·refine rn ?_;refine u7 (fun j:Nat=>j≤(nmK h k).length∧(0 < j→okj h k 0=true)∧zec [] (nmK h k)=zec ((nmK h k).take j) ((nmK h k).drop j)) (fun j=>⟨[(45,iv j),(43,zba (nmK h k)),(44,iv ((nmK h k).map zbg).length),(3,bv (okj h k 0)),(6,.v (.map (some b33))),(29,iv k),(28,.agg (zij h)),(1,pZ b1)],.map b33 (j9 zvj (yce ((nmK h k).take j))):: .box b1 28 (x4 h):: [.glob 3 148 y8,.glob 5 276 y9,.glob 6 279 y4],[]⟩) (fun j=>(nmK h k).length - j) 0 ⟨by omega,by omega,by simp⟩
      (x8 (.cons _ _ _ rfl (.cons _ _ _ rfl (.cons _ _ _ rfl (.cons _ _ _ rfl (.cons _ _ _ rfl (.cons _ _ _ rfl (.cons _ _ _ rfl (.cons _ _ _ rfl (.nil)))))))))) ?_
     rintro j ⟨hj,hok,hf⟩
     have hlk:=la.nm k
     refine rn ?_;refine z8 rfl (fun hc46=> ?_) (fun hc46=> ?_)
     ·have hj2:j < (nmK h k).length:=by simpa using hc46
      have hrow:(zba (nmK h k))= .list false 1 ((nmK h k).map zbg):=rfl
      have hrow2:((nmK h k).map zbg)[j]? =some (zbg (nmK h k)[j]):=by simp [hj2]
      have hd:=List.drop_eq_getElem_cons hj2
      refine zaa ?_;refine rn0 ?_;refine x9 ?_;refine zab ?_;refine x9 (y6 ?_)
      refine rn0 ?_;refine x9 ?_;refine zgu (⟨[(3,bv (okj h k 0 && wordB (nmK h k)[j] && !yai (nmK h k)[j] ((nmK h k).take j))),(8,sv (nmK h k)[j]),(45,iv j),(43,zba (nmK h k)),(44,iv ((nmK h k).map zbg).length),(6,.v (.map (some b33))),(29,iv k),(28,.agg (zij h)),(1,pZ b1)],.map b33 (j9 zvj (yce ((nmK h k).take j))):: .box b1 28 (x4 h):: [.glob 3 148 y8,.glob 5 276 y9,.glob 6 279 y4],[]⟩) ?_ ?_
      ·refine rn ?_;refine q8 (fun hg10_1=> ?_) (fun hg10_1=> ?_)
       ·refine rn ?_;refine qv rfl rfl (y5 rfl rfl (y3.qt (y3.of_fun (ynj ((nmK h k)[j]))) ((pt3 _ _ _ _ _).trans (.cons _ (pt3 _ _ _ _ _))))) ?_
        refine rn ?_;refine q8 (fun hg10_5=> ?_) (fun hg10_5=> ?_)
        ·refine rn ?_;refine qq rfl rfl (zn9 (enc:=zvj) (k:=(nmK h k)[j]) rfl rfl (zua _ _)) ?_
         refine rn ?_;first|(rw [hg10_1,hg10_5];exact (x8 (.cons _ _ _ rfl (.cons _ _ _ rfl (.cons _ _ _ rfl (.cons _ _ _ rfl (.cons _ _ _ rfl (.cons _ _ _ rfl (.cons _ _ _ rfl (.cons _ _ _ rfl (.cons _ _ _ rfl (.nil))))))))))))|(rw [hg10_1];exact (x8 (.cons _ _ _ rfl (.cons _ _ _ rfl (.cons _ _ _ rfl (.cons _ _ _ rfl (.cons _ _ _ rfl (.cons _ _ _ rfl (.cons _ _ _ rfl (.cons _ _ _ rfl (.cons _ _ _ rfl (.nil))))))))))))
        ·refine rn ?_;first|(rw [hg10_1,hg10_5];exact (x8 (.cons _ _ _ rfl (.cons _ _ _ rfl (.cons _ _ _ rfl (.cons _ _ _ rfl (.cons _ _ _ rfl (.cons _ _ _ rfl (.cons _ _ _ rfl (.cons _ _ _ rfl (.cons _ _ _ rfl (.nil))))))))))))|(rw [hg10_1];exact (x8 (.cons _ _ _ rfl (.cons _ _ _ rfl (.cons _ _ _ rfl (.cons _ _ _ rfl (.cons _ _ _ rfl (.cons _ _ _ rfl (.cons _ _ _ rfl (.cons _ _ _ rfl (.cons _ _ _ rfl (.nil))))))))))))
       ·refine rn ?_;first|(rw [hg10_1,hg10_5];exact (x8 (.cons _ _ _ rfl (.cons _ _ _ rfl (.cons _ _ _ rfl (.cons _ _ _ rfl (.cons _ _ _ rfl (.cons _ _ _ rfl (.cons _ _ _ rfl (.cons _ _ _ rfl (.cons _ _ _ rfl (.nil))))))))))))|(rw [hg10_1];exact (x8 (.cons _ _ _ rfl (.cons _ _ _ rfl (.cons _ _ _ rfl (.cons _ _ _ rfl (.cons _ _ _ rfl (.cons _ _ _ rfl (.cons _ _ _ rfl (.cons _ _ _ rfl (.cons _ _ _ rfl (.nil))))))))))))
      ·refine rn ?_;refine z8 rfl (fun hc61=> ?_) (fun hc61=> ?_)
       ·have hfl:(okj h k 0 && wordB (nmK h k)[j] && !yai (nmK h k)[j] ((nmK h k).take j))=false:=zwe hc61
        have hbad:okK h 4=false:=yis hk4 (yl8 (hf.trans (by rw [hd])) hfl)
        refine rn ?_;first
         |exact (x8 (.cons _ _ _ rfl (.cons _ _ _ rfl (.nil))))
         |(rw [hbad,←hfl];exact (w9 (za8 (h1:= [_])) (x8 (.cons _ _ _ rfl (.cons _ _ _ rfl (.nil))))))
       ·obtain ⟨hok2,hw,hfresh⟩:=yit (zwf hc61)
        refine rn ?_;refine z7 rfl (zii (enc:=zvj) (k:=(nmK h k)[j]) rfl rfl rfl ?_)
        refine rn ?_;have hu:=zrz ((nmK h k)[j]) ((nmK h k).take j) (yiy.1 hfresh)
        rw [←List.take_succ_eq_append_getElem hj2] at hu
        exact ⟨j+1,⟨by omega,fun _=>hok2,by rw [hf,hd,zec,hw,List.take_succ_eq_append_getElem hj2];simp [hfresh]⟩,by simp only [hu,hok2,hw,hfresh,Bool.true_and,Bool.not_false];exact (x8 (.cons _ _ _ rfl (.cons _ _ _ rfl (.cons _ _ _ rfl (.cons _ _ _ rfl (.cons _ _ _ rfl (.cons _ _ _ rfl (.cons _ _ _ rfl (.cons _ _ _ rfl (.nil)))))))))),by omega⟩
     ·have hj3:j=(nmK h k).length:=by
       have:(nmK h k).length≤j:=by simpa using hc46
       omega
      refine rn ?_;have hend:=yir (h:=h) (k:=k) (by rw [hf,hj3,List.drop_length];rfl)
      exact ⟨k+1,by omega,by rw [←hend];exact (w9 (za8 (h1:= [_])) (x8 (.cons _ _ _ rfl (.cons _ _ _ rfl (.cons _ _ _ rfl (.cons _ _ _ rfl (.nil))))))),by omega⟩
   ·have hk4:k=4:=by simp at hc30;omega
    subst hk4
    refine rn ?_;first
     |exact (x8 (.cons _ _ _ rfl (.cons _ _ _ rfl (.nil))))
     |(rw [hbad,←hfl];exact (w9 (za8 (h1:= [_])) (x8 (.cons _ _ _ rfl (.cons _ _ _ rfl (.nil))))))
  ·refine rn ?_;refine z7 rfl (x6 rfl fun b9=> ?_)
   refine rn ?_;refine q8 (fun hg16_1=> ?_) (fun hg16_1=> ?_)
   ·refine rn ?_;refine qv rfl rfl (y5 rfl rfl (y3.of_fun (ym6 h.evs (.fn (.func 136) [] [pZ b1]) (zfz h) (.box b9 207 [.fn (.func 131) [] [pZ b1]]:: .box b1 28 (x4 h):: [.glob 3 148 y8,.glob 5 276 y9,.glob 6 279 y4]) rfl (fun e he=>y3.qt (y3.of_acall (fs:= []) (cs:= [pZ b1]) (yd3 h b1 e (la.scans e he))) (pt1 _ _ _)) la.evs))) ?_
    refine rn ?_;refine q8 (fun hg16_7=> ?_) (fun hg16_7=> ?_)
    ·refine rn ?_;refine qv rfl rfl (y5 rfl rfl (y3.of_fun (yku h.ords (.fn (.func 139) [] [pZ b1,pZ b9]) (zuz h) (.box b9 207 [.fn (.func 131) [] [pZ b1]]:: .box b1 28 (x4 h):: [.glob 3 148 y8,.glob 5 276 y9,.glob 6 279 y4]) rfl (fun e he=>y3.qt (y3.of_acall (fs:= []) (cs:= [pZ b1,pZ b9]) (yd2 h b1 b9 e (la.ordts e he))) (pt1 _ _ _)) la.ords))) ?_
     refine rn ?_;refine q8 (fun hg16_13=> ?_) (fun hg16_13=> ?_)
     ·refine rn ?_;refine qv rfl rfl (y5 rfl rfl (y3.of_fun (ykv h.mats (.fn (.func 141) [] [pZ b1,pZ b9]) (yak h) (.box b9 207 [.fn (.func 131) [] [pZ b1]]:: .box b1 28 (x4 h):: [.glob 3 148 y8,.glob 5 276 y9,.glob 6 279 y4]) rfl (fun e he=>y3.qt (y3.of_acall (fs:= []) (cs:= [pZ b1,pZ b9]) (yd1 h b1 b9 e (la.matts e he))) (pt1 _ _ _)) la.mats))) ?_
      refine rn ?_;refine q8 (fun hg16_19=> ?_) (fun hg16_19=> ?_)
      ·refine rn ?_;refine qv rfl rfl (y5 rfl rfl (y3.of_fun (ykt h.wants (.fn (.func 143) [] [pZ b1]) (zva h) (.box b9 207 [.fn (.func 131) [] [pZ b1]]:: .box b1 28 (x4 h):: [.glob 3 148 y8,.glob 5 276 y9,.glob 6 279 y4]) rfl (fun e he=>y3.qt (y3.of_acall (fs:= []) (cs:= [pZ b1]) (yd0 h b1 e)) (pt1 _ _ _)) la.wants))) ?_
       refine rn ?_;refine ⟨fun l h=>(by cases h),?_⟩
       exact k7 rfl (.drop [_,_] _ _) ⟨rfl,bvz7_3405⟩
      ·refine rn ?_;refine ⟨fun l h=>(by cases h),?_⟩
       exact k7 rfl (.drop [_,_] _ _) ⟨rfl,bvz7_3405⟩
     ·refine rn ?_;refine ⟨fun l h=>(by cases h),?_⟩
      exact k7 rfl (.drop [_,_] _ _) ⟨rfl,bvz7_3405⟩
    ·refine rn ?_;refine ⟨fun l h=>(by cases h),?_⟩
     exact k7 rfl (.drop [_,_] _ _) ⟨rfl,bvz7_3405⟩
   ·refine rn ?_;refine ⟨fun l h=>(by cases h),?_⟩
    exact k7 rfl (.drop [_,_] _ _) ⟨rfl,bvz7_3405⟩
theorem ztv {σ:Type} (step:σ→Nat×Int→Option σ) (ok:Nat×Int→Prop) (IJ:Option σ→List Res→Prop) (y:AV) (hy:∀(s:σ) (L:List Res) (sort:Nat) (n:Int) (cells:List AV),ok (sort,n)→IJ (some s) L→y3 Tryz.prog y [iv sort,.pp (iv n::cells)] L (fun r h'=>r=bv (step s (sort,n)).isSome∧IJ (step s (sort,n)) h')) (sort:Nat) (n:Int) (hs:ok (sort,n)) (cells:List AV) (bm by_:Nat) (st:Option σ) (L:List Res) (hI:IJ st L):x3 Tryz.prog 145 [iv sort,.pp (iv n::cells),pZ bm,pZ by_] (.box bm 4 [bv (st).isSome]:: .box by_ 215 [y]::L) (fun r h'=>∃L',IJ (goes step st [(sort,n)]) L'∧h'= .box bm 4 [bv (goes step st [(sort,n)]).isSome]:: .box by_ 215 [y]::L'):=by
 refine z6 Tryz.func145 rfl rfl rfl ?_
 refine rn ?_;refine q8 (fun hg0_1=> ?_) (fun hg0_1=> ?_)
 ·refine rn ?_;obtain ⟨s,rfl⟩:=Option.isSome_iff_exists.1 hg0_1
  refine z7 rfl (w7 rfl rfl (y3.fr2 (hy s L sort n cells hs hI)) rfl ?_)
  rintro _ _ ⟨L2,rfl,rfl,hI2⟩
  refine rn ?_;first
   |exact zdy .nil (.refl _ _) ⟨L2,hI2,rfl⟩
   |(obtain rfl:=Option.not_isSome_iff_eq_none.1 (show ¬st.isSome=true by simp [hg0_1])
     exact zdy .nil (.refl _ _) ⟨L,hI,rfl⟩)
 ·refine rn ?_;first
   |exact zdy .nil (.refl _ _) ⟨L2,hI2,rfl⟩
   |(obtain rfl:=Option.not_isSome_iff_eq_none.1 (show ¬st.isSome=true by simp [hg0_1])
     exact zdy .nil (.refl _ _) ⟨L,hI,rfl⟩)
theorem ye5 {σ:Type} (step:σ→Nat×Int→Option σ) (ok:Nat×Int→Prop) (IJ:Option σ→List Res→Prop) (y:AV) (hy:∀(s:σ) (L:List Res) (sort:Nat) (n:Int) (cells:List AV),ok (sort,n)→IJ (some s) L→y3 Tryz.prog y [iv sort,.pp (iv n::cells)] L (fun r h'=>r=bv (step s (sort,n)).isSome∧IJ (step s (sort,n)) h')) (v:Ver) (hv:∀x∈ze5 v,ok x) (cells:List AV) (bs bm by_:Nat) (st:Option σ) (L:List Res) (hI:IJ st L):x3 Tryz.prog 146 [.pp (iv v.t::iv v.k::cells),pZ bs] (.box bs 216 [.fn (.func 145) [] [pZ bm,pZ by_]]:: .box bm 4 [bv (st).isSome]:: .box by_ 215 [y]::L) (fun r h'=>∃L',IJ (goes step st (ze5 v)) L'∧h'= .box bs 216 [.fn (.func 145) [] [pZ bm,pZ by_]]:: .box bm 4 [bv (goes step st (ze5 v)).isSome]:: .box by_ 215 [y]::L'):=by
 refine z6 Tryz.func146 rfl rfl rfl ?_
 refine rn ?_;refine z8 rfl (fun hc7=> ?_) (fun hc7=> ?_)
 ·refine j6 4 rfl ?_
  refine rn ?_;refine z7 rfl (w7 rfl rfl (y3.fr1 (y3.of_acall (fs:= []) (cs:= [pZ bm,pZ by_]) (ztv step ok IJ y hy 0 v.t (hv _ (by rw [ze5,if_pos hc7];simp)) (iv v.k::cells) bm by_ _ _ hI))) rfl ?_)
  rintro _ _ ⟨_,rfl,L2,hI2,rfl⟩
  refine rn ?_;first
   |(have hm:ze5 v= [(0,v.t)]:=by rw [ze5,if_pos hc7]
     rw [hm];exact zdy .nil (.refl _ _) ⟨L2,hI2,rfl⟩)
   |(have hm:ze5 v= []:=by rw [ze5,if_neg (by rw [hc7];decide)]
     rw [hm];exact zdy .nil (.refl _ _) ⟨L,hI,rfl⟩)
 ·refine rn ?_;first
   |(have hm:ze5 v= [(0,v.t)]:=by rw [ze5,if_pos hc7]
     rw [hm];exact zdy .nil (.refl _ _) ⟨L2,hI2,rfl⟩)
   |(have hm:ze5 v= []:=by rw [ze5,if_neg (by rw [hc7];decide)]
     rw [hm];exact zdy .nil (.refl _ _) ⟨L,hI,rfl⟩)
theorem ydv {σ:Type} (step:σ→Nat×Int→Option σ) (ok:Nat×Int→Prop) (IJ:Option σ→List Res→Prop) (y:AV) (hone:y.cellsOf=some [y]) (hy:∀(s:σ) (L:List Res) (sort:Nat) (n:Int) (cells:List AV),ok (sort,n)→IJ (some s) L→y3 Tryz.prog y [iv sort,.pp (iv n::cells)] L (fun r h'=>r=bv (step s (sort,n)).isSome∧IJ (step s (sort,n)) h')) (h:Hist) (la:Lim 4611686018427387904 h) (b1 bh:Nat) (hok:∀x∈zb7 h,ok x) (s0:σ) (L0:List Res) (h0:IJ (some s0) L0):x3 Tryz.prog 144 [y,pZ b1] (.box b1 168 [pZ bh]:: .box bh 28 (x4 h)::L0) (fun r h'=>∃L',IJ (goes step (some s0) (zb7 h)) L'∧h'= .box b1 168 [pZ bh]:: .box bh 28 (x4 h)::L'):=by
 refine z6 Tryz.func144 rfl rfl rfl ?_
 refine rn ?_;refine z7 rfl (w6 rfl hone rfl fun by_=> ?_)
 refine rn ?_;refine z7 rfl (x6 rfl fun bm=> ?_)
 refine rn ?_;refine z7 rfl (x6 rfl fun bs=> ?_)
 refine rn ?_;refine u7 (fun x:Nat×Option σ×List Res=>x.1≤h.evs.length∧IJ x.2.1 x.2.2∧Rem step ok x.2.1 (((h.evs.drop x.1).flatMap evL)++(h.ords.flatMap zz9++(h.mats.flatMap zwo++h.wants.flatMap zpw))) (goes step (some s0) (zb7 h))) (fun x=>⟨[(22,iv x.1),(21,iv (h.evs.map evR).length),(1,pZ b1),(4,pZ bs),(5,.fn (.func 146) [] [pZ bs])],.box b1 168 [pZ bh]:: .box bh 28 (x4 h):: .box bs 216 [.fn (.func 145) [] [pZ bm,pZ by_]]:: .box bm 4 [bv (x.2.1).isSome]:: .box by_ 215 [y]::x.2.2,[]⟩) (fun x=>h.evs.length - x.1) (0,some s0,L0) ⟨by omega,h0,rfl,hok⟩
  (w9 (zai ((pt3 _ _ _ _ _).trans (.cons _ (pt3 _ _ _ _ _)))) (x8 (.cons _ _ _ rfl (.cons _ _ _ rfl (.cons _ _ _ rfl (.cons _ _ _ rfl (.cons _ _ _ rfl (.nil)))))))) ?_
 rintro ⟨k,st,L⟩ ⟨hk,hI,hF⟩
 simp only at hk hI hF
 refine rn ?_;refine z8 rfl (fun hc23=> ?_) (fun hc23=> ?_)
 ·have k2:k < h.evs.length:=by simpa using hc23
  obtain ⟨e,he⟩:∃e,e=h.evs[k]:=⟨_,rfl⟩
  have hrowe:(h.evs.map evR)[k]? =some (evR e):=by rw [he];simp [k2]
  have hde:=List.drop_eq_getElem_cons k2
  rw [hde,←he] at hF
  simp only [List.flatMap_cons,evL,List.cons_append,List.append_assoc] at hF
  obtain ⟨hx,hF⟩:=hF.cons
  obtain ⟨hkx,hF⟩:=hF.app
  have hle:=la.evs
  have hls:=la.scans e (by rw [he];simp)
  refine rn ?_;refine j6 4 rfl ?_
  refine rn ?_;refine z7 rfl (w7 rfl rfl (y3.fr3 (y3.of_acall (fs:= []) (cs:= [pZ bm,pZ by_]) (ztv step ok IJ y hy 0 e.t hx _ bm by_ _ _ hI))) rfl ?_)
  rintro _ _ ⟨_,rfl,L,hI,rfl⟩
  refine rn0 ?_;refine zic (fun L=>IJ (goes step (goes step st [(0,e.t)]) (zfh e)) L) (fun L=>⟨[(7,.pp (evR e)),(22,iv k),(21,iv (h.evs.map evR).length),(1,pZ b1),(4,pZ bs),(5,.fn (.func 146) [] [pZ bs])],.box b1 168 [pZ bh]:: .box bh 28 (x4 h):: .box bs 216 [.fn (.func 145) [] [pZ bm,pZ by_]]:: .box bm 4 [bv (goes step (goes step st [(0,e.t)]) (zfh e)).isSome]:: .box by_ 215 [y]::L,[]⟩) ?_ ?_
  ·refine rn ?_;refine z8 rfl (fun hc40=> ?_) (fun hc40=> ?_)
   ·have hkl:=zqz (e:=e) (by simpa using hc40)
    refine j6 4 rfl ?_
    refine rn ?_;refine z7 rfl (w7 rfl rfl (y3.fr3 (y3.of_acall (fs:= []) (cs:= [pZ bm,pZ by_]) (ztv step ok IJ y hy 1 e.s (hkx _ (by rw [hkl];simp)) _ bm by_ _ _ hI))) rfl ?_)
    rintro _ _ ⟨_,rfl,L,hI,rfl⟩
    refine rn ?_;refine ⟨L,?_,?_⟩
    ·show IJ (goes step _ (zfh e)) L
     rw [hkl];exact hI
    ·rw [hkl];exact (x8 (.cons _ _ _ rfl (.cons _ _ _ rfl (.cons _ _ _ rfl (.cons _ _ _ rfl (.cons _ _ _ rfl (.cons _ _ _ rfl (.nil))))))))
   ·have hn1:e.kind≠1:=by simpa using hc40
    refine rn ?_;refine z8 rfl (fun hc47=> ?_) (fun hc47=> ?_)
    ·have hk23:e.kind=2∨e.kind=3:=by simp at hc47;omega
     have hkl:=zkc hk23
     refine rn ?_;refine z8 rfl (fun hc47=> ?_) (fun hc47=> ?_)
     ·have hk23:e.kind=2∨e.kind=3:=by simp at hc47;omega
      have hkl:=zkc hk23
      refine rn ?_;refine j6 4 rfl ?_
      refine rn ?_;refine z7 rfl (w7 rfl rfl (y3.fr3 (y3.of_acall (fs:= []) (cs:= [pZ bm,pZ by_]) (ztv step ok IJ y hy 2 e.o (hkx _ (by rw [hkl];simp)) _ bm by_ _ _ hI))) rfl ?_)
      rintro _ _ ⟨_,rfl,L,hI,rfl⟩
      refine rn ?_;refine z7 rfl (w7 rfl rfl (y3.fr2 (y3.of_acall (fs:= []) (cs:= [pZ bs]) (ye5 step ok IJ y hy e.v (fun x hx=>hkx x (by rw [hkl];simp [hx])) _ bs bm by_ _ _ hI))) rfl ?_)
      rintro _ _ ⟨_,rfl,L,hI,rfl⟩
      refine rn ?_;refine ⟨L,?_,?_⟩
      ·show IJ (goes step _ (zfh e)) L
       rw [hkl];exact hI
      ·rw [hkl];exact (x8 (.cons _ _ _ rfl (.cons _ _ _ rfl (.cons _ _ _ rfl (.cons _ _ _ rfl (.cons _ _ _ rfl (.cons _ _ _ rfl (.nil))))))))
     ·first|cases hc47|exact absurd hc47 (by decide)|(exfalso;simp_all;done)
    ·have hn23:=hc47
     simp at hn23
     refine rn ?_;refine z8 rfl (fun hc47=> ?_) (fun hc47=> ?_)
     ·have hk23:e.kind=2∨e.kind=3:=by simp at hc47;omega
      have hkl:=zkc hk23
      refine rn ?_;refine j6 4 rfl ?_
      refine rn ?_;refine z7 rfl (w7 rfl rfl (y3.fr3 (y3.of_acall (fs:= []) (cs:= [pZ bm,pZ by_]) (ztv step ok IJ y hy 2 e.o (hkx _ (by rw [hkl];simp)) _ bm by_ _ _ hI))) rfl ?_)
      rintro _ _ ⟨_,rfl,L,hI,rfl⟩
      refine rn ?_;refine z7 rfl (w7 rfl rfl (y3.fr2 (y3.of_acall (fs:= []) (cs:= [pZ bs]) (ye5 step ok IJ y hy e.v (fun x hx=>hkx x (by rw [hkl];simp [hx])) _ bs bm by_ _ _ hI))) rfl ?_)
      rintro _ _ ⟨_,rfl,L,hI,rfl⟩
      refine rn ?_;refine ⟨L,?_,?_⟩
      ·show IJ (goes step _ (zfh e)) L
       rw [hkl];exact hI
      ·rw [hkl];exact (x8 (.cons _ _ _ rfl (.cons _ _ _ rfl (.cons _ _ _ rfl (.cons _ _ _ rfl (.cons _ _ _ rfl (.cons _ _ _ rfl (.nil))))))))
     ·have hn23:=hc47
      simp at hn23
      refine rn ?_;refine z8 rfl (fun hc60=> ?_) (fun hc60=> ?_)
      ·have hkl:=zw0 (e:=e) (by simpa using hc60)
       refine j6 4 rfl ?_
       refine rn ?_;refine z7 rfl (w7 rfl rfl (y3.fr3 (y3.of_acall (fs:= []) (cs:= [pZ bm,pZ by_]) (ztv step ok IJ y hy 3 e.p (hkx _ (by rw [hkl];simp)) _ bm by_ _ _ hI))) rfl ?_)
       rintro _ _ ⟨_,rfl,L,hI,rfl⟩
       refine rn ?_;refine ⟨L,?_,?_⟩
       ·show IJ (goes step _ (zfh e)) L
        rw [hkl];exact hI
       ·rw [hkl];exact (x8 (.cons _ _ _ rfl (.cons _ _ _ rfl (.cons _ _ _ rfl (.cons _ _ _ rfl (.cons _ _ _ rfl (.cons _ _ _ rfl (.nil))))))))
      ·have hn4:e.kind≠4:=by simpa using hc60
       have hkl:=zw1 (e:=e) hn1 (by omega) (by omega) hn4
       refine rn ?_;refine ⟨L,?_,?_⟩
       ·show IJ (goes step _ (zfh e)) L
        rw [hkl];exact hI
       ·rw [hkl];exact (x8 (.cons _ _ _ rfl (.cons _ _ _ rfl (.cons _ _ _ rfl (.cons _ _ _ rfl (.cons _ _ _ rfl (.cons _ _ _ rfl (.nil))))))))
  ·rintro L hI
   revert hI hF
   generalize goes step (goes step st [(0,e.t)]) (zfh e)=st2
   intro hF hI
   refine rn ?_;refine u7 (fun x:Nat×Option σ×List Res=>x.1≤e.scan.length∧IJ x.2.1 x.2.2∧Rem step ok x.2.1 (((e.scan.drop x.1).flatMap ztu)++(((h.evs.drop (k+1)).flatMap evL)++(h.ords.flatMap zz9++(h.mats.flatMap zwo++h.wants.flatMap zpw)))) (goes step (some s0) (zb7 h))) (fun x=>⟨[(72,iv x.1),(71,iv (e.scan.map zav).length),(7,.pp (evR e)),(22,iv k),(21,iv (h.evs.map evR).length),(1,pZ b1),(4,pZ bs),(5,.fn (.func 146) [] [pZ bs])],.box b1 168 [pZ bh]:: .box bh 28 (x4 h):: .box bs 216 [.fn (.func 145) [] [pZ bm,pZ by_]]:: .box bm 4 [bv (x.2.1).isSome]:: .box by_ 215 [y]::x.2.2,[]⟩) (fun x=>e.scan.length - x.1) (0,st2,L) ⟨by omega,hI,hF⟩
    (x8 (.cons _ _ _ rfl (.cons _ _ _ rfl (.cons _ _ _ rfl (.cons _ _ _ rfl (.cons _ _ _ rfl (.cons _ _ _ rfl (.cons _ _ _ rfl (.cons _ _ _ rfl (.nil)))))))))) ?_
   rintro ⟨j,st,L⟩ ⟨hj,hI,hF⟩
   simp only at hj hI hF
   refine rn ?_;refine z8 rfl (fun hc73=> ?_) (fun hc73=> ?_)
   ·have j2:j < e.scan.length:=by simpa using hc73
    obtain ⟨x,hx⟩:∃x,x=e.scan[j]:=⟨_,rfl⟩
    have hrowx:(e.scan.map zav)[j]? =some (zav x):=by rw [hx];simp [j2]
    have hdx:=List.drop_eq_getElem_cons j2
    rw [hdx,←hx] at hF
    simp only [List.flatMap_cons,ztu,List.cons_append,List.append_assoc] at hF
    obtain ⟨hx,hF⟩:=hF.cons
    obtain ⟨hkx,hF⟩:=hF.app
    refine rn ?_;refine j6 8 rfl ?_
    refine rn ?_;refine z7 rfl (w7 rfl rfl (y3.fr3 (y3.of_acall (fs:= []) (cs:= [pZ bm,pZ by_]) (ztv step ok IJ y hy 2 x.o hx _ bm by_ _ _ hI))) rfl ?_)
    rintro _ _ ⟨_,rfl,L,hI,rfl⟩
    refine rn ?_;refine z7 rfl (w7 rfl rfl (y3.fr2 (y3.of_acall (fs:= []) (cs:= [pZ bs]) (ye5 step ok IJ y hy x.v hkx _ bs bm by_ _ _ hI))) rfl ?_)
    rintro _ _ ⟨_,rfl,L,hI,rfl⟩
    refine rn ?_;exact ⟨(j+1,_,L),⟨by omega,hI,hF⟩,(x8 (.cons _ _ _ rfl (.cons _ _ _ rfl (.cons _ _ _ rfl (.cons _ _ _ rfl (.cons _ _ _ rfl (.cons _ _ _ rfl (.cons _ _ _ rfl (.cons _ _ _ rfl (.nil)))))))))),by simp only;omega⟩
   ·obtain rfl:j=e.scan.length:=by
     have:e.scan.length≤j:=by simpa using hc73
     omega
    rw [List.drop_length,List.flatMap_nil,List.nil_append] at hF
    refine rn ?_;exact ⟨(k+1,_,L),⟨by omega,hI,hF⟩,(x8 (.cons _ _ _ rfl (.cons _ _ _ rfl (.cons _ _ _ rfl (.cons _ _ _ rfl (.cons _ _ _ rfl (.nil))))))),by simp only;omega⟩
 ·obtain rfl:k=h.evs.length:=by
   have:h.evs.length≤k:=by simpa using hc23
   omega
  rw [List.drop_length,List.flatMap_nil,List.nil_append] at hF
  refine rn ?_;refine u7 (fun x:Nat×Option σ×List Res=>x.1≤h.ords.length∧IJ x.2.1 x.2.2∧Rem step ok x.2.1 (((h.ords.drop x.1).flatMap zz9)++(h.mats.flatMap zwo++h.wants.flatMap zpw)) (goes step (some s0) (zb7 h))) (fun x=>⟨[(100,iv x.1),(99,iv (h.ords.map zc4).length),(1,pZ b1),(4,pZ bs),(5,.fn (.func 146) [] [pZ bs])],.box b1 168 [pZ bh]:: .box bh 28 (x4 h):: .box bs 216 [.fn (.func 145) [] [pZ bm,pZ by_]]:: .box bm 4 [bv (x.2.1).isSome]:: .box by_ 215 [y]::x.2.2,[]⟩) (fun x=>h.ords.length - x.1) (0,st,L) ⟨by omega,hI,hF⟩
   (x8 (.cons _ _ _ rfl (.cons _ _ _ rfl (.cons _ _ _ rfl (.cons _ _ _ rfl (.cons _ _ _ rfl (.nil))))))) ?_
  rintro ⟨k,st,L⟩ ⟨hk,hI,hF⟩
  simp only at hk hI hF
  refine rn ?_;refine z8 rfl (fun hc101=> ?_) (fun hc101=> ?_)
  ·have k2:k < h.ords.length:=by simpa using hc101
   obtain ⟨r,hr⟩:∃r,r=h.ords[k]:=⟨_,rfl⟩
   have hrowr:(h.ords.map zc4)[k]? =some (zc4 r):=by rw [hr];simp [k2]
   have hdr:=List.drop_eq_getElem_cons k2
   rw [hdr,←hr] at hF
   simp only [List.flatMap_cons,zz9,List.cons_append,List.append_assoc] at hF
   obtain ⟨hx,hF⟩:=hF.cons
   have hle:=la.ords
   have hls:=la.ordts r (by rw [hr];simp)
   refine rn ?_;refine j6 8 rfl ?_
   refine rn ?_;refine z7 rfl (w7 rfl rfl (y3.fr3 (y3.of_acall (fs:= []) (cs:= [pZ bm,pZ by_]) (ztv step ok IJ y hy 2 r.o hx _ bm by_ _ _ hI))) rfl ?_)
   rintro _ _ ⟨_,rfl,L,hI,rfl⟩
   refine rn ?_;refine u7 (fun x:Nat×Option σ×List Res=>x.1≤r.ts.length∧IJ x.2.1 x.2.2∧Rem step ok x.2.1 (((r.ts.drop x.1).map fun t=>((0:Nat),t))++(((h.ords.drop (k+1)).flatMap zz9)++(h.mats.flatMap zwo++h.wants.flatMap zpw))) (goes step (some s0) (zb7 h))) (fun x=>⟨[(121,iv x.1),(120,iv (r.ts.map za5).length),(9,iv k),(100,iv k),(99,iv (h.ords.map zc4).length),(1,pZ b1),(4,pZ bs),(5,.fn (.func 146) [] [pZ bs])],.box b1 168 [pZ bh]:: .box bh 28 (x4 h):: .box bs 216 [.fn (.func 145) [] [pZ bm,pZ by_]]:: .box bm 4 [bv (x.2.1).isSome]:: .box by_ 215 [y]::x.2.2,[]⟩) (fun x=>r.ts.length - x.1) (0,_,L) ⟨by omega,hI,hF⟩
    (x8 (.cons _ _ _ rfl (.cons _ _ _ rfl (.cons _ _ _ rfl (.cons _ _ _ rfl (.cons _ _ _ rfl (.cons _ _ _ rfl (.cons _ _ _ rfl (.cons _ _ _ rfl (.nil)))))))))) ?_
   rintro ⟨j,st,L⟩ ⟨hj,hI,hF⟩
   simp only at hj hI hF
   refine rn ?_;refine z8 rfl (fun hc122=> ?_) (fun hc122=> ?_)
   ·have j2:j < r.ts.length:=by simpa using hc122
    obtain ⟨t,ht⟩:∃t,t=r.ts[j]:=⟨_,rfl⟩
    have hrowt:(r.ts.map za5)[j]? =some (za5 t):=by rw [ht];simp [j2]
    have hdt:=List.drop_eq_getElem_cons j2
    rw [hdt,←ht] at hF
    simp only [List.map_cons,List.cons_append] at hF
    obtain ⟨hx,hF⟩:=hF.cons
    refine rn ?_;refine j6 11 rfl ?_
    refine rn ?_;refine z7 rfl (w7 rfl rfl (y3.fr3 (y3.of_acall (fs:= []) (cs:= [pZ bm,pZ by_]) (ztv step ok IJ y hy 0 t hx _ bm by_ _ _ hI))) rfl ?_)
    rintro _ _ ⟨_,rfl,L,hI,rfl⟩
    refine rn ?_;exact ⟨(j+1,_,L),⟨by omega,hI,hF⟩,(x8 (.cons _ _ _ rfl (.cons _ _ _ rfl (.cons _ _ _ rfl (.cons _ _ _ rfl (.cons _ _ _ rfl (.cons _ _ _ rfl (.cons _ _ _ rfl (.cons _ _ _ rfl (.nil)))))))))),by simp only;omega⟩
   ·obtain rfl:j=r.ts.length:=by
     have:r.ts.length≤j:=by simpa using hc122
     omega
    rw [List.drop_length,List.map_nil,List.nil_append] at hF
    refine rn ?_;exact ⟨(k+1,_,L),⟨by omega,hI,hF⟩,(x8 (.cons _ _ _ rfl (.cons _ _ _ rfl (.cons _ _ _ rfl (.cons _ _ _ rfl (.cons _ _ _ rfl (.nil))))))),by simp only;omega⟩
  ·obtain rfl:k=h.ords.length:=by
    have:h.ords.length≤k:=by simpa using hc101
    omega
   rw [List.drop_length,List.flatMap_nil,List.nil_append] at hF
   refine rn ?_;refine u7 (fun x:Nat×Option σ×List Res=>x.1≤h.mats.length∧IJ x.2.1 x.2.2∧Rem step ok x.2.1 (((h.mats.drop x.1).flatMap zwo)++h.wants.flatMap zpw) (goes step (some s0) (zb7 h))) (fun x=>⟨[(143,iv x.1),(142,iv (h.mats.map zc9).length),(1,pZ b1),(4,pZ bs),(5,.fn (.func 146) [] [pZ bs])],.box b1 168 [pZ bh]:: .box bh 28 (x4 h):: .box bs 216 [.fn (.func 145) [] [pZ bm,pZ by_]]:: .box bm 4 [bv (x.2.1).isSome]:: .box by_ 215 [y]::x.2.2,[]⟩) (fun x=>h.mats.length - x.1) (0,st,L) ⟨by omega,hI,hF⟩
    (x8 (.cons _ _ _ rfl (.cons _ _ _ rfl (.cons _ _ _ rfl (.cons _ _ _ rfl (.cons _ _ _ rfl (.nil))))))) ?_
   rintro ⟨k,st,L⟩ ⟨hk,hI,hF⟩
   simp only at hk hI hF
   refine rn ?_;refine z8 rfl (fun hc144=> ?_) (fun hc144=> ?_)
   ·have k2:k < h.mats.length:=by simpa using hc144
    obtain ⟨r,hr⟩:∃r,r=h.mats[k]:=⟨_,rfl⟩
    have hrowr:(h.mats.map zc9)[k]? =some (zc9 r):=by rw [hr];simp [k2]
    have hdr:=List.drop_eq_getElem_cons k2
    rw [hdr,←hr] at hF
    simp only [List.flatMap_cons,zwo,List.cons_append,List.append_assoc] at hF
    obtain ⟨hx,hF⟩:=hF.cons
    obtain ⟨hx2,hF⟩:=hF.cons
    have hle:=la.mats
    have hls:=la.matts r (by rw [hr];simp)
    refine rn ?_;refine j6 4 rfl ?_
    refine rn ?_;refine z7 rfl (w7 rfl rfl (y3.fr3 (y3.of_acall (fs:= []) (cs:= [pZ bm,pZ by_]) (ztv step ok IJ y hy 3 r.p hx _ bm by_ _ _ hI))) rfl ?_)
    rintro _ _ ⟨_,rfl,L,hI,rfl⟩
    refine rn ?_;refine j6 4 rfl ?_
    refine rn ?_;refine z7 rfl (w7 rfl rfl (y3.fr3 (y3.of_acall (fs:= []) (cs:= [pZ bm,pZ by_]) (ztv step ok IJ y hy 2 r.o hx2 _ bm by_ _ _ hI))) rfl ?_)
    rintro _ _ ⟨_,rfl,L,hI,rfl⟩
    refine rn ?_;refine u7 (fun x:Nat×Option σ×List Res=>x.1≤r.ts.length∧IJ x.2.1 x.2.2∧Rem step ok x.2.1 (((r.ts.drop x.1).map fun t=>((0:Nat),t))++(((h.mats.drop (k+1)).flatMap zwo)++h.wants.flatMap zpw)) (goes step (some s0) (zb7 h))) (fun x=>⟨[(167,iv x.1),(166,iv (r.ts.map za5).length),(12,.pp (zc9 r)),(143,iv k),(142,iv (h.mats.map zc9).length),(1,pZ b1),(4,pZ bs),(5,.fn (.func 146) [] [pZ bs])],.box b1 168 [pZ bh]:: .box bh 28 (x4 h):: .box bs 216 [.fn (.func 145) [] [pZ bm,pZ by_]]:: .box bm 4 [bv (x.2.1).isSome]:: .box by_ 215 [y]::x.2.2,[]⟩) (fun x=>r.ts.length - x.1) (0,_,L) ⟨by omega,hI,hF⟩
     (x8 (.cons _ _ _ rfl (.cons _ _ _ rfl (.cons _ _ _ rfl (.cons _ _ _ rfl (.cons _ _ _ rfl (.cons _ _ _ rfl (.cons _ _ _ rfl (.cons _ _ _ rfl (.nil)))))))))) ?_
    rintro ⟨j,st,L⟩ ⟨hj,hI,hF⟩
    simp only at hj hI hF
    refine rn ?_;refine z8 rfl (fun hc168=> ?_) (fun hc168=> ?_)
    ·have j2:j < r.ts.length:=by simpa using hc168
     obtain ⟨t,ht⟩:∃t,t=r.ts[j]:=⟨_,rfl⟩
     have hrowt:(r.ts.map za5)[j]? =some (za5 t):=by rw [ht];simp [j2]
     have hdt:=List.drop_eq_getElem_cons j2
     rw [hdt,←ht] at hF
     simp only [List.map_cons,List.cons_append] at hF
     obtain ⟨hx,hF⟩:=hF.cons
     refine rn ?_;refine j6 7 rfl ?_
     refine rn ?_;refine z7 rfl (w7 rfl rfl (y3.fr3 (y3.of_acall (fs:= []) (cs:= [pZ bm,pZ by_]) (ztv step ok IJ y hy 0 t hx _ bm by_ _ _ hI))) rfl ?_)
     rintro _ _ ⟨_,rfl,L,hI,rfl⟩
     refine rn ?_;exact ⟨(j+1,_,L),⟨by omega,hI,hF⟩,(x8 (.cons _ _ _ rfl (.cons _ _ _ rfl (.cons _ _ _ rfl (.cons _ _ _ rfl (.cons _ _ _ rfl (.cons _ _ _ rfl (.cons _ _ _ rfl (.cons _ _ _ rfl (.nil)))))))))),by simp only;omega⟩
    ·obtain rfl:j=r.ts.length:=by
      have:r.ts.length≤j:=by simpa using hc168
      omega
     rw [List.drop_length,List.map_nil,List.nil_append] at hF
     refine rn ?_;exact ⟨(k+1,_,L),⟨by omega,hI,hF⟩,(x8 (.cons _ _ _ rfl (.cons _ _ _ rfl (.cons _ _ _ rfl (.cons _ _ _ rfl (.cons _ _ _ rfl (.nil))))))),by simp only;omega⟩
   ·obtain rfl:k=h.mats.length:=by
     have:h.mats.length≤k:=by simpa using hc144
     omega
    rw [List.drop_length,List.flatMap_nil,List.nil_append] at hF
    refine rn ?_;refine u7 (fun x:Nat×Option σ×List Res=>x.1≤h.wants.length∧IJ x.2.1 x.2.2∧Rem step ok x.2.1 (((h.wants.drop x.1).flatMap zpw)++ []) (goes step (some s0) (zb7 h))) (fun x=>⟨[(185,iv x.1),(184,iv (h.wants.map zcj).length),(1,pZ b1),(4,pZ bs),(5,.fn (.func 146) [] [pZ bs])],.box b1 168 [pZ bh]:: .box bh 28 (x4 h):: .box bs 216 [.fn (.func 145) [] [pZ bm,pZ by_]]:: .box bm 4 [bv (x.2.1).isSome]:: .box by_ 215 [y]::x.2.2,[]⟩) (fun x=>h.wants.length - x.1) (0,st,L) ⟨by omega,hI,by rw [List.append_nil];exact hF⟩
     (x8 (.cons _ _ _ rfl (.cons _ _ _ rfl (.cons _ _ _ rfl (.cons _ _ _ rfl (.cons _ _ _ rfl (.nil))))))) ?_
    rintro ⟨k,st,L⟩ ⟨hk,hI,hF⟩
    simp only at hk hI hF
    refine rn ?_;refine z8 rfl (fun hc186=> ?_) (fun hc186=> ?_)
    ·have k2:k < h.wants.length:=by simpa using hc186
     obtain ⟨r,hr⟩:∃r,r=h.wants[k]:=⟨_,rfl⟩
     have hrowr:(h.wants.map zcj)[k]? =some (zcj r):=by rw [hr];simp [k2]
     have hdr:=List.drop_eq_getElem_cons k2
     rw [hdr,←hr] at hF
     simp only [List.flatMap_cons,zpw,List.cons_append,List.append_assoc,List.nil_append] at hF
     obtain ⟨hx,hF⟩:=hF.cons
     have hle:=la.wants
     refine rn ?_;refine j6 8 rfl ?_
     refine rn ?_;refine z7 rfl (w7 rfl rfl (y3.fr3 (y3.of_acall (fs:= []) (cs:= [pZ bm,pZ by_]) (ztv step ok IJ y hy 1 r.s hx _ bm by_ _ _ hI))) rfl ?_)
     rintro _ _ ⟨_,rfl,L,hI,rfl⟩
     refine rn ?_;exact ⟨(k+1,_,L),⟨by omega,hI,hF⟩,(x8 (.cons _ _ _ rfl (.cons _ _ _ rfl (.cons _ _ _ rfl (.cons _ _ _ rfl (.cons _ _ _ rfl (.nil))))))),by simp only;omega⟩
    ·obtain rfl:k=h.wants.length:=by
      have:h.wants.length≤k:=by simpa using hc186
      omega
     rw [List.drop_length,List.flatMap_nil,List.nil_append] at hF
     refine rn ?_;have hF':st=goes step (some s0) (zb7 h):=hF.fin
     exact zdy .nil (.trans (.perm ((pt2 _ _ _ _).trans (.cons _ ((pt2 _ _ _ _).trans (.cons _ (pt2 _ _ _ _))))) _) (.drop [_,_,_] _ _)) ⟨L,hF' ▸ hI,rfl⟩
theorem yhm (bh:Nat) (h:List Res):x3 Tryz.prog 104 [pZ bh] h (fun r h'=>∃b1,h'= .box b1 168 [pZ bh]::h∧r= .fn (.func 144) [] [pZ b1]):=by
 refine z6 Tryz.func104 rfl rfl rfl ?_
 refine rn ?_;refine z7 rfl (w6 rfl rfl rfl fun b1=> ?_)
 refine rn ?_;exact k7 rfl (.refl _ _) ⟨_,rfl,rfl⟩
def IJC (lp:LP) (q b2 b3:Nat):Option (List Int)→List Res→Prop
 |some m,L=>L=lp .ready none:: .defs q:: .box b3 148 ((m).map iv):: .box b2 32 [iv 0]:: [.glob 3 148 y8,.glob 5 276 y9,.glob 6 279 y4]∧m.length=4
 |none,L=>∃m:List Int,L=lp .done (some .ret):: .defs q:: .box b3 148 ((m).map iv):: .box b2 32 [iv 210]:: [.glob 3 148 y8,.glob 5 276 y9,.glob 6 279 y4]
theorem yke (h:Hist) (la:Lim 4611686018427387904 h):x3 Tryz.prog 51 [.agg (x4 h)] [.glob 3 148 y8,.glob 5 276 y9,.glob 6 279 y4] (fun r h'=>h'= [.glob 3 148 y8,.glob 5 276 y9,.glob 6 279 y4]∧r=iv (zc1 h)):=by
 refine z6 Tryz.func51 rfl rfl rfl ?_
 refine rn ?_;refine z7 rfl (w6 rfl rfl rfl fun b1=> ?_)
 refine z7 rfl (x6 rfl fun b2=> ?_)
 refine rn ?_;refine qv rfl rfl (y5 rfl rfl (y3.qt (y3.of_fun (yhr h la)) ((pt2 _ _ _ _).trans (.cons _ ((pt2 _ _ _ _).trans (.cons _ (pt2 _ _ _ _))))))) ?_
 refine rn ?_;refine z8 rfl (fun hc10=> ?_) (fun hc10=> ?_)
 ·have hs:zap h=false:=zwe hc10
  refine rn ?_;exact zd7 (.cons _ _ _ _ (.one _ _ _ _ _ _ _ rfl inferInstance inferInstance rfl) .nil) (.drop [_,_] _ _) ⟨rfl,congrArg iv (ybl hs).symm⟩
 ·have hs:zap h=true:=zwf hc10
  refine rn ?_;refine z7 rfl (x6 rfl fun b3=> ?_)
  refine rn ?_;refine z7 rfl (w7 rfl rfl (y3.of_fun (yhm b1 _)) rfl ?_)
  rintro _ _ ⟨b1',rfl,rfl⟩
  refine rn ?_;refine zld (fun pend h''=>(pend=none∧∃m:List Int,zlc h=some m∧m.length=4∧h''= .box b1' 168 [pZ b1]:: .box b1 28 (x4 h):: .box b3 148 ((m).map iv):: .box b2 32 [iv 0]:: [.glob 3 148 y8,.glob 5 276 y9,.glob 6 279 y4])∨(pend=some .ret∧zlc h=none∧∃m:List Int,h''= .box b1' 168 [pZ b1]:: .box b1 28 (x4 h):: .box b3 148 ((m).map iv):: .box b2 32 [iv 210]:: [.glob 3 148 y8,.glob 5 276 y9,.glob 6 279 y4])) rfl (fun fn l q lp hlp=> ?_) (fun q h'' hK=> ?_) (fun q h'' c hK=> ?_)
  ·suffices hy:∀(s:List Int) (L:List Res) (sort:Nat) (n:Int) (cells:List AV),OkN h (sort,n)→IJC lp q b2 b3 (some s) L→y3 Tryz.prog (yv l) [iv sort,.pp (iv n::cells)] L (fun r h'=>r=bv (zam s (sort,n)).isSome∧IJC lp q b2 b3 (zam s (sort,n)) h') by
    refine x3.mono (x3.perm ((pt2 _ _ _ _).trans (.cons _ (pt4 _ _ _ _ _ _))) (ydv zam (OkN h) (IJC lp q b2 b3) (yv l) rfl hy h la b1' b1 (zvo hs) [0,0,0,0] _ ⟨rfl,rfl⟩)) ?_
    rintro _ _ ⟨L',hI,rfl⟩
    cases hm:goes zam (some [0,0,0,0]) (zb7 h) with
    |some m=>
     rw [hm] at hI
     obtain ⟨rfl,hl⟩:=hI
     exact ⟨_,_,_,((pt2 _ _ _ _).trans (.cons _ (pt2 _ _ _ _))),by simp,.inl ⟨rfl,m,hm,hl,rfl⟩⟩
    |none=>
     rw [hm] at hI
     obtain ⟨m,rfl⟩:=hI
     exact ⟨_,_,_,((pt2 _ _ _ _).trans (.cons _ (pt2 _ _ _ _))),by simp,.inr ⟨rfl,hm,m,rfl⟩⟩
   rintro m _ sort n cells ⟨hs4,hn0,hn1⟩ ⟨rfl,hl⟩
   simp only at hs4 hn0 hn1
   have hnm:=la.nm sort
   refine zs9 hlp rfl rfl ?_
   refine rn ?_;refine ⟨[(4,iv sort),(5,.pp (iv n::cells)),(3,pZ b3),(2,pZ b2)],(x8 (.cons _ _ _ rfl (.cons _ _ _ rfl (.cons _ _ _ rfl (.cons _ _ _ rfl (.nil)))))),?_⟩
   refine rn ?_;refine j6 6 rfl ?_
   refine dq rfl rfl qrA ?_;refine dq rfl rfl qrA ?_;refine dq rfl rfl qrA ?_;refine dq rfl rfl qrA ?_;refine dq rfl rfl (u6 rfl rfl hs4) ?_
   refine dq rfl rfl (j4 rfl (ymo hl hs4)) ?_
   refine rn ?_;refine z8 rfl (fun hc20=> ?_) (fun hc20=> ?_)
   ·refine rn ?_;have hst:zam m (sort,n)=none:=by rw [zam];exact if_pos (by simpa using hc20)
    exact zmn (.refl _) (by rw [hst];exact ⟨rfl,_,rfl⟩)
   ·refine rn ?_;refine j6 9 rfl ?_
    refine dq rfl rfl qrA ?_;refine dq rfl rfl qrA ?_;refine dq rfl rfl (u6 rfl rfl hs4) ?_
    refine dq rfl rfl (j4 rfl (ymo hl hs4)) ?_
    refine rn2 ?_;refine qq rfl rfl (u6 rfl rfl hs4) ?_
    refine z7 rfl (zbx rfl rfl rfl rfl (by simp [hl];omega) ?_)
    refine rn ?_;have hst:zam m (sort,n)=some (m.set sort (max (m.getD sort 0) (n+1))):=by rw [zam];exact if_neg (by simpa using hc20)
    exact zgw (.refl _) (by rw [hst];exact ⟨rfl,by rw [←ynt hl hs4];rfl,by simpa using hl⟩)
  ·obtain ⟨_,m,hm,hl,rfl⟩|⟨hc,_⟩:=hK
   rotate_left
   ·cases hc
   refine rn ?_;refine qv rfl rfl (y5 rfl rfl (zat (ye1 _) (Sbs.refl _))) ?_
   refine rn ?_;refine u7 (fun k:Nat=>k≤4∧∀j,j < k→m.getD j 0=(nmK h j).length) (fun k=>⟨[(33,iv k),(32,.agg (zij h)),(3,pZ b3),(2,pZ b2)],.defs q:: .box b1' 168 [pZ b1]:: .box b1 28 (x4 h):: .box b3 148 ((m).map iv):: .box b2 32 [iv 0]:: [.glob 3 148 y8,.glob 5 276 y9,.glob 6 279 y4],[q]⟩) (fun k=>4 - k) 0 ⟨by omega,fun j hj=>absurd hj (Nat.not_lt_zero j)⟩
    (x8 (.cons _ _ _ rfl (.cons _ _ _ rfl (.cons _ _ _ rfl (.cons _ _ _ rfl (.nil)))))) ?_
   rintro k ⟨hk,hz⟩
   refine rn ?_;refine z8 rfl (fun hc34=> ?_) (fun hc34=> ?_)
   ·have hk4:k < 4:=by simp at hc34;omega
    refine zaa ?_;refine j8 ?_;refine x9 ?_;refine zab ?_;refine x9 (y6 ?_)
    refine q1 ?_;refine qq rfl rfl (zch rfl rfl (by omega) (by have:=zwh h hk4;simpa using this)) ?_
    refine q1 ?_;refine q1 ?_;refine u3 (j8 ?_)
    refine x9 (y6 ?_)
    refine q1 ?_;refine qq rfl rfl (u6 rfl rfl hk4) ?_
    refine qq rfl rfl (j4 rfl (ymo hl hk4)) ?_
    refine rn ?_;refine z8 rfl (fun hc42=> ?_) (fun hc42=> ?_)
    ·refine rn ?_;exact zgk (.refl _) (.cons _ _ _ _ (.one _ _ _ _ _ _ _ rfl inferInstance inferInstance rfl) .nil) (.drop [_,_,_,_] _ _) ⟨rfl,congrArg iv (ybm hm hk4 (by simpa using hc42)).symm⟩
    ·refine rn ?_;exact ⟨k+1,⟨by omega,fun j hj=>by
      by_cases hjk:j=k
      ·subst hjk;simpa using hc42
      ·exact hz j (by omega)⟩,(x8 (.cons _ _ _ rfl (.cons _ _ _ rfl (.cons _ _ _ rfl (.cons _ _ _ rfl (.nil)))))),by omega⟩
   ·have hk4:k=4:=by simp at hc34;omega
    subst hk4
    refine rn ?_;exact zgk (.refl _) (.cons _ _ _ _ (.one _ _ _ _ _ _ _ rfl inferInstance inferInstance rfl) .nil) (.drop [_,_,_,_] _ _) ⟨rfl,congrArg iv (ybn hs hm hl hz).symm⟩
  ·obtain ⟨hc,_⟩|⟨hc,hm,m,rfl⟩:=hK
   ·cases hc
   obtain rfl:c= .ret:=by simpa using hc
   refine rn ?_;exact zgk (.refl _) (.cons _ _ _ _ (.one _ _ _ _ _ _ _ rfl inferInstance inferInstance rfl) .nil) (.drop [_,_,_,_] _ _) ⟨rfl,congrArg iv (zuu hm).symm⟩
attribute [local irreducible] zdi jch zd8
def v8:List AV:= [.any,.fn (.func 245) [] [],.fn (.func 249) [] [],.fn (.func 250) [] [],.fn (.func 251) [] [],.fn (.func 252) [] [],.fn (.func 253) [] [],.fn (.func 254) [] [],.fn (.func 255) [] [],.fn (.func 256) [] [],.fn (.func 257) [] []]
def ylh (k:Nat):AV:=v8.getD k .any
theorem ygi {k:Nat} (h2:k≤10):v8[k]? =some (ylh k):=by
 have:k < v8.length:=by show k < 11;omega
 rw [ylh,List.getD_eq_getElem?_getD,List.getElem?_eq_getElem this];rfl
theorem ybt (h:Hist) (la:Lim 3000 h) (b:Nat) (G:List Res) {k:Nat} (h1:1≤k) (h2:k≤10):y3 Tryz.prog (ylh k) [pZ b] (.box b 203 (zbd h)::G) (fun r h'=>h'=G∧r=zaq (zcd h k)):=by
 match k,h1,h2 with
 |1,_,_=>exact y3.of_acall (fs:= []) (cs:= []) (yii h la b G)
 |2,_,_=>exact y3.of_acall (fs:= []) (cs:= []) (yn0 h la b G)
 |3,_,_=>exact y3.of_acall (fs:= []) (cs:= []) (yih h la b G)
 |4,_,_=>exact y3.of_acall (fs:= []) (cs:= []) (zzv h la b G)
 |5,_,_=>exact y3.of_acall (fs:= []) (cs:= []) (ynw h la b G)
 |6,_,_=>exact y3.of_acall (fs:= []) (cs:= []) (ylz h la b G)
 |7,_,_=>exact y3.of_acall (fs:= []) (cs:= []) (yib h la b G)
 |8,_,_=>exact y3.of_acall (fs:= []) (cs:= []) (zzy h la b G)
 |9,_,_=>exact y3.of_acall (fs:= []) (cs:= []) (yie h la b G)
 |10,_,_=>exact y3.of_acall (fs:= []) (cs:= []) (ylx h la b G)
 |k+11,_,h2=>omega
theorem yev {o:Option Nat} {i:Int} {b:Bool} (h:zaq o= .tup [iv i,bv b]):i=yn2 o∧b=o.isSome:=by
 cases o with
 |none=>simp only [zaq,AV.tup.injEq,List.cons.injEq,AV.v.injEq,Value.int.injEq,Value.bool.injEq,true_and,and_true] at h;exact ⟨h.1.symm,h.2.symm⟩
 |some n=>simp only [zaq,AV.tup.injEq,List.cons.injEq,AV.v.injEq,Value.int.injEq,Value.bool.injEq,true_and,and_true] at h;exact ⟨h.1.symm,h.2.symm⟩
theorem zqs {h:Hist} (hm:zgd h=true):Lim 3000 h:=by
 unfold zgd at hm;simp only [Bool.and_eq_true] at hm;exact ztt hm.1
theorem yig (h:Hist) (la:Lim 4611686018427387904 h):x3 Tryz.prog 91 [.agg (x4 h)] [.glob 3 148 y8,.glob 5 276 y9,.glob 6 279 y4,.glob 2 197 v8] (fun r h'=>h'= [.glob 3 148 y8,.glob 5 276 y9,.glob 6 279 y4,.glob 2 197 v8]∧r=zgf h):=by
 refine z6 Tryz.func91 rfl rfl rfl ?_
 refine rn ?_;refine z7 rfl (w6 rfl rfl rfl fun b1=> ?_)
 refine z7 rfl (x6 rfl fun b2=> ?_)
 refine rn ?_;refine qv rfl rfl (y5 rfl rfl (y3.qt (y3.of_fun (yke h la)) ((pt2 _ _ _ _).trans (.cons _ ((pt2 _ _ _ _).trans (.cons _ (pt2 _ _ _ _))))))) ?_
 refine rn ?_;refine z8 rfl (fun hc12=> ?_) (fun hc12=> ?_)
 ·have hm:¬zgd h=true:=by intro q;rw [zc1,if_pos q] at hc12;cases hc12
  have he:zc1 h=210:=by rw [zc1,if_neg hm]
  refine rn ?_;exact zd7 (.cons _ _ _ _ (.agg _ _ _ _ _ _ _ rfl inferInstance inferInstance inferInstance rfl) (.cons _ _ _ _ (.tmp _ _ rfl) (.cons _ _ _ _ (.tmp _ _ rfl) .nil))) (.drop [_,_] _ _) ⟨rfl,by rw [zgf,if_neg hm,he];rfl⟩
 ·have hm:zgd h=true:=zx2.1 (by simpa using hc12)
  have la3:=zqs hm
  refine rn ?_;refine zdb (fun k:Nat=>(1≤k∧k≤11)∧zbe (zcd h) rules10=zbe (zcd h) (rules10.drop (k - 1))) (fun k=>⟨[(6,iv k),(1,pZ b1),(2,pZ b2)],(.box b2 152 [iv 0,iv 0]:: .box b1 28 (x4 h):: .glob 3 148 y8:: .glob 5 276 y9:: .glob 6 279 y4:: .glob 2 197 v8:: []),[]⟩) (fun k=>11 - k) 1 ⟨by omega,rfl⟩ es ?_
  rintro k ⟨⟨k1,k3⟩,zk⟩
  obtain ⟨pi,pb,hpv⟩:∃i b,zaq (zcd h k)= .tup [iv i,bv b]:=zcu _
  obtain ⟨ei,eb⟩:=yev hpv
  refine rn ?_;refine z8 rfl (fun hc16=> ?_) (fun hc16=> ?_)
  ·have k2:k≤10:=by have:=of_decide_eq_true hc16;omega
   refine zaa ?_;refine rn0 ?_;refine x9 ?_;refine zab ?_;refine x9 ?_;refine zjp 11 [5,6] [7,8,9,10] (fun he=>he=(.box b2 152 [iv 0,iv 0]:: .box b1 28 (x4 h):: .glob 3 148 y8:: .glob 5 276 y9:: .glob 6 279 y4:: .glob 2 197 v8:: [])∨∃b,he= .box b 203 (zbd h)::(.box b2 152 [iv 0,iv 0]:: .box b1 28 (x4 h):: .glob 3 148 y8:: .glob 5 276 y9:: .glob 6 279 y4:: .glob 2 197 v8:: [])) rfl rfl (.inl rfl) ?_
   refine jq rfl (fun he hC=>by rcases hC with rfl|⟨b,rfl⟩ <;> exact qrA) ?_
   refine jq rfl (fun he hC=>by rcases hC with rfl|⟨b,rfl⟩ <;> exact (by exact u6 rfl rfl (by show k < 11;omega))) ?_
   refine jq rfl (fun he hC=>by rcases hC with rfl|⟨b,rfl⟩ <;> exact (by exact j4 rfl (show v8[0+k * 1]? =some (ylh k) by rw [Nat.zero_add,Nat.mul_one];exact ygi k2))) ?_
   refine jq rfl (fun he hC=>by rcases hC with rfl|⟨b,rfl⟩ <;> exact qrA) ?_
   refine jq rfl (fun he hC=>by rcases hC with rfl|⟨b,rfl⟩ <;> exact (by exact k9 (out:=zbd h) rfl (by rfl))) ?_
   refine je rfl ?_;refine je rfl ?_;refine je rfl ?_;refine je rfl ?_;refine je rfl ?_;refine je rfl ?_;refine yaz ?_;refine jce rfl fun u=> ?_
   refine w6 rfl rfl rfl fun b5=>⟨_,_,rfl,.inr ⟨_,rfl⟩,?_⟩
   refine jce rfl fun u=> ?_
   refine w7 rfl rfl (ybt h la3 b5 _ k1 k2) rfl ?_
   rintro _ _ ⟨rfl,rfl⟩
   rw [hpv]
   refine ⟨_,_,rfl,.inl rfl,?_⟩
   refine jcn ?_;refine lq rfl rfl (by exact qrA) ?_
   refine lq rfl rfl (by exact qrA) ?_
   refine lq rfl rfl (by exact qrA) ?_
   refine lq rfl rfl (by exact qrA) ?_
   refine ln ?_;refine rn ?_;refine z8 rfl (fun hc29=> ?_) (fun hc29=> ?_)
   ·refine rn ?_;exact zd7 (.cons _ _ _ _ (.agg _ _ _ _ _ _ _ rfl inferInstance inferInstance inferInstance rfl) (.cons _ _ _ _ (.tmp _ _ rfl) (.cons _ _ _ _ (.tmp _ _ rfl) .nil))) (.drop [_,_] _ _) ⟨rfl,by
     cases hp:zcd h k with
     |none=>rw [hp] at eb;rw [eb] at hc29;cases hc29
     |some n=>rw [hp] at ei;subst ei;rw [zgf,if_pos hm,zin,zxn k1 k2 zk hp];rfl⟩
   ·refine rn ?_;exact ⟨k+1,⟨by omega,zul k1 k2 zk (by cases hp:zcd h k with|none=>rfl|some n=>rw [hp] at eb;rw [eb] at hc29;cases hc29)⟩,eA,by omega⟩
  ·have k2:11≤k:=by have:=of_decide_eq_false hc16;omega
   refine rn ?_;exact zd7 (.cons _ _ _ _ (.agg _ _ _ _ _ _ _ rfl inferInstance inferInstance inferInstance rfl) (.cons _ _ _ _ (.tmp _ _ rfl) (.cons _ _ _ _ (.tmp _ _ rfl) .nil))) (.drop [_,_] _ _) ⟨rfl,by rw [zgf,if_pos hm,zin,zum k2 k3 zk];rfl⟩
theorem yh6 (h:Hist) (la:Lim 4611686018427387904 h):x3 Tryz.prog 45 [.agg (x4 h)] [.glob 3 148 y8,.glob 5 276 y9,.glob 6 279 y4,.glob 2 197 v8] (fun r h'=>h'= [.glob 3 148 y8,.glob 5 276 y9,.glob 6 279 y4,.glob 2 197 v8]∧r=bv (zbq h)):=by
 refine z6 Tryz.func45 rfl rfl rfl ?_
 refine rn ?_;refine z7 rfl (w6 rfl rfl rfl fun b1=> ?_)
 refine q1 ?_;refine u3 (j8 ?_)
 refine x9 (y6 ?_)
 obtain ⟨fi,fj,fb,fe,hf,hfb⟩:=zoy h
 refine rn ?_;refine qv rfl rfl (y5 rfl rfl (y3.qt (y3.of_fun (yig h la)) ((pt1 _ _ _).trans (.cons _ ((pt1 _ _ _).trans (.cons _ ((pt1 _ _ _).trans (.cons _ (pt1 _ _ _))))))))) ?_
 rw [hf]
 refine rn ?_;refine z7 rfl (x6 rfl fun b3=> ?_)
 refine rn ?_;refine q8 (fun hg2_2=> ?_) (fun hg2_2=> ?_)
 ·refine rn ?_;refine rq 2 ?_
  exact ⟨rfl,congrArg bv (by rw [hfb];simp_all)⟩
 ·refine rn ?_;refine rq 2 ?_
  exact ⟨rfl,congrArg bv (by rw [hfb];simp_all)⟩
theorem zq1 (h:Hist) (la:Lim 4611686018427387904 h):x3 Tryz.prog 23 [.agg (x4 h)] [.glob 3 148 y8,.glob 5 276 y9,.glob 6 279 y4,.glob 2 197 v8] (fun r h'=>h'= [.glob 3 148 y8,.glob 5 276 y9,.glob 6 279 y4,.glob 2 197 v8]∧r=iv (u0 h)):=by
 refine z6 Tryz.func23 rfl rfl rfl ?_
 refine rn ?_;refine z7 rfl (w6 rfl rfl rfl fun b1=> ?_)
 refine rn ?_;refine qv rfl rfl (y5 rfl rfl (y3.qt (y3.of_fun (yke h la)) ((pt1 _ _ _).trans (.cons _ ((pt1 _ _ _).trans (.cons _ (pt1 _ _ _))))))) ?_
 refine rn ?_;refine z8 rfl (fun hc7=> ?_) (fun hc7=> ?_)
 ·have hm:¬zgd h=true:=by intro q;rw [zc1,if_pos q] at hc7;cases hc7
  have he:zc1 h=210:=by rw [zc1,if_neg hm]
  refine rn ?_;refine rq 1 ?_
  exact ⟨rfl,by rw [u0,if_neg hm,he];rfl⟩
 ·have hm:zgd h=true:=zx2.1 (by simpa using hc7)
  refine rn ?_;refine qv rfl rfl (y5 rfl rfl (y3.qt (y3.of_fun (yh6 h la)) ((pt1 _ _ _).trans (.cons _ ((pt1 _ _ _).trans (.cons _ ((pt1 _ _ _).trans (.cons _ (pt1 _ _ _))))))))) ?_
  refine rn ?_;refine z8 rfl (fun hc11=> ?_) (fun hc11=> ?_)
  ·refine rn ?_;refine rq 1 ?_
   exact ⟨rfl,by rw [u0,if_pos hm];simp_all;rfl⟩
  ·refine rn ?_;refine rq 1 ?_
   exact ⟨rfl,by rw [u0,if_pos hm];simp_all;rfl⟩
theorem zsz (h:Hist) (kd:Int) (W:List Res):x3 Tryz.prog 120 [.agg (x4 h),iv kd] W (fun r h'=>∃b1 b2,h'= .box b1 28 (x4 h):: .box b2 3 [iv kd]::W∧r= .fn (.func 158) [] [pZ b1,pZ b2]):=by
 refine z6 Tryz.func120 rfl rfl rfl ?_
 refine rn ?_;refine z7 rfl (w6 rfl rfl rfl fun b2=> ?_)
 refine z7 rfl (w6 rfl rfl rfl fun b3=> ?_)
 refine rn ?_;exact k7 rfl (.perm (pt1 _ _ _) _) ⟨_,_,rfl,rfl⟩
set_option maxHeartbeats 4000000 in
theorem zoo {σ:Type} (h:Hist) (la:h.evs.length≤1000000) (kd:Int) (y:AV) (b1 b2:Nat) (p q:Nat→σ→Prop) (I F:Nat→σ→List Res) (x0:σ) (hp0:p 0 x0) (hy:∀k x,(hk:k < h.evs.length)→p k x→(h.evs[k].kind==kd)=true→y3 Tryz.prog y [iv k,.agg (evR h.evs[k])] (.box b1 28 (x4 h):: .box b2 3 [iv kd]::I k x) (fun r h'=>∃x',(r=bv true∧p (k+1) x'∧h'= .box b1 28 (x4 h):: .box b2 3 [iv kd]::I (k+1) x')∨(r=bv false∧q k x'∧h'= .box b1 28 (x4 h):: .box b2 3 [iv kd]::F k x'))) (hs:∀k x,(hk:k < h.evs.length)→p k x→(h.evs[k].kind==kd)=false→∃x',p (k+1) x'∧I (k+1) x'=I k x):x3 Tryz.prog 158 [y,pZ b1,pZ b2] (.box b1 28 (x4 h):: .box b2 3 [iv kd]::I 0 x0) (fun r h'=>(∃x,p h.evs.length x∧h'=I h.evs.length x)∨∃k x,q k x∧h'=F k x):=by
 refine z6 Tryz.func158 rfl rfl rfl ?_
 refine rn ?_;refine zem h.evs.length p (fun k x=>⟨[(9,iv k),(0,y),(2,pZ b2),(7,zrb h.evs),(8,iv (h.evs.map evR).length)],.box b1 28 (x4 h):: .box b2 3 [iv kd]::I k x,[]⟩) x0 hp0 es ?_
 intro k x lk zk
 refine rn ?_;refine z8 rfl (fun hc10=> ?_) (fun hc10=> ?_)
 ·have hk:=zds hc10
  have rk:=zdm (f:=evR) hk
  refine rn ?_;refine z7 rfl (x6 rfl fun b5=> ?_)
  refine rn ?_;refine q8 (fun hg3_4=> ?_) (fun hg3_4=> ?_)
  ·refine q1 ?_;refine q1 ?_;refine q1 ?_;refine z7 rfl (w7 rfl rfl (y3.fr1 (hy k x hk zk (by simpa using hg3_4))) rfl ?_)
   rintro _ _ ⟨_,rfl,x',⟨rfl,hp,rfl⟩|⟨rfl,hq,rfl⟩⟩
   ·refine rn ?_;refine z8 rfl (fun hc24=> ?_) (fun hc24=> ?_)
    ·first|cases hc24|exact absurd hc24 (by decide)|(exfalso;simp_all;done)
    ·refine rn ?_;exact ⟨hk,x',hp,eA⟩
   ·refine rn ?_;refine z8 rfl (fun hc24=> ?_) (fun hc24=> ?_)
    ·refine rn ?_;exact zd7 .nil (.drop [_,_,_] _ _) (.inr ⟨k,x',hq,rfl⟩)
    ·first|cases hc24|exact absurd hc24 (by decide)|(exfalso;simp_all;done)
  ·refine rn ?_;refine zpm rfl ?_;refine rn ?_;obtain ⟨x',hp,e⟩:=hs k x hk zk (by simpa using hg3_4)
   exact ⟨hk,x',hp,by rw [e];exact eA⟩
 ·have qk:=zdu hc10 lk
  subst qk
  refine rn ?_;exact zdy .nil (.drop [_,_] _ _) (.inl ⟨x,zk,rfl⟩)
def znt {α:Type} (kd:Int) (x:Nat→Ev→α) (p:Nat→Ev→Bool) (k:Nat) (e:Ev):Option α:=if (e.kind==kd && p k e)=true then some (x k e) else none
theorem yj0 {α:Type} {kd:Int} {x:Nat→Ev→α} {p:Nat→Ev→Bool} {k:Nat} {e:Ev} (h:(e.kind==kd)=false):znt kd x p k e=none:=by rw [znt,h];simp
theorem yjz {α:Type} {kd:Int} {x:Nat→Ev→α} {p:Nat→Ev→Bool} {k:Nat} {e:Ev} (h:p k e=false):znt kd x p k e=none:=by rw [znt,h];simp
theorem yjy {α:Type} {kd:Int} {x:Nat→Ev→α} {p:Nat→Ev→Bool} {k:Nat} {e:Ev} (h1:(e.kind==kd)=true) (h:p k e=true):znt kd x p k e=some (x k e):=by rw [znt,h1,h];simp
theorem ycq {α:Type} {f:Nat→Ev→Option α} {l:List Ev} {k:Nat} (h:k < l.length) (hf:f k l[k]=none):zjj f l (k+1)=zjj f l k:=by rw [zxi h,hf];simp
theorem yjx {α:Type} {f:Nat→Ev→Option α} {l:List Ev} {k:Nat} {a:α} (h:k < l.length) (hf:f k l[k]=some a):zjj f l (k+1)=zjj f l k++ [a]:=by rw [zxi h,hf];rfl
set_option maxHeartbeats 4000000 in
theorem ych (h:Hist) (la:h.evs.length≤1000000) (kd:Int) (fv:AV) (hone:fv.cellsOf=some [fv]) (W:List Res) (x:Nat→Ev→Int) (p:Nat→Ev→Bool) (hp:∀k,(hk:k < h.evs.length)→(h.evs[k].kind==kd)=true→y3 Tryz.prog fv [iv k,.agg (evR h.evs[k])] W (fun r h'=>h'=W∧r= .tup [iv (x k h.evs[k]),bv (p k h.evs[k])])):x3 Tryz.prog 73 [.agg (x4 h),iv kd,fv] W (fun r h'=>∃s:SV,h'= .row s.v 1 3 ((zjj (znt kd x p) h.evs h.evs.length).map za5)::W∧r= .v s.v):=by
 refine z6 Tryz.func73 rfl rfl rfl ?_
 refine rn ?_;refine z7 rfl (w6 rfl rfl rfl fun b3=> ?_)
 refine z7 rfl (w6 rfl hone rfl fun b5=> ?_)
 refine rn ?_;refine z7 rfl (x6 rfl fun b7=> ?_)
 refine rn ?_;refine z7 rfl (w7 rfl rfl (y3.of_fun (zsz h kd _)) rfl ?_)
 rintro _ _ ⟨b1,b2,rfl,rfl⟩
 refine rn ?_;refine zir (s':=⟨[(14,.fn (.func 158) [] [pZ b1,pZ b2]),(5,pZ b5),(7,pZ b7)],.box b1 28 (x4 h):: .box b2 3 [iv kd]:: .box b7 54 [.v (⟨none,0,0⟩:SV).v]:: .row (⟨none,0,0⟩:SV).v 1 3 ((zjj (znt kd x p) h.evs 0).map za5):: .box b5 129 [fv]:: .box b3 28 (x4 h)::W,[]⟩) (w9 (w9 (zay 1 3) (zai ((pt1 _ _ _).trans (.cons _ ((pt1 _ _ _).trans (.cons _ (pt1 _ _ _))))))) es) ?_
 refine zld (fun pend h''=>pend=none∧∃s:SV,h''= .box b7 54 [.v s.v]:: .row s.v 1 3 ((zjj (znt kd x p) h.evs h.evs.length).map za5):: .box b5 129 [fv]:: .box b3 28 (x4 h)::W) rfl (fun fn l q lp hlp=> ?_) (fun q h'' hK=> ?_) (fun q h'' c hK=> ?_)
 ·suffices hy:∀k (s:SV),(hk:k < h.evs.length)→True→(h.evs[k].kind==kd)=true→y3 Tryz.prog (yv l) [iv k,.agg (evR h.evs[k])] (.box b1 28 (x4 h):: .box b2 3 [iv kd]::lp .ready none:: .defs q:: .box b7 54 [.v s.v]:: .row s.v 1 3 ((zjj (znt kd x p) h.evs k).map za5):: .box b5 129 [fv]:: .box b3 28 (x4 h)::W) (fun r h'=>∃s':SV,(r=bv true∧True∧h'= .box b1 28 (x4 h):: .box b2 3 [iv kd]::lp .ready none:: .defs q:: .box b7 54 [.v s'.v]:: .row s'.v 1 3 ((zjj (znt kd x p) h.evs (k+1)).map za5):: .box b5 129 [fv]:: .box b3 28 (x4 h)::W)∨(r=bv false∧False∧h'= .box b1 28 (x4 h):: .box b2 3 [iv kd]:: [])) by
   refine x3.mono (x3.perm ((pt2 _ _ _ _).trans (.cons _ (pt2 _ _ _ _))) (zoo h la kd (yv l) b1 b2 (fun _ _=>True) (fun _ _=>False) (fun k (s:SV)=>lp .ready none:: .defs q:: .box b7 54 [.v s.v]:: .row s.v 1 3 ((zjj (znt kd x p) h.evs k).map za5):: .box b5 129 [fv]:: .box b3 28 (x4 h)::W) (fun _ _=> []) ⟨none,0,0⟩ trivial hy (fun k s hk _ hn=>⟨s,trivial,by rw [ycq hk (yj0 hn)]⟩))) ?_
   rintro _ _ (⟨s,_,rfl⟩|⟨_,_,hF,_⟩)
   ·exact ⟨none,.ready,_,.refl _,by simp,rfl,s,rfl⟩
   ·exact hF.elim
  intro k s hk _ hkd
  refine y3.perm (pt2 _ _ _ _) (y3.ventE ?_)
  refine zdk hlp rfl rfl ?_
  refine rn ?_;refine z7 rfl (x6 rfl fun b9=> ?_)
  refine rn ?_;refine ⟨[(8,iv k),(9,pZ b9),(5,pZ b5),(7,pZ b7)],.box b9 66 (evR h.evs[k]):: .box b1 28 (x4 h):: .box b2 3 [iv kd]:: .defs q:: .box b7 54 [.v s.v]:: .row s.v 1 3 ((zjj (znt kd x p) h.evs k).map za5):: .box b5 129 [fv]:: .box b3 28 (x4 h)::W,w9 (zai (pt1 _ _ _)) es,?_⟩
  refine rn ?_;refine qv rfl rfl (y5 rfl rfl (y3.qt (h2:= [_,_,_,_,_,_,_,_,_]) (hp k hk hkd) (zcv [_,_,_,_,_,_,_,_,_] _))) ?_
  refine rn ?_;refine z8 rfl (fun hc24=> ?_) (fun hc24=> ?_)
  ·refine y6 ?_;refine q1 ?_;refine q1 ?_;refine q1 ?_;refine q1 ?_;refine q1 ?_;refine qq rfl rfl (zt4 rfl (by rfl) (by rfl)) ?_
   refine rn ?_;refine qv rfl rfl (u1 rfl rfl) ?_
   refine ybx s.v ?_
   refine z7 rfl (j7 rfl rfl (by simp only [List.length_map,List.length_cons,List.length_nil];have:=zm6 (znt kd x p) h.evs k;omega) rfl (fun s33=> ?_) (zj8 [x k h.evs[k]]))
   refine zaj s33 fun sv hsv=> ?_
   subst hsv
   refine rn ?_;exact zgw (.refl _) ⟨_,_,.trans (.perm ((pt1 _ _ _).trans (.cons _ ((pt1 _ _ _).trans (.cons _ (pt1 _ _ _))))) _) (.drop [_] _ _),sv,.inl ⟨rfl,trivial,by rw [yjx hk (yjy hkd hc24),List.map_append];rfl⟩⟩
  ·refine rn ?_;exact zgw (.refl _) ⟨_,_,.trans (.perm ((pt1 _ _ _).trans (.cons _ ((pt1 _ _ _).trans (.cons _ (pt1 _ _ _))))) _) (.drop [_] _ _),s,.inl ⟨rfl,trivial,by rw [ycq hk (yjz hc24)]⟩⟩
 ·obtain ⟨_,s,rfl⟩:=hK
  refine rn ?_;exact zgk (.refl _) (.cons _ _ _ _ (.tmp _ _ rfl) .nil) (.trans (.drop1 _ _ _) (.trans (.perm (pt1 _ _ _) _) (.trans (.drop [_] _ _) (.trans (.perm (pt1 _ _ _) _) (.drop [_] _ _))))) ⟨s,rfl,rfl⟩
 ·obtain ⟨hc,_⟩:=hK
  exact absurd hc (by simp)
end Go.Proofs
