/- The decoding of runes. Conditions: none. -/
import Derived.Test.YtcaijocpofcbdaaGreatDoorGGrG
set_option maxHeartbeats 4000000
set_option linter.unusedSectionVars false
set_option linter.unusedSimpArgs false
set_option linter.unusedVariables false
set_option maxRecDepth 10000
namespace Go.Proofs
open Go Go.Ab
attribute [local irreducible] QR QV OE zcc aw zco za8 zav zah thn zez
open Go.H
theorem znl (s:ByteArray) (hx:zb5 (bt s 0).toNat=240):x3 Tryz.prog 227 [.v (.string s)] [.glob 5 276 y9,.glob 6 279 y4] (fun r h'=>h'= [.glob 5 276 y9,.glob 6 279 y4]∧r= .tup [.v (.int .i32 (y8 s).1),iv (y8 s).2]):=by
 refine z6 Tryz.func227 rfl rfl rfl ?_
 refine rn ?_;refine z8 rfl (fun hc16=> ?_) (fun hc16=> ?_)
 ·refine rn ?_;have hd:y8 s=(65533,0):=by
   unfold y8
   rw [if_pos (by simp at hc16;omega)]
  exact zbo rfl rfl (.refl _ _) ⟨rfl,by rw [hd];rfl⟩
 ·have h1:0 < s.size:=by simp at hc16;omega
  refine rn ?_;refine qq rfl rfl (u0 0 rfl rfl (by omega)) ?_
  refine rn ?_;refine qq rfl rfl (u2 rfl rfl (zff _ _) (zfe _ _)) ?_
  refine qq rfl rfl (j4 rfl (show _=some (.v (.int .u8 240)) from by rw [zb8 (zff s 0) (zfe s 0),hx])) ?_
  refine rn ?_;refine z8 rfl (fun hc23=> ?_) (fun hc23=> ?_)
  ·refine rn ?_;refine qq rfl rfl (u0 0 rfl rfl (by omega)) ?_
   refine rn ?_;have hd:y8 s=(bI .or .i32 (bI .andNot .i32 (IntKind.i32.wrap (bt s 0)) (zic 240)) (bI .and .i32 65533 (zic 240)),1):=by
    unfold y8
    rw [if_neg (by omega)]
    simp only [hx]
    rw [if_pos (by decide)]
   exact zbo rfl rfl (.refl _ _) ⟨rfl,by rw [hd];rfl⟩
  ·first|cases hc23|exact absurd hc23 (by decide)|(exfalso;simp_all;done)
theorem znk (s:ByteArray) (hx:zb5 (bt s 0).toNat=241):x3 Tryz.prog 227 [.v (.string s)] [.glob 5 276 y9,.glob 6 279 y4] (fun r h'=>h'= [.glob 5 276 y9,.glob 6 279 y4]∧r= .tup [.v (.int .i32 (y8 s).1),iv (y8 s).2]):=by
 refine z6 Tryz.func227 rfl rfl rfl ?_
 refine rn ?_;refine z8 rfl (fun hc16=> ?_) (fun hc16=> ?_)
 ·refine rn ?_;have hd:y8 s=(65533,0):=by
   unfold y8
   rw [if_pos (by simp at hc16;omega)]
  exact zbo rfl rfl (.refl _ _) ⟨rfl,by rw [hd];rfl⟩
 ·have h1:0 < s.size:=by simp at hc16;omega
  refine rn ?_;refine qq rfl rfl (u0 0 rfl rfl (by omega)) ?_
  refine rn ?_;refine qq rfl rfl (u2 rfl rfl (zff _ _) (zfe _ _)) ?_
  refine qq rfl rfl (j4 rfl (show _=some (.v (.int .u8 241)) from by rw [zb8 (zff s 0) (zfe s 0),hx])) ?_
  refine rn ?_;refine z8 rfl (fun hc23=> ?_) (fun hc23=> ?_)
  ·refine rn ?_;refine qq rfl rfl (u0 0 rfl rfl (by omega)) ?_
   refine rn ?_;have hd:y8 s=(bI .or .i32 (bI .andNot .i32 (IntKind.i32.wrap (bt s 0)) (zic 241)) (bI .and .i32 65533 (zic 241)),1):=by
    unfold y8
    rw [if_neg (by omega)]
    simp only [hx]
    rw [if_pos (by decide)]
   exact zbo rfl rfl (.refl _ _) ⟨rfl,by rw [hd];rfl⟩
  ·first|cases hc23|exact absurd hc23 (by decide)|(exfalso;simp_all;done)
theorem zrq (s:ByteArray) (hx:zb5 (bt s 0).toNat=2):x3 Tryz.prog 227 [.v (.string s)] [.glob 5 276 y9,.glob 6 279 y4] (fun r h'=>h'= [.glob 5 276 y9,.glob 6 279 y4]∧r= .tup [.v (.int .i32 (y8 s).1),iv (y8 s).2]):=by
 refine z6 Tryz.func227 rfl rfl rfl ?_
 refine rn ?_;refine z8 rfl (fun hc16=> ?_) (fun hc16=> ?_)
 ·refine rn ?_;have hd:y8 s=(65533,0):=by
   unfold y8
   rw [if_pos (by simp at hc16;omega)]
  exact zbo rfl rfl (.refl _ _) ⟨rfl,by rw [hd];rfl⟩
 ·have h1:0 < s.size:=by simp at hc16;omega
  refine rn ?_;refine qq rfl rfl (u0 0 rfl rfl (by omega)) ?_
  refine rn ?_;refine qq rfl rfl (u2 rfl rfl (zff _ _) (zfe _ _)) ?_
  refine qq rfl rfl (j4 rfl (show _=some (.v (.int .u8 2)) from by rw [zb8 (zff s 0) (zfe s 0),hx])) ?_
  refine rn ?_;refine z8 rfl (fun hc23=> ?_) (fun hc23=> ?_)
  ·first|cases hc23|exact absurd hc23 (by decide)|(exfalso;simp_all;done)
  ·refine rn ?_;refine qq rfl rfl (u2 rfl rfl (by decide) (by decide)) ?_
   refine rn ?_;refine z7 rfl (x6 rfl fun b9=> ?_)
   refine rn ?_;refine z8 rfl (fun hc45=> ?_) (fun hc45=> ?_)
   ·refine rn ?_;have hd:y8 s=(65533,1):=by
     unfold y8
     rw [if_neg (by omega)]
     simp only [hx]
     rw [if_neg (by decide),if_pos (show (s.size:Int) < (2:Int) % 8 from oT hc45)]
    exact zbo rfl rfl (.drop1 _ _ _) ⟨rfl,by rw [hd];rfl⟩
   ·have h2:2≤s.size:=by
     have:¬((s.size:Int) < 2):=oF hc45
     omega
    refine rn ?_;refine qq rfl rfl (u0 1 rfl rfl (by omega)) ?_
    refine rn ?_;refine q9 (fun hg14_4=> ?_) (fun hg14_4=> ?_)
    ·refine rn ?_;refine z8 rfl (fun hc57=> ?_) (fun hc57=> ?_)
     ·refine rn ?_;have hd:y8 s=(65533,1):=by
       unfold y8
       rw [if_neg (by omega)]
       simp only [hx]
       rw [if_neg (by decide),if_neg (show ¬(s.size:Int) < (2:Int) % 8 from oF hc45),if_pos (show bt s 1 < zbm ((2:Int) / 16).toNat∨zbn ((2:Int) / 16).toNat < bt s 1 from by first|exact .inl (oT hg14_4)|exact .inr (oT hc57))]
      exact zbo rfl rfl (.drop1 _ _ _) ⟨rfl,by rw [hd];rfl⟩
     ·first|cases hc57|exact absurd hc57 (by decide)|(exfalso;simp_all;done)
    ·refine rn ?_;refine z8 rfl (fun hc57=> ?_) (fun hc57=> ?_)
     ·refine rn ?_;have hd:y8 s=(65533,1):=by
       unfold y8
       rw [if_neg (by omega)]
       simp only [hx]
       rw [if_neg (by decide),if_neg (show ¬(s.size:Int) < (2:Int) % 8 from oF hc45),if_pos (show bt s 1 < zbm ((2:Int) / 16).toNat∨zbn ((2:Int) / 16).toNat < bt s 1 from by first|exact .inl (oT hg14_4)|exact .inr (oT hc57))]
      exact zbo rfl rfl (.drop1 _ _ _) ⟨rfl,by rw [hd];rfl⟩
     ·refine rn ?_;refine z8 rfl (fun hc59=> ?_) (fun hc59=> ?_)
      ·refine rn ?_;have hd:y8 s=(bI .or .i32 (zce (bt s 0) 31 6) (zce (bt s 1) 63 0),2):=by
        unfold y8
        rw [if_neg (by omega)]
        simp only [hx]
        rw [if_neg (by decide),if_neg (show ¬(s.size:Int) < (2:Int) % 8 from oF hc45),if_neg (show ¬(bt s 1 < zbm ((2:Int) / 16).toNat∨zbn ((2:Int) / 16).toNat < bt s 1) from fun q=>q.elim (oF hg14_4) (oF hc57)),if_pos (by decide)]
       exact zbo rfl rfl (.drop1 _ _ _) ⟨rfl,by rw [hd];rfl⟩
      ·first|cases hc59|exact absurd hc59 (by decide)|(exfalso;simp_all;done)
theorem zpf (s:ByteArray) (hx:zb5 (bt s 0).toNat=19):x3 Tryz.prog 227 [.v (.string s)] [.glob 5 276 y9,.glob 6 279 y4] (fun r h'=>h'= [.glob 5 276 y9,.glob 6 279 y4]∧r= .tup [.v (.int .i32 (y8 s).1),iv (y8 s).2]):=by
 refine z6 Tryz.func227 rfl rfl rfl ?_
 refine rn ?_;refine z8 rfl (fun hc16=> ?_) (fun hc16=> ?_)
 ·refine rn ?_;have hd:y8 s=(65533,0):=by
   unfold y8
   rw [if_pos (by simp at hc16;omega)]
  exact zbo rfl rfl (.refl _ _) ⟨rfl,by rw [hd];rfl⟩
 ·have h1:0 < s.size:=by simp at hc16;omega
  refine rn ?_;refine qq rfl rfl (u0 0 rfl rfl (by omega)) ?_
  refine rn ?_;refine qq rfl rfl (u2 rfl rfl (zff _ _) (zfe _ _)) ?_
  refine qq rfl rfl (j4 rfl (show _=some (.v (.int .u8 19)) from by rw [zb8 (zff s 0) (zfe s 0),hx])) ?_
  refine rn ?_;refine z8 rfl (fun hc23=> ?_) (fun hc23=> ?_)
  ·first|cases hc23|exact absurd hc23 (by decide)|(exfalso;simp_all;done)
  ·refine rn ?_;refine qq rfl rfl (u2 rfl rfl (by decide) (by decide)) ?_
   refine rn ?_;refine z7 rfl (x6 rfl fun b9=> ?_)
   refine rn ?_;refine z8 rfl (fun hc45=> ?_) (fun hc45=> ?_)
   ·refine rn ?_;have hd:y8 s=(65533,1):=by
     unfold y8
     rw [if_neg (by omega)]
     simp only [hx]
     rw [if_neg (by decide),if_pos (show (s.size:Int) < (19:Int) % 8 from oT hc45)]
    exact zbo rfl rfl (.drop1 _ _ _) ⟨rfl,by rw [hd];rfl⟩
   ·have h2:3≤s.size:=by
     have:¬((s.size:Int) < 3):=oF hc45
     omega
    refine rn ?_;refine qq rfl rfl (u0 1 rfl rfl (by omega)) ?_
    refine rn ?_;refine q9 (fun hg14_4=> ?_) (fun hg14_4=> ?_)
    ·refine rn ?_;refine z8 rfl (fun hc57=> ?_) (fun hc57=> ?_)
     ·refine rn ?_;have hd:y8 s=(65533,1):=by
       unfold y8
       rw [if_neg (by omega)]
       simp only [hx]
       rw [if_neg (by decide),if_neg (show ¬(s.size:Int) < (19:Int) % 8 from oF hc45),if_pos (show bt s 1 < zbm ((19:Int) / 16).toNat∨zbn ((19:Int) / 16).toNat < bt s 1 from by first|exact .inl (oT hg14_4)|exact .inr (oT hc57))]
      exact zbo rfl rfl (.drop1 _ _ _) ⟨rfl,by rw [hd];rfl⟩
     ·first|cases hc57|exact absurd hc57 (by decide)|(exfalso;simp_all;done)
    ·refine rn ?_;refine z8 rfl (fun hc57=> ?_) (fun hc57=> ?_)
     ·refine rn ?_;have hd:y8 s=(65533,1):=by
       unfold y8
       rw [if_neg (by omega)]
       simp only [hx]
       rw [if_neg (by decide),if_neg (show ¬(s.size:Int) < (19:Int) % 8 from oF hc45),if_pos (show bt s 1 < zbm ((19:Int) / 16).toNat∨zbn ((19:Int) / 16).toNat < bt s 1 from by first|exact .inl (oT hg14_4)|exact .inr (oT hc57))]
      exact zbo rfl rfl (.drop1 _ _ _) ⟨rfl,by rw [hd];rfl⟩
     ·refine rn ?_;refine z8 rfl (fun hc59=> ?_) (fun hc59=> ?_)
      ·first|cases hc59|exact absurd hc59 (by decide)|(exfalso;simp_all;done)
      ·refine rn ?_;refine qq rfl rfl (u0 2 rfl rfl (by omega)) ?_
       refine rn ?_;refine q9 (fun hg19_2=> ?_) (fun hg19_2=> ?_)
       ·refine rn ?_;refine z8 rfl (fun hc75=> ?_) (fun hc75=> ?_)
        ·refine rn ?_;have hd:y8 s=(65533,1):=by
          unfold y8
          rw [if_neg (by omega)]
          simp only [hx]
          rw [if_neg (by decide),if_neg (show ¬(s.size:Int) < (19:Int) % 8 from oF hc45),if_neg (show ¬(bt s 1 < zbm ((19:Int) / 16).toNat∨zbn ((19:Int) / 16).toNat < bt s 1) from fun q=>q.elim (oF hg14_4) (oF hc57)),if_neg (by decide),if_pos (show bt s 2 < 128∨191 < bt s 2 from by first|exact .inl (oT hg19_2)|exact .inr (oT hc75))]
         exact zbo rfl rfl (.drop1 _ _ _) ⟨rfl,by rw [hd];rfl⟩
        ·first|cases hc75|exact absurd hc75 (by decide)|(exfalso;simp_all;done)
       ·refine rn ?_;refine z8 rfl (fun hc75=> ?_) (fun hc75=> ?_)
        ·refine rn ?_;have hd:y8 s=(65533,1):=by
          unfold y8
          rw [if_neg (by omega)]
          simp only [hx]
          rw [if_neg (by decide),if_neg (show ¬(s.size:Int) < (19:Int) % 8 from oF hc45),if_neg (show ¬(bt s 1 < zbm ((19:Int) / 16).toNat∨zbn ((19:Int) / 16).toNat < bt s 1) from fun q=>q.elim (oF hg14_4) (oF hc57)),if_neg (by decide),if_pos (show bt s 2 < 128∨191 < bt s 2 from by first|exact .inl (oT hg19_2)|exact .inr (oT hc75))]
         exact zbo rfl rfl (.drop1 _ _ _) ⟨rfl,by rw [hd];rfl⟩
        ·refine rn ?_;refine z8 rfl (fun hc77=> ?_) (fun hc77=> ?_)
         ·refine rn ?_;have hd:y8 s=(bI .or .i32 (bI .or .i32 (zce (bt s 0) 15 12) (zce (bt s 1) 63 6)) (zce (bt s 2) 63 0),3):=by
           unfold y8
           rw [if_neg (by omega)]
           simp only [hx]
           rw [if_neg (by decide),if_neg (show ¬(s.size:Int) < (19:Int) % 8 from oF hc45),if_neg (show ¬(bt s 1 < zbm ((19:Int) / 16).toNat∨zbn ((19:Int) / 16).toNat < bt s 1) from fun q=>q.elim (oF hg14_4) (oF hc57)),if_neg (by decide),if_neg (show ¬(bt s 2 < 128∨191 < bt s 2) from fun q=>q.elim (oF hg19_2) (oF hc75)),if_pos (by decide)]
          exact zbo rfl rfl (.drop1 _ _ _) ⟨rfl,by rw [hd];rfl⟩
         ·first|cases hc77|exact absurd hc77 (by decide)|(exfalso;simp_all;done)
theorem zrp (s:ByteArray) (hx:zb5 (bt s 0).toNat=3):x3 Tryz.prog 227 [.v (.string s)] [.glob 5 276 y9,.glob 6 279 y4] (fun r h'=>h'= [.glob 5 276 y9,.glob 6 279 y4]∧r= .tup [.v (.int .i32 (y8 s).1),iv (y8 s).2]):=by
 refine z6 Tryz.func227 rfl rfl rfl ?_
 refine rn ?_;refine z8 rfl (fun hc16=> ?_) (fun hc16=> ?_)
 ·refine rn ?_;have hd:y8 s=(65533,0):=by
   unfold y8
   rw [if_pos (by simp at hc16;omega)]
  exact zbo rfl rfl (.refl _ _) ⟨rfl,by rw [hd];rfl⟩
 ·have h1:0 < s.size:=by simp at hc16;omega
  refine rn ?_;refine qq rfl rfl (u0 0 rfl rfl (by omega)) ?_
  refine rn ?_;refine qq rfl rfl (u2 rfl rfl (zff _ _) (zfe _ _)) ?_
  refine qq rfl rfl (j4 rfl (show _=some (.v (.int .u8 3)) from by rw [zb8 (zff s 0) (zfe s 0),hx])) ?_
  refine rn ?_;refine z8 rfl (fun hc23=> ?_) (fun hc23=> ?_)
  ·first|cases hc23|exact absurd hc23 (by decide)|(exfalso;simp_all;done)
  ·refine rn ?_;refine qq rfl rfl (u2 rfl rfl (by decide) (by decide)) ?_
   refine rn ?_;refine z7 rfl (x6 rfl fun b9=> ?_)
   refine rn ?_;refine z8 rfl (fun hc45=> ?_) (fun hc45=> ?_)
   ·refine rn ?_;have hd:y8 s=(65533,1):=by
     unfold y8
     rw [if_neg (by omega)]
     simp only [hx]
     rw [if_neg (by decide),if_pos (show (s.size:Int) < (3:Int) % 8 from oT hc45)]
    exact zbo rfl rfl (.drop1 _ _ _) ⟨rfl,by rw [hd];rfl⟩
   ·have h2:3≤s.size:=by
     have:¬((s.size:Int) < 3):=oF hc45
     omega
    refine rn ?_;refine qq rfl rfl (u0 1 rfl rfl (by omega)) ?_
    refine rn ?_;refine q9 (fun hg14_4=> ?_) (fun hg14_4=> ?_)
    ·refine rn ?_;refine z8 rfl (fun hc57=> ?_) (fun hc57=> ?_)
     ·refine rn ?_;have hd:y8 s=(65533,1):=by
       unfold y8
       rw [if_neg (by omega)]
       simp only [hx]
       rw [if_neg (by decide),if_neg (show ¬(s.size:Int) < (3:Int) % 8 from oF hc45),if_pos (show bt s 1 < zbm ((3:Int) / 16).toNat∨zbn ((3:Int) / 16).toNat < bt s 1 from by first|exact .inl (oT hg14_4)|exact .inr (oT hc57))]
      exact zbo rfl rfl (.drop1 _ _ _) ⟨rfl,by rw [hd];rfl⟩
     ·first|cases hc57|exact absurd hc57 (by decide)|(exfalso;simp_all;done)
    ·refine rn ?_;refine z8 rfl (fun hc57=> ?_) (fun hc57=> ?_)
     ·refine rn ?_;have hd:y8 s=(65533,1):=by
       unfold y8
       rw [if_neg (by omega)]
       simp only [hx]
       rw [if_neg (by decide),if_neg (show ¬(s.size:Int) < (3:Int) % 8 from oF hc45),if_pos (show bt s 1 < zbm ((3:Int) / 16).toNat∨zbn ((3:Int) / 16).toNat < bt s 1 from by first|exact .inl (oT hg14_4)|exact .inr (oT hc57))]
      exact zbo rfl rfl (.drop1 _ _ _) ⟨rfl,by rw [hd];rfl⟩
     ·refine rn ?_;refine z8 rfl (fun hc59=> ?_) (fun hc59=> ?_)
      ·first|cases hc59|exact absurd hc59 (by decide)|(exfalso;simp_all;done)
      ·refine rn ?_;refine qq rfl rfl (u0 2 rfl rfl (by omega)) ?_
       refine rn ?_;refine q9 (fun hg19_2=> ?_) (fun hg19_2=> ?_)
       ·refine rn ?_;refine z8 rfl (fun hc75=> ?_) (fun hc75=> ?_)
        ·refine rn ?_;have hd:y8 s=(65533,1):=by
          unfold y8
          rw [if_neg (by omega)]
          simp only [hx]
          rw [if_neg (by decide),if_neg (show ¬(s.size:Int) < (3:Int) % 8 from oF hc45),if_neg (show ¬(bt s 1 < zbm ((3:Int) / 16).toNat∨zbn ((3:Int) / 16).toNat < bt s 1) from fun q=>q.elim (oF hg14_4) (oF hc57)),if_neg (by decide),if_pos (show bt s 2 < 128∨191 < bt s 2 from by first|exact .inl (oT hg19_2)|exact .inr (oT hc75))]
         exact zbo rfl rfl (.drop1 _ _ _) ⟨rfl,by rw [hd];rfl⟩
        ·first|cases hc75|exact absurd hc75 (by decide)|(exfalso;simp_all;done)
       ·refine rn ?_;refine z8 rfl (fun hc75=> ?_) (fun hc75=> ?_)
        ·refine rn ?_;have hd:y8 s=(65533,1):=by
          unfold y8
          rw [if_neg (by omega)]
          simp only [hx]
          rw [if_neg (by decide),if_neg (show ¬(s.size:Int) < (3:Int) % 8 from oF hc45),if_neg (show ¬(bt s 1 < zbm ((3:Int) / 16).toNat∨zbn ((3:Int) / 16).toNat < bt s 1) from fun q=>q.elim (oF hg14_4) (oF hc57)),if_neg (by decide),if_pos (show bt s 2 < 128∨191 < bt s 2 from by first|exact .inl (oT hg19_2)|exact .inr (oT hc75))]
         exact zbo rfl rfl (.drop1 _ _ _) ⟨rfl,by rw [hd];rfl⟩
        ·refine rn ?_;refine z8 rfl (fun hc77=> ?_) (fun hc77=> ?_)
         ·refine rn ?_;have hd:y8 s=(bI .or .i32 (bI .or .i32 (zce (bt s 0) 15 12) (zce (bt s 1) 63 6)) (zce (bt s 2) 63 0),3):=by
           unfold y8
           rw [if_neg (by omega)]
           simp only [hx]
           rw [if_neg (by decide),if_neg (show ¬(s.size:Int) < (3:Int) % 8 from oF hc45),if_neg (show ¬(bt s 1 < zbm ((3:Int) / 16).toNat∨zbn ((3:Int) / 16).toNat < bt s 1) from fun q=>q.elim (oF hg14_4) (oF hc57)),if_neg (by decide),if_neg (show ¬(bt s 2 < 128∨191 < bt s 2) from fun q=>q.elim (oF hg19_2) (oF hc75)),if_pos (by decide)]
          exact zbo rfl rfl (.drop1 _ _ _) ⟨rfl,by rw [hd];rfl⟩
         ·first|cases hc77|exact absurd hc77 (by decide)|(exfalso;simp_all;done)
theorem zpe (s:ByteArray) (hx:zb5 (bt s 0).toNat=35):x3 Tryz.prog 227 [.v (.string s)] [.glob 5 276 y9,.glob 6 279 y4] (fun r h'=>h'= [.glob 5 276 y9,.glob 6 279 y4]∧r= .tup [.v (.int .i32 (y8 s).1),iv (y8 s).2]):=by
 refine z6 Tryz.func227 rfl rfl rfl ?_
 refine rn ?_;refine z8 rfl (fun hc16=> ?_) (fun hc16=> ?_)
 ·refine rn ?_;have hd:y8 s=(65533,0):=by
   unfold y8
   rw [if_pos (by simp at hc16;omega)]
  exact zbo rfl rfl (.refl _ _) ⟨rfl,by rw [hd];rfl⟩
 ·have h1:0 < s.size:=by simp at hc16;omega
  refine rn ?_;refine qq rfl rfl (u0 0 rfl rfl (by omega)) ?_
  refine rn ?_;refine qq rfl rfl (u2 rfl rfl (zff _ _) (zfe _ _)) ?_
  refine qq rfl rfl (j4 rfl (show _=some (.v (.int .u8 35)) from by rw [zb8 (zff s 0) (zfe s 0),hx])) ?_
  refine rn ?_;refine z8 rfl (fun hc23=> ?_) (fun hc23=> ?_)
  ·first|cases hc23|exact absurd hc23 (by decide)|(exfalso;simp_all;done)
  ·refine rn ?_;refine qq rfl rfl (u2 rfl rfl (by decide) (by decide)) ?_
   refine rn ?_;refine z7 rfl (x6 rfl fun b9=> ?_)
   refine rn ?_;refine z8 rfl (fun hc45=> ?_) (fun hc45=> ?_)
   ·refine rn ?_;have hd:y8 s=(65533,1):=by
     unfold y8
     rw [if_neg (by omega)]
     simp only [hx]
     rw [if_neg (by decide),if_pos (show (s.size:Int) < (35:Int) % 8 from oT hc45)]
    exact zbo rfl rfl (.drop1 _ _ _) ⟨rfl,by rw [hd];rfl⟩
   ·have h2:3≤s.size:=by
     have:¬((s.size:Int) < 3):=oF hc45
     omega
    refine rn ?_;refine qq rfl rfl (u0 1 rfl rfl (by omega)) ?_
    refine rn ?_;refine q9 (fun hg14_4=> ?_) (fun hg14_4=> ?_)
    ·refine rn ?_;refine z8 rfl (fun hc57=> ?_) (fun hc57=> ?_)
     ·refine rn ?_;have hd:y8 s=(65533,1):=by
       unfold y8
       rw [if_neg (by omega)]
       simp only [hx]
       rw [if_neg (by decide),if_neg (show ¬(s.size:Int) < (35:Int) % 8 from oF hc45),if_pos (show bt s 1 < zbm ((35:Int) / 16).toNat∨zbn ((35:Int) / 16).toNat < bt s 1 from by first|exact .inl (oT hg14_4)|exact .inr (oT hc57))]
      exact zbo rfl rfl (.drop1 _ _ _) ⟨rfl,by rw [hd];rfl⟩
     ·first|cases hc57|exact absurd hc57 (by decide)|(exfalso;simp_all;done)
    ·refine rn ?_;refine z8 rfl (fun hc57=> ?_) (fun hc57=> ?_)
     ·refine rn ?_;have hd:y8 s=(65533,1):=by
       unfold y8
       rw [if_neg (by omega)]
       simp only [hx]
       rw [if_neg (by decide),if_neg (show ¬(s.size:Int) < (35:Int) % 8 from oF hc45),if_pos (show bt s 1 < zbm ((35:Int) / 16).toNat∨zbn ((35:Int) / 16).toNat < bt s 1 from by first|exact .inl (oT hg14_4)|exact .inr (oT hc57))]
      exact zbo rfl rfl (.drop1 _ _ _) ⟨rfl,by rw [hd];rfl⟩
     ·refine rn ?_;refine z8 rfl (fun hc59=> ?_) (fun hc59=> ?_)
      ·first|cases hc59|exact absurd hc59 (by decide)|(exfalso;simp_all;done)
      ·refine rn ?_;refine qq rfl rfl (u0 2 rfl rfl (by omega)) ?_
       refine rn ?_;refine q9 (fun hg19_2=> ?_) (fun hg19_2=> ?_)
       ·refine rn ?_;refine z8 rfl (fun hc75=> ?_) (fun hc75=> ?_)
        ·refine rn ?_;have hd:y8 s=(65533,1):=by
          unfold y8
          rw [if_neg (by omega)]
          simp only [hx]
          rw [if_neg (by decide),if_neg (show ¬(s.size:Int) < (35:Int) % 8 from oF hc45),if_neg (show ¬(bt s 1 < zbm ((35:Int) / 16).toNat∨zbn ((35:Int) / 16).toNat < bt s 1) from fun q=>q.elim (oF hg14_4) (oF hc57)),if_neg (by decide),if_pos (show bt s 2 < 128∨191 < bt s 2 from by first|exact .inl (oT hg19_2)|exact .inr (oT hc75))]
         exact zbo rfl rfl (.drop1 _ _ _) ⟨rfl,by rw [hd];rfl⟩
        ·first|cases hc75|exact absurd hc75 (by decide)|(exfalso;simp_all;done)
       ·refine rn ?_;refine z8 rfl (fun hc75=> ?_) (fun hc75=> ?_)
        ·refine rn ?_;have hd:y8 s=(65533,1):=by
          unfold y8
          rw [if_neg (by omega)]
          simp only [hx]
          rw [if_neg (by decide),if_neg (show ¬(s.size:Int) < (35:Int) % 8 from oF hc45),if_neg (show ¬(bt s 1 < zbm ((35:Int) / 16).toNat∨zbn ((35:Int) / 16).toNat < bt s 1) from fun q=>q.elim (oF hg14_4) (oF hc57)),if_neg (by decide),if_pos (show bt s 2 < 128∨191 < bt s 2 from by first|exact .inl (oT hg19_2)|exact .inr (oT hc75))]
         exact zbo rfl rfl (.drop1 _ _ _) ⟨rfl,by rw [hd];rfl⟩
        ·refine rn ?_;refine z8 rfl (fun hc77=> ?_) (fun hc77=> ?_)
         ·refine rn ?_;have hd:y8 s=(bI .or .i32 (bI .or .i32 (zce (bt s 0) 15 12) (zce (bt s 1) 63 6)) (zce (bt s 2) 63 0),3):=by
           unfold y8
           rw [if_neg (by omega)]
           simp only [hx]
           rw [if_neg (by decide),if_neg (show ¬(s.size:Int) < (35:Int) % 8 from oF hc45),if_neg (show ¬(bt s 1 < zbm ((35:Int) / 16).toNat∨zbn ((35:Int) / 16).toNat < bt s 1) from fun q=>q.elim (oF hg14_4) (oF hc57)),if_neg (by decide),if_neg (show ¬(bt s 2 < 128∨191 < bt s 2) from fun q=>q.elim (oF hg19_2) (oF hc75)),if_pos (by decide)]
          exact zbo rfl rfl (.drop1 _ _ _) ⟨rfl,by rw [hd];rfl⟩
         ·first|cases hc77|exact absurd hc77 (by decide)|(exfalso;simp_all;done)
theorem zpd (s:ByteArray) (hx:zb5 (bt s 0).toNat=52):x3 Tryz.prog 227 [.v (.string s)] [.glob 5 276 y9,.glob 6 279 y4] (fun r h'=>h'= [.glob 5 276 y9,.glob 6 279 y4]∧r= .tup [.v (.int .i32 (y8 s).1),iv (y8 s).2]):=by
 refine z6 Tryz.func227 rfl rfl rfl ?_
 refine rn ?_;refine z8 rfl (fun hc16=> ?_) (fun hc16=> ?_)
 ·refine rn ?_;have hd:y8 s=(65533,0):=by
   unfold y8
   rw [if_pos (by simp at hc16;omega)]
  exact zbo rfl rfl (.refl _ _) ⟨rfl,by rw [hd];rfl⟩
 ·have h1:0 < s.size:=by simp at hc16;omega
  refine rn ?_;refine qq rfl rfl (u0 0 rfl rfl (by omega)) ?_
  refine rn ?_;refine qq rfl rfl (u2 rfl rfl (zff _ _) (zfe _ _)) ?_
  refine qq rfl rfl (j4 rfl (show _=some (.v (.int .u8 52)) from by rw [zb8 (zff s 0) (zfe s 0),hx])) ?_
  refine rn ?_;refine z8 rfl (fun hc23=> ?_) (fun hc23=> ?_)
  ·first|cases hc23|exact absurd hc23 (by decide)|(exfalso;simp_all;done)
  ·refine rn ?_;refine qq rfl rfl (u2 rfl rfl (by decide) (by decide)) ?_
   refine rn ?_;refine z7 rfl (x6 rfl fun b9=> ?_)
   refine rn ?_;refine z8 rfl (fun hc45=> ?_) (fun hc45=> ?_)
   ·refine rn ?_;have hd:y8 s=(65533,1):=by
     unfold y8
     rw [if_neg (by omega)]
     simp only [hx]
     rw [if_neg (by decide),if_pos (show (s.size:Int) < (52:Int) % 8 from oT hc45)]
    exact zbo rfl rfl (.drop1 _ _ _) ⟨rfl,by rw [hd];rfl⟩
   ·have h2:4≤s.size:=by
     have:¬((s.size:Int) < 4):=oF hc45
     omega
    refine rn ?_;refine qq rfl rfl (u0 1 rfl rfl (by omega)) ?_
    refine rn ?_;refine q9 (fun hg14_4=> ?_) (fun hg14_4=> ?_)
    ·refine rn ?_;refine z8 rfl (fun hc57=> ?_) (fun hc57=> ?_)
     ·refine rn ?_;have hd:y8 s=(65533,1):=by
       unfold y8
       rw [if_neg (by omega)]
       simp only [hx]
       rw [if_neg (by decide),if_neg (show ¬(s.size:Int) < (52:Int) % 8 from oF hc45),if_pos (show bt s 1 < zbm ((52:Int) / 16).toNat∨zbn ((52:Int) / 16).toNat < bt s 1 from by first|exact .inl (oT hg14_4)|exact .inr (oT hc57))]
      exact zbo rfl rfl (.drop1 _ _ _) ⟨rfl,by rw [hd];rfl⟩
     ·first|cases hc57|exact absurd hc57 (by decide)|(exfalso;simp_all;done)
    ·refine rn ?_;refine z8 rfl (fun hc57=> ?_) (fun hc57=> ?_)
     ·refine rn ?_;have hd:y8 s=(65533,1):=by
       unfold y8
       rw [if_neg (by omega)]
       simp only [hx]
       rw [if_neg (by decide),if_neg (show ¬(s.size:Int) < (52:Int) % 8 from oF hc45),if_pos (show bt s 1 < zbm ((52:Int) / 16).toNat∨zbn ((52:Int) / 16).toNat < bt s 1 from by first|exact .inl (oT hg14_4)|exact .inr (oT hc57))]
      exact zbo rfl rfl (.drop1 _ _ _) ⟨rfl,by rw [hd];rfl⟩
     ·refine rn ?_;refine z8 rfl (fun hc59=> ?_) (fun hc59=> ?_)
      ·first|cases hc59|exact absurd hc59 (by decide)|(exfalso;simp_all;done)
      ·refine rn ?_;refine qq rfl rfl (u0 2 rfl rfl (by omega)) ?_
       refine rn ?_;refine q9 (fun hg19_2=> ?_) (fun hg19_2=> ?_)
       ·refine rn ?_;refine z8 rfl (fun hc75=> ?_) (fun hc75=> ?_)
        ·refine rn ?_;have hd:y8 s=(65533,1):=by
          unfold y8
          rw [if_neg (by omega)]
          simp only [hx]
          rw [if_neg (by decide),if_neg (show ¬(s.size:Int) < (52:Int) % 8 from oF hc45),if_neg (show ¬(bt s 1 < zbm ((52:Int) / 16).toNat∨zbn ((52:Int) / 16).toNat < bt s 1) from fun q=>q.elim (oF hg14_4) (oF hc57)),if_neg (by decide),if_pos (show bt s 2 < 128∨191 < bt s 2 from by first|exact .inl (oT hg19_2)|exact .inr (oT hc75))]
         exact zbo rfl rfl (.drop1 _ _ _) ⟨rfl,by rw [hd];rfl⟩
        ·first|cases hc75|exact absurd hc75 (by decide)|(exfalso;simp_all;done)
       ·refine rn ?_;refine z8 rfl (fun hc75=> ?_) (fun hc75=> ?_)
        ·refine rn ?_;have hd:y8 s=(65533,1):=by
          unfold y8
          rw [if_neg (by omega)]
          simp only [hx]
          rw [if_neg (by decide),if_neg (show ¬(s.size:Int) < (52:Int) % 8 from oF hc45),if_neg (show ¬(bt s 1 < zbm ((52:Int) / 16).toNat∨zbn ((52:Int) / 16).toNat < bt s 1) from fun q=>q.elim (oF hg14_4) (oF hc57)),if_neg (by decide),if_pos (show bt s 2 < 128∨191 < bt s 2 from by first|exact .inl (oT hg19_2)|exact .inr (oT hc75))]
         exact zbo rfl rfl (.drop1 _ _ _) ⟨rfl,by rw [hd];rfl⟩
        ·refine rn ?_;refine z8 rfl (fun hc77=> ?_) (fun hc77=> ?_)
         ·first|cases hc77|exact absurd hc77 (by decide)|(exfalso;simp_all;done)
         ·refine rn ?_;refine qq rfl rfl (u0 3 rfl rfl (by omega)) ?_
          refine rn ?_;refine q9 (fun hg24_2=> ?_) (fun hg24_2=> ?_)
          ·refine rn ?_;refine z8 rfl (fun hc98=> ?_) (fun hc98=> ?_)
           ·refine rn ?_;have hd:y8 s=(65533,1):=by
             unfold y8
             rw [if_neg (by omega)]
             simp only [hx]
             rw [if_neg (by decide),if_neg (show ¬(s.size:Int) < (52:Int) % 8 from oF hc45),if_neg (show ¬(bt s 1 < zbm ((52:Int) / 16).toNat∨zbn ((52:Int) / 16).toNat < bt s 1) from fun q=>q.elim (oF hg14_4) (oF hc57)),if_neg (by decide),if_neg (show ¬(bt s 2 < 128∨191 < bt s 2) from fun q=>q.elim (oF hg19_2) (oF hc75)),if_neg (by decide),if_pos (show bt s 3 < 128∨191 < bt s 3 from by first|exact .inl (oT hg24_2)|exact .inr (oT hc98))]
            exact zbo rfl rfl (.drop1 _ _ _) ⟨rfl,by rw [hd];rfl⟩
           ·first|cases hc98|exact absurd hc98 (by decide)|(exfalso;simp_all;done)
          ·refine rn ?_;refine z8 rfl (fun hc98=> ?_) (fun hc98=> ?_)
           ·refine rn ?_;have hd:y8 s=(65533,1):=by
             unfold y8
             rw [if_neg (by omega)]
             simp only [hx]
             rw [if_neg (by decide),if_neg (show ¬(s.size:Int) < (52:Int) % 8 from oF hc45),if_neg (show ¬(bt s 1 < zbm ((52:Int) / 16).toNat∨zbn ((52:Int) / 16).toNat < bt s 1) from fun q=>q.elim (oF hg14_4) (oF hc57)),if_neg (by decide),if_neg (show ¬(bt s 2 < 128∨191 < bt s 2) from fun q=>q.elim (oF hg19_2) (oF hc75)),if_neg (by decide),if_pos (show bt s 3 < 128∨191 < bt s 3 from by first|exact .inl (oT hg24_2)|exact .inr (oT hc98))]
            exact zbo rfl rfl (.drop1 _ _ _) ⟨rfl,by rw [hd];rfl⟩
           ·refine rn ?_;have hd:y8 s=(bI .or .i32 (bI .or .i32 (bI .or .i32 (zce (bt s 0) 7 18) (zce (bt s 1) 63 12)) (zce (bt s 2) 63 6)) (zce (bt s 3) 63 0),4):=by
             unfold y8
             rw [if_neg (by omega)]
             simp only [hx]
             rw [if_neg (by decide),if_neg (show ¬(s.size:Int) < (52:Int) % 8 from oF hc45),if_neg (show ¬(bt s 1 < zbm ((52:Int) / 16).toNat∨zbn ((52:Int) / 16).toNat < bt s 1) from fun q=>q.elim (oF hg14_4) (oF hc57)),if_neg (by decide),if_neg (show ¬(bt s 2 < 128∨191 < bt s 2) from fun q=>q.elim (oF hg19_2) (oF hc75)),if_neg (by decide),if_neg (show ¬(bt s 3 < 128∨191 < bt s 3) from fun q=>q.elim (oF hg24_2) (oF hc98))]
            exact zbo rfl rfl (.drop1 _ _ _) ⟨rfl,by rw [hd];rfl⟩
theorem zro (s:ByteArray) (hx:zb5 (bt s 0).toNat=4):x3 Tryz.prog 227 [.v (.string s)] [.glob 5 276 y9,.glob 6 279 y4] (fun r h'=>h'= [.glob 5 276 y9,.glob 6 279 y4]∧r= .tup [.v (.int .i32 (y8 s).1),iv (y8 s).2]):=by
 refine z6 Tryz.func227 rfl rfl rfl ?_
 refine rn ?_;refine z8 rfl (fun hc16=> ?_) (fun hc16=> ?_)
 ·refine rn ?_;have hd:y8 s=(65533,0):=by
   unfold y8
   rw [if_pos (by simp at hc16;omega)]
  exact zbo rfl rfl (.refl _ _) ⟨rfl,by rw [hd];rfl⟩
 ·have h1:0 < s.size:=by simp at hc16;omega
  refine rn ?_;refine qq rfl rfl (u0 0 rfl rfl (by omega)) ?_
  refine rn ?_;refine qq rfl rfl (u2 rfl rfl (zff _ _) (zfe _ _)) ?_
  refine qq rfl rfl (j4 rfl (show _=some (.v (.int .u8 4)) from by rw [zb8 (zff s 0) (zfe s 0),hx])) ?_
  refine rn ?_;refine z8 rfl (fun hc23=> ?_) (fun hc23=> ?_)
  ·first|cases hc23|exact absurd hc23 (by decide)|(exfalso;simp_all;done)
  ·refine rn ?_;refine qq rfl rfl (u2 rfl rfl (by decide) (by decide)) ?_
   refine rn ?_;refine z7 rfl (x6 rfl fun b9=> ?_)
   refine rn ?_;refine z8 rfl (fun hc45=> ?_) (fun hc45=> ?_)
   ·refine rn ?_;have hd:y8 s=(65533,1):=by
     unfold y8
     rw [if_neg (by omega)]
     simp only [hx]
     rw [if_neg (by decide),if_pos (show (s.size:Int) < (4:Int) % 8 from oT hc45)]
    exact zbo rfl rfl (.drop1 _ _ _) ⟨rfl,by rw [hd];rfl⟩
   ·have h2:4≤s.size:=by
     have:¬((s.size:Int) < 4):=oF hc45
     omega
    refine rn ?_;refine qq rfl rfl (u0 1 rfl rfl (by omega)) ?_
    refine rn ?_;refine q9 (fun hg14_4=> ?_) (fun hg14_4=> ?_)
    ·refine rn ?_;refine z8 rfl (fun hc57=> ?_) (fun hc57=> ?_)
     ·refine rn ?_;have hd:y8 s=(65533,1):=by
       unfold y8
       rw [if_neg (by omega)]
       simp only [hx]
       rw [if_neg (by decide),if_neg (show ¬(s.size:Int) < (4:Int) % 8 from oF hc45),if_pos (show bt s 1 < zbm ((4:Int) / 16).toNat∨zbn ((4:Int) / 16).toNat < bt s 1 from by first|exact .inl (oT hg14_4)|exact .inr (oT hc57))]
      exact zbo rfl rfl (.drop1 _ _ _) ⟨rfl,by rw [hd];rfl⟩
     ·first|cases hc57|exact absurd hc57 (by decide)|(exfalso;simp_all;done)
    ·refine rn ?_;refine z8 rfl (fun hc57=> ?_) (fun hc57=> ?_)
     ·refine rn ?_;have hd:y8 s=(65533,1):=by
       unfold y8
       rw [if_neg (by omega)]
       simp only [hx]
       rw [if_neg (by decide),if_neg (show ¬(s.size:Int) < (4:Int) % 8 from oF hc45),if_pos (show bt s 1 < zbm ((4:Int) / 16).toNat∨zbn ((4:Int) / 16).toNat < bt s 1 from by first|exact .inl (oT hg14_4)|exact .inr (oT hc57))]
      exact zbo rfl rfl (.drop1 _ _ _) ⟨rfl,by rw [hd];rfl⟩
     ·refine rn ?_;refine z8 rfl (fun hc59=> ?_) (fun hc59=> ?_)
      ·first|cases hc59|exact absurd hc59 (by decide)|(exfalso;simp_all;done)
      ·refine rn ?_;refine qq rfl rfl (u0 2 rfl rfl (by omega)) ?_
       refine rn ?_;refine q9 (fun hg19_2=> ?_) (fun hg19_2=> ?_)
       ·refine rn ?_;refine z8 rfl (fun hc75=> ?_) (fun hc75=> ?_)
        ·refine rn ?_;have hd:y8 s=(65533,1):=by
          unfold y8
          rw [if_neg (by omega)]
          simp only [hx]
          rw [if_neg (by decide),if_neg (show ¬(s.size:Int) < (4:Int) % 8 from oF hc45),if_neg (show ¬(bt s 1 < zbm ((4:Int) / 16).toNat∨zbn ((4:Int) / 16).toNat < bt s 1) from fun q=>q.elim (oF hg14_4) (oF hc57)),if_neg (by decide),if_pos (show bt s 2 < 128∨191 < bt s 2 from by first|exact .inl (oT hg19_2)|exact .inr (oT hc75))]
         exact zbo rfl rfl (.drop1 _ _ _) ⟨rfl,by rw [hd];rfl⟩
        ·first|cases hc75|exact absurd hc75 (by decide)|(exfalso;simp_all;done)
       ·refine rn ?_;refine z8 rfl (fun hc75=> ?_) (fun hc75=> ?_)
        ·refine rn ?_;have hd:y8 s=(65533,1):=by
          unfold y8
          rw [if_neg (by omega)]
          simp only [hx]
          rw [if_neg (by decide),if_neg (show ¬(s.size:Int) < (4:Int) % 8 from oF hc45),if_neg (show ¬(bt s 1 < zbm ((4:Int) / 16).toNat∨zbn ((4:Int) / 16).toNat < bt s 1) from fun q=>q.elim (oF hg14_4) (oF hc57)),if_neg (by decide),if_pos (show bt s 2 < 128∨191 < bt s 2 from by first|exact .inl (oT hg19_2)|exact .inr (oT hc75))]
         exact zbo rfl rfl (.drop1 _ _ _) ⟨rfl,by rw [hd];rfl⟩
        ·refine rn ?_;refine z8 rfl (fun hc77=> ?_) (fun hc77=> ?_)
         ·first|cases hc77|exact absurd hc77 (by decide)|(exfalso;simp_all;done)
         ·refine rn ?_;refine qq rfl rfl (u0 3 rfl rfl (by omega)) ?_
          refine rn ?_;refine q9 (fun hg24_2=> ?_) (fun hg24_2=> ?_)
          ·refine rn ?_;refine z8 rfl (fun hc98=> ?_) (fun hc98=> ?_)
           ·refine rn ?_;have hd:y8 s=(65533,1):=by
             unfold y8
             rw [if_neg (by omega)]
             simp only [hx]
             rw [if_neg (by decide),if_neg (show ¬(s.size:Int) < (4:Int) % 8 from oF hc45),if_neg (show ¬(bt s 1 < zbm ((4:Int) / 16).toNat∨zbn ((4:Int) / 16).toNat < bt s 1) from fun q=>q.elim (oF hg14_4) (oF hc57)),if_neg (by decide),if_neg (show ¬(bt s 2 < 128∨191 < bt s 2) from fun q=>q.elim (oF hg19_2) (oF hc75)),if_neg (by decide),if_pos (show bt s 3 < 128∨191 < bt s 3 from by first|exact .inl (oT hg24_2)|exact .inr (oT hc98))]
            exact zbo rfl rfl (.drop1 _ _ _) ⟨rfl,by rw [hd];rfl⟩
           ·first|cases hc98|exact absurd hc98 (by decide)|(exfalso;simp_all;done)
          ·refine rn ?_;refine z8 rfl (fun hc98=> ?_) (fun hc98=> ?_)
           ·refine rn ?_;have hd:y8 s=(65533,1):=by
             unfold y8
             rw [if_neg (by omega)]
             simp only [hx]
             rw [if_neg (by decide),if_neg (show ¬(s.size:Int) < (4:Int) % 8 from oF hc45),if_neg (show ¬(bt s 1 < zbm ((4:Int) / 16).toNat∨zbn ((4:Int) / 16).toNat < bt s 1) from fun q=>q.elim (oF hg14_4) (oF hc57)),if_neg (by decide),if_neg (show ¬(bt s 2 < 128∨191 < bt s 2) from fun q=>q.elim (oF hg19_2) (oF hc75)),if_neg (by decide),if_pos (show bt s 3 < 128∨191 < bt s 3 from by first|exact .inl (oT hg24_2)|exact .inr (oT hc98))]
            exact zbo rfl rfl (.drop1 _ _ _) ⟨rfl,by rw [hd];rfl⟩
           ·refine rn ?_;have hd:y8 s=(bI .or .i32 (bI .or .i32 (bI .or .i32 (zce (bt s 0) 7 18) (zce (bt s 1) 63 12)) (zce (bt s 2) 63 6)) (zce (bt s 3) 63 0),4):=by
             unfold y8
             rw [if_neg (by omega)]
             simp only [hx]
             rw [if_neg (by decide),if_neg (show ¬(s.size:Int) < (4:Int) % 8 from oF hc45),if_neg (show ¬(bt s 1 < zbm ((4:Int) / 16).toNat∨zbn ((4:Int) / 16).toNat < bt s 1) from fun q=>q.elim (oF hg14_4) (oF hc57)),if_neg (by decide),if_neg (show ¬(bt s 2 < 128∨191 < bt s 2) from fun q=>q.elim (oF hg19_2) (oF hc75)),if_neg (by decide),if_neg (show ¬(bt s 3 < 128∨191 < bt s 3) from fun q=>q.elim (oF hg24_2) (oF hc98))]
            exact zbo rfl rfl (.drop1 _ _ _) ⟨rfl,by rw [hd];rfl⟩
theorem zpc (s:ByteArray) (hx:zb5 (bt s 0).toNat=68):x3 Tryz.prog 227 [.v (.string s)] [.glob 5 276 y9,.glob 6 279 y4] (fun r h'=>h'= [.glob 5 276 y9,.glob 6 279 y4]∧r= .tup [.v (.int .i32 (y8 s).1),iv (y8 s).2]):=by
 refine z6 Tryz.func227 rfl rfl rfl ?_
 refine rn ?_;refine z8 rfl (fun hc16=> ?_) (fun hc16=> ?_)
 ·refine rn ?_;have hd:y8 s=(65533,0):=by
   unfold y8
   rw [if_pos (by simp at hc16;omega)]
  exact zbo rfl rfl (.refl _ _) ⟨rfl,by rw [hd];rfl⟩
 ·have h1:0 < s.size:=by simp at hc16;omega
  refine rn ?_;refine qq rfl rfl (u0 0 rfl rfl (by omega)) ?_
  refine rn ?_;refine qq rfl rfl (u2 rfl rfl (zff _ _) (zfe _ _)) ?_
  refine qq rfl rfl (j4 rfl (show _=some (.v (.int .u8 68)) from by rw [zb8 (zff s 0) (zfe s 0),hx])) ?_
  refine rn ?_;refine z8 rfl (fun hc23=> ?_) (fun hc23=> ?_)
  ·first|cases hc23|exact absurd hc23 (by decide)|(exfalso;simp_all;done)
  ·refine rn ?_;refine qq rfl rfl (u2 rfl rfl (by decide) (by decide)) ?_
   refine rn ?_;refine z7 rfl (x6 rfl fun b9=> ?_)
   refine rn ?_;refine z8 rfl (fun hc45=> ?_) (fun hc45=> ?_)
   ·refine rn ?_;have hd:y8 s=(65533,1):=by
     unfold y8
     rw [if_neg (by omega)]
     simp only [hx]
     rw [if_neg (by decide),if_pos (show (s.size:Int) < (68:Int) % 8 from oT hc45)]
    exact zbo rfl rfl (.drop1 _ _ _) ⟨rfl,by rw [hd];rfl⟩
   ·have h2:4≤s.size:=by
     have:¬((s.size:Int) < 4):=oF hc45
     omega
    refine rn ?_;refine qq rfl rfl (u0 1 rfl rfl (by omega)) ?_
    refine rn ?_;refine q9 (fun hg14_4=> ?_) (fun hg14_4=> ?_)
    ·refine rn ?_;refine z8 rfl (fun hc57=> ?_) (fun hc57=> ?_)
     ·refine rn ?_;have hd:y8 s=(65533,1):=by
       unfold y8
       rw [if_neg (by omega)]
       simp only [hx]
       rw [if_neg (by decide),if_neg (show ¬(s.size:Int) < (68:Int) % 8 from oF hc45),if_pos (show bt s 1 < zbm ((68:Int) / 16).toNat∨zbn ((68:Int) / 16).toNat < bt s 1 from by first|exact .inl (oT hg14_4)|exact .inr (oT hc57))]
      exact zbo rfl rfl (.drop1 _ _ _) ⟨rfl,by rw [hd];rfl⟩
     ·first|cases hc57|exact absurd hc57 (by decide)|(exfalso;simp_all;done)
    ·refine rn ?_;refine z8 rfl (fun hc57=> ?_) (fun hc57=> ?_)
     ·refine rn ?_;have hd:y8 s=(65533,1):=by
       unfold y8
       rw [if_neg (by omega)]
       simp only [hx]
       rw [if_neg (by decide),if_neg (show ¬(s.size:Int) < (68:Int) % 8 from oF hc45),if_pos (show bt s 1 < zbm ((68:Int) / 16).toNat∨zbn ((68:Int) / 16).toNat < bt s 1 from by first|exact .inl (oT hg14_4)|exact .inr (oT hc57))]
      exact zbo rfl rfl (.drop1 _ _ _) ⟨rfl,by rw [hd];rfl⟩
     ·refine rn ?_;refine z8 rfl (fun hc59=> ?_) (fun hc59=> ?_)
      ·first|cases hc59|exact absurd hc59 (by decide)|(exfalso;simp_all;done)
      ·refine rn ?_;refine qq rfl rfl (u0 2 rfl rfl (by omega)) ?_
       refine rn ?_;refine q9 (fun hg19_2=> ?_) (fun hg19_2=> ?_)
       ·refine rn ?_;refine z8 rfl (fun hc75=> ?_) (fun hc75=> ?_)
        ·refine rn ?_;have hd:y8 s=(65533,1):=by
          unfold y8
          rw [if_neg (by omega)]
          simp only [hx]
          rw [if_neg (by decide),if_neg (show ¬(s.size:Int) < (68:Int) % 8 from oF hc45),if_neg (show ¬(bt s 1 < zbm ((68:Int) / 16).toNat∨zbn ((68:Int) / 16).toNat < bt s 1) from fun q=>q.elim (oF hg14_4) (oF hc57)),if_neg (by decide),if_pos (show bt s 2 < 128∨191 < bt s 2 from by first|exact .inl (oT hg19_2)|exact .inr (oT hc75))]
         exact zbo rfl rfl (.drop1 _ _ _) ⟨rfl,by rw [hd];rfl⟩
        ·first|cases hc75|exact absurd hc75 (by decide)|(exfalso;simp_all;done)
       ·refine rn ?_;refine z8 rfl (fun hc75=> ?_) (fun hc75=> ?_)
        ·refine rn ?_;have hd:y8 s=(65533,1):=by
          unfold y8
          rw [if_neg (by omega)]
          simp only [hx]
          rw [if_neg (by decide),if_neg (show ¬(s.size:Int) < (68:Int) % 8 from oF hc45),if_neg (show ¬(bt s 1 < zbm ((68:Int) / 16).toNat∨zbn ((68:Int) / 16).toNat < bt s 1) from fun q=>q.elim (oF hg14_4) (oF hc57)),if_neg (by decide),if_pos (show bt s 2 < 128∨191 < bt s 2 from by first|exact .inl (oT hg19_2)|exact .inr (oT hc75))]
         exact zbo rfl rfl (.drop1 _ _ _) ⟨rfl,by rw [hd];rfl⟩
        ·refine rn ?_;refine z8 rfl (fun hc77=> ?_) (fun hc77=> ?_)
         ·first|cases hc77|exact absurd hc77 (by decide)|(exfalso;simp_all;done)
         ·refine rn ?_;refine qq rfl rfl (u0 3 rfl rfl (by omega)) ?_
          refine rn ?_;refine q9 (fun hg24_2=> ?_) (fun hg24_2=> ?_)
          ·refine rn ?_;refine z8 rfl (fun hc98=> ?_) (fun hc98=> ?_)
           ·refine rn ?_;have hd:y8 s=(65533,1):=by
             unfold y8
             rw [if_neg (by omega)]
             simp only [hx]
             rw [if_neg (by decide),if_neg (show ¬(s.size:Int) < (68:Int) % 8 from oF hc45),if_neg (show ¬(bt s 1 < zbm ((68:Int) / 16).toNat∨zbn ((68:Int) / 16).toNat < bt s 1) from fun q=>q.elim (oF hg14_4) (oF hc57)),if_neg (by decide),if_neg (show ¬(bt s 2 < 128∨191 < bt s 2) from fun q=>q.elim (oF hg19_2) (oF hc75)),if_neg (by decide),if_pos (show bt s 3 < 128∨191 < bt s 3 from by first|exact .inl (oT hg24_2)|exact .inr (oT hc98))]
            exact zbo rfl rfl (.drop1 _ _ _) ⟨rfl,by rw [hd];rfl⟩
           ·first|cases hc98|exact absurd hc98 (by decide)|(exfalso;simp_all;done)
          ·refine rn ?_;refine z8 rfl (fun hc98=> ?_) (fun hc98=> ?_)
           ·refine rn ?_;have hd:y8 s=(65533,1):=by
             unfold y8
             rw [if_neg (by omega)]
             simp only [hx]
             rw [if_neg (by decide),if_neg (show ¬(s.size:Int) < (68:Int) % 8 from oF hc45),if_neg (show ¬(bt s 1 < zbm ((68:Int) / 16).toNat∨zbn ((68:Int) / 16).toNat < bt s 1) from fun q=>q.elim (oF hg14_4) (oF hc57)),if_neg (by decide),if_neg (show ¬(bt s 2 < 128∨191 < bt s 2) from fun q=>q.elim (oF hg19_2) (oF hc75)),if_neg (by decide),if_pos (show bt s 3 < 128∨191 < bt s 3 from by first|exact .inl (oT hg24_2)|exact .inr (oT hc98))]
            exact zbo rfl rfl (.drop1 _ _ _) ⟨rfl,by rw [hd];rfl⟩
           ·refine rn ?_;have hd:y8 s=(bI .or .i32 (bI .or .i32 (bI .or .i32 (zce (bt s 0) 7 18) (zce (bt s 1) 63 12)) (zce (bt s 2) 63 6)) (zce (bt s 3) 63 0),4):=by
             unfold y8
             rw [if_neg (by omega)]
             simp only [hx]
             rw [if_neg (by decide),if_neg (show ¬(s.size:Int) < (68:Int) % 8 from oF hc45),if_neg (show ¬(bt s 1 < zbm ((68:Int) / 16).toNat∨zbn ((68:Int) / 16).toNat < bt s 1) from fun q=>q.elim (oF hg14_4) (oF hc57)),if_neg (by decide),if_neg (show ¬(bt s 2 < 128∨191 < bt s 2) from fun q=>q.elim (oF hg19_2) (oF hc75)),if_neg (by decide),if_neg (show ¬(bt s 3 < 128∨191 < bt s 3) from fun q=>q.elim (oF hg24_2) (oF hc98))]
            exact zbo rfl rfl (.drop1 _ _ _) ⟨rfl,by rw [hd];rfl⟩
theorem zme (s:ByteArray):x3 Tryz.prog 227 [.v (.string s)] [.glob 5 276 y9,.glob 6 279 y4] (fun r h'=>h'= [.glob 5 276 y9,.glob 6 279 y4]∧r= .tup [.v (.int .i32 (y8 s).1),iv (y8 s).2]):=by
 rcases zo6 (bt s 0).toNat with hx|hx|hx|hx|hx|hx|hx|hx|hx
 ·exact znl s hx
 ·exact znk s hx
 ·exact zrq s hx
 ·exact zpf s hx
 ·exact zrp s hx
 ·exact zpe s hx
 ·exact zpd s hx
 ·exact zro s hx
 ·exact zpc s hx
theorem zux (s:ByteArray):x3 Tryz.prog 221 [.v (.string s)] [.glob 5 276 y9,.glob 6 279 y4] (fun r h'=>h'= [.glob 5 276 y9,.glob 6 279 y4]∧r= .tup [.v (.int .i32 (zhs s).1),iv (zhs s).2]):=by
 refine z6 Tryz.func221 rfl rfl rfl ?_
 refine rn ?_;refine q9 (fun hg1_2=> ?_) (fun hg1_2=> ?_)
 ·refine rn ?_;have h1:0 < s.size:=zvo hg1_2
  refine qq rfl rfl (u0 0 rfl rfl (by omega)) ?_
  refine rn ?_;refine z8 rfl (fun hc10=> ?_) (fun hc10=> ?_)
  ·refine rn ?_;refine qq rfl rfl (u0 0 rfl rfl (by omega)) ?_
   refine rn ?_;have hd:zhs s=(bt s 0,1):=by
    unfold zhs
    exact if_pos ⟨zvo hg1_2,oT hc10⟩
   exact zbo rfl rfl (.refl _ _) ⟨rfl,by rw [hd];exact congrArg (fun c=>AV.tup [.v (.int .i32 c),iv 1]) (zya s 0)⟩
  ·refine rn ?_;refine qv rfl rfl (y6 rfl rfl (y3.of_fun (zme s))) ?_
   refine rn ?_;have hd:zhs s=y8 s:=by
    unfold zhs
    exact if_neg fun q=>by first|exact ycj hg1_2 q.1|exact absurd q.2 (oF hc10)
   exact zbo rfl rfl (.refl _ _) ⟨rfl,by rw [hd];rfl⟩
 ·refine rn ?_;refine zpv rfl ?_;refine rn ?_;refine qv rfl rfl (y6 rfl rfl (y3.of_fun (zme s))) ?_
  refine rn ?_;have hd:zhs s=y8 s:=by
   unfold zhs
   exact if_neg fun q=>by first|exact ycj hg1_2 q.1|exact absurd q.2 (oF hc10)
  exact zbo rfl rfl (.refl _ _) ⟨rfl,by rw [hd];rfl⟩
theorem ybq {f g:Bool} (l m:List Int) (hl:l.length≤4611686018427387904) (hm:m.length≤4611686018427387904):x3 Tryz.prog 39 [.list f 1 (l.map zba),.list g 1 (m.map zba)] [] (fun r h'=>h'= []∧r=bv (eqF zuo l m)):=by
 refine z6 Tryz.func39 rfl rfl rfl ?_
 refine rn ?_;refine z8 rfl (fun hc10=> ?_) (fun hc10=> ?_)
 ·refine rn ?_;have hne:(l.length==m.length)=false:=beq_eq_false_iff_ne.2 fun q=>by simp [q] at hc10
  exact k7 rfl (.refl _ _) ⟨rfl,by rw [eqF,hne,Bool.false_and];rfl⟩
 ·have hlm:l.length=m.length:=by simp at hc10;omega
  refine rn ?_;refine u9 (fun k:Nat=>k≤l.length∧ztt zuo l m=ztt zuo (l.drop k) (m.drop k)) (fun k=>⟨[(13,iv k),(12,iv (l.map zba).length),(0,.list f 1 (l.map zba)),(1,.list g 1 (m.map zba))],[],[]⟩) (fun k=>l.length - k) 0 ⟨Nat.zero_le _,by simp⟩
   (x8 (.cons _ _ _ rfl (.cons _ _ _ rfl (.cons _ _ _ rfl (.cons _ _ _ rfl (.nil)))))) ?_
  rintro k ⟨hk,hz⟩
  refine rn ?_;refine z8 rfl (fun hc14=> ?_) (fun hc14=> ?_)
  ·have hk2:k < l.length:=by simpa using hc14
   have hk3:k < m.length:=by omega
   have hrow1:(l.map zba)[k]? =some (zba l[k]):=by simp [hk2]
   have hrow2:(m.map zba)[k]? =some (zba m[k]):=by simp [hk3]
   have hd1:=List.drop_eq_getElem_cons hk2
   have hd2:=List.drop_eq_getElem_cons hk3
   refine rn ?_;refine j5 8 rfl ?_
   refine rn ?_;refine z8 rfl (fun hc24=> ?_) (fun hc24=> ?_)
   ·refine rn ?_;exact k7 rfl (.refl _ _) ⟨rfl,by rw [eqF,hz,hd1,hd2,ztt,show zuo l[k] m[k]=false from zwj hc24,Bool.false_and,Bool.and_false];rfl⟩
   ·refine rn ?_;exact ⟨k+1,⟨by omega,by rw [hz,hd1,hd2,ztt,show zuo l[k] m[k]=true from zwk hc24,Bool.true_and]⟩,(x8 (.cons _ _ _ rfl (.cons _ _ _ rfl (.cons _ _ _ rfl (.cons _ _ _ rfl (.nil)))))),by omega⟩
  ·have hk3:k=l.length:=by
    have:l.length≤k:=by simpa using hc14
    omega
   refine rn ?_;exact k7 rfl (.refl _ _) ⟨rfl,by rw [eqF,hz,hk3,List.drop_length,zr1,hlm,beq_self_eq_true];rfl⟩
theorem zxu {f g:Bool} (l m:List Seen) (hl:l.length≤4611686018427387904) (hm:m.length≤4611686018427387904):x3 Tryz.prog 129 [.list f 3 (l.map zaw),.list g 3 (m.map zaw)] [] (fun r h'=>h'= []∧r=bv (eqF zin l m)):=by
 refine z6 Tryz.func129 rfl rfl rfl ?_
 refine rn ?_;refine z8 rfl (fun hc10=> ?_) (fun hc10=> ?_)
 ·refine rn ?_;have hne:(l.length==m.length)=false:=beq_eq_false_iff_ne.2 fun q=>by simp [q] at hc10
  exact k7 rfl (.refl _ _) ⟨rfl,by rw [eqF,hne,Bool.false_and];rfl⟩
 ·have hlm:l.length=m.length:=by simp at hc10;omega
  refine rn ?_;refine u9 (fun k:Nat=>k≤l.length∧ztt zin l m=ztt zin (l.drop k) (m.drop k)) (fun k=>⟨[(13,iv k),(12,iv (l.map zaw).length),(0,.list f 3 (l.map zaw)),(1,.list g 3 (m.map zaw))],[],[]⟩) (fun k=>l.length - k) 0 ⟨Nat.zero_le _,by simp⟩
   (x8 (.cons _ _ _ rfl (.cons _ _ _ rfl (.cons _ _ _ rfl (.cons _ _ _ rfl (.nil)))))) ?_
  rintro k ⟨hk,hz⟩
  refine rn ?_;refine z8 rfl (fun hc14=> ?_) (fun hc14=> ?_)
  ·have hk2:k < l.length:=by simpa using hc14
   have hk3:k < m.length:=by omega
   have hrow1:(l.map zaw)[k]? =some (zaw l[k]):=by simp [hk2]
   have hrow2:(m.map zaw)[k]? =some (zaw m[k]):=by simp [hk3]
   have hd1:=List.drop_eq_getElem_cons hk2
   have hd2:=List.drop_eq_getElem_cons hk3
   refine rn ?_;refine j5 8 rfl ?_
   refine rn ?_;refine z8 rfl (fun hc24=> ?_) (fun hc24=> ?_)
   ·refine rn ?_;exact k7 rfl (.refl _ _) ⟨rfl,by rw [eqF,hz,hd1,hd2,ztt,show zin l[k] m[k]=false from zwj hc24,Bool.false_and,Bool.and_false];rfl⟩
   ·refine rn ?_;exact ⟨k+1,⟨by omega,by rw [hz,hd1,hd2,ztt,show zin l[k] m[k]=true from zwk hc24,Bool.true_and]⟩,(x8 (.cons _ _ _ rfl (.cons _ _ _ rfl (.cons _ _ _ rfl (.cons _ _ _ rfl (.nil)))))),by omega⟩
  ·have hk3:k=l.length:=by
    have:l.length≤k:=by simpa using hc14
    omega
   refine rn ?_;exact k7 rfl (.refl _ _) ⟨rfl,by rw [eqF,hz,hk3,List.drop_length,zr1,hlm,beq_self_eq_true];rfl⟩
theorem zui (l:Int):x3 Tryz.prog 176 [iv l] [] (fun r h'=>h'= []∧r=iv (yjf l)):=by
 refine z6 Tryz.func176 rfl rfl rfl ?_
 refine rn ?_;refine q9 (fun hg1_2=> ?_) (fun hg1_2=> ?_)
 ·refine rn ?_;refine zrw rfl ?_;refine rn ?_;exact k7 rfl (.refl _ _) ⟨rfl,congrArg iv (by simp_all [yjf])⟩
 ·refine rn ?_;refine z8 rfl (fun hc8=> ?_) (fun hc8=> ?_)
  ·refine rn ?_;exact k7 rfl (.refl _ _) ⟨rfl,congrArg iv (by simp_all [yjf])⟩
  ·refine rn ?_;exact k7 rfl (.refl _ _) ⟨rfl,congrArg iv (by simp_all [yjf])⟩
theorem zox (c:Int):x3 Tryz.prog 168 [.v (.int .i32 c)] [] (fun r h'=>h'= []∧r=bv (zwi c)):=by
 refine z6 Tryz.func168 rfl rfl rfl ?_
 refine rn ?_;refine q9 (fun hg1_2=> ?_) (fun hg1_2=> ?_)
 ·refine rn ?_;exact k7 rfl (.refl _ _) ⟨rfl,congrArg bv (by first|(simp only [zwi, *,Bool.true_and,Bool.false_and,Bool.and_false,Bool.and_true,Bool.true_or,Bool.or_false,Bool.false_or,Bool.or_true,if_true,if_false,Bool.false_eq_true,Bool.not_true,Bool.not_false];done)|(simp_all [zwi];done)|(simp_all [zwi] <;> omega))⟩
 ·refine rn ?_;exact k7 rfl (.refl _ _) ⟨rfl,congrArg bv (by first|(simp only [zwi, *,Bool.true_and,Bool.false_and,Bool.and_false,Bool.and_true,Bool.true_or,Bool.or_false,Bool.false_or,Bool.or_true,if_true,if_false,Bool.false_eq_true,Bool.not_true,Bool.not_false];done)|(simp_all [zwi];done)|(simp_all [zwi] <;> omega))⟩
theorem bvz0_4773 {a b:Bool} (h:a=b:=by first|(simp only [yfn, *,Bool.true_and,Bool.false_and,Bool.and_false,Bool.and_true,Bool.true_or,Bool.or_false,Bool.false_or,Bool.or_true,if_true,if_false,Bool.false_eq_true,Bool.not_true,Bool.not_false];done)|(simp_all [yfn];done)|(simp_all [yfn] <;> omega)):bv a=bv b:=congrArg bv h
theorem zwz (c:Int):x3 Tryz.prog 201 [.v (.int .i32 c)] [] (fun r h'=>h'= []∧r=bv (yfn c)):=by
 refine z6 Tryz.func201 rfl rfl rfl ?_
 refine rn ?_;refine q9 (fun hg1_2=> ?_) (fun hg1_2=> ?_)
 ·refine rn ?_;exact k7 rfl (.refl _ _) ⟨rfl,bvz0_4773⟩
 ·refine rn ?_;refine q9 (fun hg1_5=> ?_) (fun hg1_5=> ?_)
  ·refine rn ?_;refine q9 (fun hg1_10=> ?_) (fun hg1_10=> ?_)
   ·refine rn ?_;exact k7 rfl (.refl _ _) ⟨rfl,bvz0_4773⟩
   ·refine rn ?_;refine q9 (fun hg1_13=> ?_) (fun hg1_13=> ?_)
    ·refine rn ?_;refine q9 (fun hg1_18=> ?_) (fun hg1_18=> ?_)
     ·refine rn ?_;exact k7 rfl (.refl _ _) ⟨rfl,bvz0_4773⟩
     ·refine rn ?_;exact k7 rfl (.refl _ _) ⟨rfl,bvz0_4773⟩
    ·refine rn ?_;exact k7 rfl (.refl _ _) ⟨rfl,bvz0_4773⟩
  ·refine rn ?_;refine q9 (fun hg1_13=> ?_) (fun hg1_13=> ?_)
   ·refine rn ?_;refine q9 (fun hg1_18=> ?_) (fun hg1_18=> ?_)
    ·refine rn ?_;exact k7 rfl (.refl _ _) ⟨rfl,bvz0_4773⟩
    ·refine rn ?_;exact k7 rfl (.refl _ _) ⟨rfl,bvz0_4773⟩
   ·refine rn ?_;exact k7 rfl (.refl _ _) ⟨rfl,bvz0_4773⟩
theorem zw0 (c:Int):x3 Tryz.prog 170 [.v (.int .i32 c)] [] (fun r h'=>h'= []∧r=bv (yfn c||zwi c)):=by
 refine z6 Tryz.func170 rfl rfl rfl ?_
 refine rn ?_;refine qv rfl rfl (y6 rfl rfl (zax (zwz _) (Sbs.refl _))) ?_
 refine rn ?_;refine q9 (fun hg1_2=> ?_) (fun hg1_2=> ?_)
 ·refine rn ?_;exact k7 rfl (.refl _ _) ⟨rfl,congrArg bv (by first|(simp only [*,Bool.true_and,Bool.false_and,Bool.and_false,Bool.and_true,Bool.true_or,Bool.or_false,Bool.false_or,Bool.or_true,if_true,if_false,Bool.false_eq_true,Bool.not_true,Bool.not_false];done)|(simp_all;done)|(simp_all <;> omega))⟩
 ·refine rn ?_;refine qv rfl rfl (y6 rfl rfl (zax (zox _) (Sbs.refl _))) ?_
  refine rn ?_;exact k7 rfl (.refl _ _) ⟨rfl,congrArg bv (by first|(simp only [*,Bool.true_and,Bool.false_and,Bool.and_false,Bool.and_true,Bool.true_or,Bool.or_false,Bool.false_or,Bool.or_true,if_true,if_false,Bool.false_eq_true,Bool.not_true,Bool.not_false];done)|(simp_all;done)|(simp_all <;> omega))⟩
theorem yff (h:Hist):x3 Tryz.prog 93 [.agg (x4 h)] [] (fun r h'=>h'= []∧r= .agg (zir h)):=by
 refine z6 Tryz.func93 rfl rfl rfl ?_
 refine rn ?_;refine z7 rfl (w6 rfl rfl rfl fun b1=> ?_)
 refine z7 rfl (x6 rfl fun b2=> ?_)
 refine rn ?_;exact zea (.cons _ _ _ _ (.agg _ _ _ _ _ _ _ rfl inferInstance inferInstance inferInstance rfl) .nil) (.drop [_,_] _ _) ⟨rfl,rfl⟩
theorem zu5 (h:Hist) (sort:Nat) (n:Int) (l:List ByteArray) (hs:(zir h)[sort]? =some (zbg l)) (hs4:sort < 4):x3 Tryz.prog 134 [.agg (x4 h),iv sort,iv n] [] (fun r h'=>h'= []∧r=bv (zdh l n)):=by
 refine z6 Tryz.func134 rfl rfl rfl ?_
 refine rn ?_;refine z7 rfl (w6 rfl rfl rfl fun b3=> ?_)
 refine rn ?_;refine q9 (fun hg1_2=> ?_) (fun hg1_2=> ?_)
 ·refine rn ?_;refine qv rfl rfl (y6 rfl rfl (zax (yff _) (Sbs.refl _))) ?_
  refine q1 ?_;refine qq rfl rfl (zck rfl rfl (by omega) (by simpa using hs)) ?_
  refine rn ?_;exact k7 rfl (.drop1 _ _ _) ⟨rfl,congrArg bv (by first|(simp only [zdh, *,Bool.true_and,Bool.false_and,Bool.and_false,Bool.and_true,Bool.true_or,Bool.or_false,Bool.false_or,Bool.or_true,if_true,if_false,Bool.false_eq_true,Bool.not_true,Bool.not_false];done)|(simp_all [zdh];done)|(simp_all [zdh] <;> omega))⟩
 ·refine rn ?_;exact k7 rfl (.drop1 _ _ _) ⟨rfl,congrArg bv (by first|(simp only [zdh, *,Bool.true_and,Bool.false_and,Bool.and_false,Bool.and_true,Bool.true_or,Bool.or_false,Bool.false_or,Bool.or_true,if_true,if_false,Bool.false_eq_true,Bool.not_true,Bool.not_false];done)|(simp_all [zdh];done)|(simp_all [zdh] <;> omega))⟩
theorem bvz1_6856 {a b:Bool} (h:a=b:=by first|(simp only [zzf, *,Bool.true_and,Bool.false_and,Bool.and_false,Bool.and_true,Bool.true_or,Bool.or_false,Bool.false_or,Bool.or_true,if_true,if_false,Bool.false_eq_true,Bool.not_true,Bool.not_false];done)|(simp_all [zzf];done)|(simp_all [zzf] <;> omega)):bv a=bv b:=congrArg bv h
theorem zp8 (h:Hist) (v:Ver):x3 Tryz.prog 178 [.agg (x4 h),.agg (yhl v)] [] (fun r h'=>h'= []∧r=bv (zzf h.ts v)):=by
 refine z6 Tryz.func178 rfl rfl rfl ?_
 refine rn ?_;refine z7 rfl (w6 rfl rfl rfl fun b2=> ?_)
 refine z7 rfl (w6 rfl rfl rfl fun b3=> ?_)
 refine rn ?_;refine z8 rfl (fun hc7=> ?_) (fun hc7=> ?_)
 ·refine rn ?_;exact k7 rfl (.drop [_,_] _ _) ⟨rfl,bvz1_6856⟩
 ·refine rn ?_;refine qv rfl rfl (y6 rfl rfl (zax (zu5 _ 0 _ _ rfl (by decide)) (Sbs.refl _))) ?_
  refine rn ?_;refine q9 (fun hg3_4=> ?_) (fun hg3_4=> ?_)
  ·refine rn ?_;refine q9 (fun hg3_9=> ?_) (fun hg3_9=> ?_)
   ·refine rn ?_;exact k7 rfl (.drop [_,_] _ _) ⟨rfl,bvz1_6856⟩
   ·refine rn ?_;exact k7 rfl (.drop [_,_] _ _) ⟨rfl,bvz1_6856⟩
  ·refine rn ?_;exact k7 rfl (.drop [_,_] _ _) ⟨rfl,bvz1_6856⟩
theorem bvz2_3796 {a b:Bool} (h:a=b:=by first|(simp only [ygk, *,Bool.true_and,Bool.false_and,Bool.and_false,Bool.and_true,Bool.true_or,Bool.or_false,Bool.false_or,Bool.or_true,if_true,if_false,Bool.false_eq_true,Bool.not_true,Bool.not_false];done)|(simp_all [ygk];done)|(simp_all [ygk] <;> omega)):bv a=bv b:=congrArg bv h
theorem zv0 (a b:Ev) (ha:a.scan.length≤4611686018427387904) (hb:b.scan.length≤4611686018427387904):x3 Tryz.prog 101 [.agg (evR a),.agg (evR b)] [] (fun r h'=>h'= []∧r=bv (ygk a b)):=by
 refine z6 Tryz.func101 rfl rfl rfl ?_
 refine rn ?_;refine z7 rfl (w6 rfl rfl rfl fun b2=> ?_)
 refine z7 rfl (w6 rfl rfl rfl fun b3=> ?_)
 refine rn ?_;refine q9 (fun hg1_5=> ?_) (fun hg1_5=> ?_)
 ·refine rn ?_;refine q9 (fun hg1_12=> ?_) (fun hg1_12=> ?_)
  ·refine rn ?_;refine q9 (fun hg1_19=> ?_) (fun hg1_19=> ?_)
   ·refine rn ?_;refine q9 (fun hg2_1=> ?_) (fun hg2_1=> ?_)
    ·refine rn ?_;refine q9 (fun hg2_8=> ?_) (fun hg2_8=> ?_)
     ·refine rn ?_;refine q9 (fun hg2_15=> ?_) (fun hg2_15=> ?_)
      ·refine rn ?_;refine q9 (fun hg2_22=> ?_) (fun hg2_22=> ?_)
       ·refine rn ?_;refine qv rfl rfl (y6 rfl rfl (zax (zxu _ _ ha hb) (Sbs.refl _))) ?_
        refine rn ?_;exact k7 rfl (.drop [_,_] _ _) ⟨rfl,bvz2_3796⟩
       ·refine rn ?_;exact k7 rfl (.drop [_,_] _ _) ⟨rfl,bvz2_3796⟩
      ·refine rn ?_;exact k7 rfl (.drop [_,_] _ _) ⟨rfl,bvz2_3796⟩
     ·refine rn ?_;exact k7 rfl (.drop [_,_] _ _) ⟨rfl,bvz2_3796⟩
    ·refine rn ?_;exact k7 rfl (.drop [_,_] _ _) ⟨rfl,bvz2_3796⟩
   ·refine rn ?_;exact k7 rfl (.drop [_,_] _ _) ⟨rfl,bvz2_3796⟩
  ·refine rn ?_;exact k7 rfl (.drop [_,_] _ _) ⟨rfl,bvz2_3796⟩
 ·refine rn ?_;exact k7 rfl (.drop [_,_] _ _) ⟨rfl,bvz2_3796⟩
theorem zzz (s:ByteArray) (i:Nat) (c:Int) (bs bi bc:Nat) (hi:i≤s.size):x3 Tryz.prog 220 [pZ bs,pZ bi,pZ bc] [.box bs 9 [sv s],.box bi 3 [iv (i:Nat)],.box bc 21 [.v (.int .i32 c)],.glob 5 276 y9,.glob 6 279 y4] (fun r h'=>h'= [.box bs 9 [sv s],.box bi 3 [iv (i:Nat)],.box bc 21 [.v (.int .i32 c)],.glob 5 276 y9,.glob 6 279 y4]∧r= .tup [.v (.int .i32 c),bv (zqb s i c)]):=by
 refine z6 Tryz.func220 rfl rfl rfl ?_
 refine x9 (y5 ?_)
 refine q1 ?_;refine q1 ?_;refine u3 (j8 ?_)
 refine x9 (y5 ?_)
 refine q1 ?_;refine q1 ?_;refine qq rfl rfl (zew rfl rfl hi) ?_
 refine qv rfl rfl (y6 rfl rfl (y3.quiet (R:=fun x=>x=_) (h2:= [_,_,_]) (List.perm_append_comm (l₁:= [_,_,_])) (y3.of_fun (zux (s.extract i s.size))))) ?_
 refine rn ?_;refine q9 (fun hg2_3=> ?_) (fun hg2_3=> ?_)
 ·refine rn ?_;exact zbo rfl rfl (.refl _ _) ⟨rfl,congrArg (fun b=>AV.tup [.v (.int .i32 c),bv b]) (by first|(simp only [zqb, *,Bool.true_and,Bool.false_and,Bool.and_false,Bool.and_true,Bool.true_or,Bool.or_false,Bool.false_or,Bool.or_true,if_true,if_false,Bool.false_eq_true,Bool.not_true,Bool.not_false];done)|(simp_all [zqb];done))⟩
 ·refine rn ?_;exact zbo rfl rfl (.refl _ _) ⟨rfl,congrArg (fun b=>AV.tup [.v (.int .i32 c),bv b]) (by first|(simp only [zqb, *,Bool.true_and,Bool.false_and,Bool.and_false,Bool.and_true,Bool.true_or,Bool.or_false,Bool.false_or,Bool.or_true,if_true,if_false,Bool.false_eq_true,Bool.not_true,Bool.not_false];done)|(simp_all [zqb];done))⟩
theorem zv1 (s:ByteArray) (bs:Nat) (y:AV) (p:Nat→Int→Bool) (I:List Res→Prop) (J:Nat→List Res→Prop) (hy:∀(i bi bc it:Nat) (L:List Res),i < s.size→I L→y3 Tryz.prog y [iv i,.fn (.func 220) [] [pZ bs,pZ bi,pZ bc]] (.box bc 21 [.v (.int .i32 (Utf8.decode s i).1)]:: .box bi 3 [iv (i:Nat)]:: .obj it (.stringIter s (i+(Utf8.decode s i).2)):: .box bs 9 [sv s]::L) (fun r h'=>∃L',h'= .box bc 21 [.v (.int .i32 (Utf8.decode s i).1)]:: .box bi 3 [iv (i:Nat)]:: .obj it (.stringIter s (i+(Utf8.decode s i).2)):: .box bs 9 [sv s]::L'∧((p i (Utf8.decode s i).1=true∧r=bv true∧I L')∨(p i (Utf8.decode s i).1=false∧r=bv false∧J i L')))) (L0:List Res) (h0:I L0):x3 Tryz.prog 219 [y,pZ bs] (.box bs 9 [sv s]::L0) (fun r h'=>∃L',h'= .box bs 9 [sv s]::L'∧((zdg s p 0=s.size∧I L')∨(zdg s p 0 < s.size∧J (zdg s p 0) L'))):=by
 refine z6 Tryz.func219 rfl rfl rfl ?_
 refine rn ?_;refine z7 rfl (zop rfl rfl fun b7=> ?_)
 refine rn ?_;refine u9 (fun x:Nat×List Res=>zdg s p 0=zdg s p x.1∧I x.2) (fun x=>⟨[(7,pZ b7),(0,y),(1,pZ bs)],.obj b7 (.stringIter s x.1):: .box bs 9 [sv s]::x.2,[]⟩) (fun x=>s.size - x.1) (0,L0) ⟨rfl,h0⟩
  (x8 (.cons _ _ _ rfl (.cons _ _ _ rfl (.cons _ _ _ rfl (.nil))))) ?_
 rintro ⟨k,L⟩ ⟨hw,hI⟩
 simp only at hw hI
 refine x9 (y5 ?_)
 refine z7 rfl (zqz rfl rfl (fun hp=> ?_) (fun hp=> ?_))
 ·refine rn ?_;refine z8 rfl (fun hc9=> ?_) (fun hc9=> ?_)
  ·first|cases hc9|exact absurd hc9 (by decide)|(exfalso;simp_all;done)
  ·refine rn ?_;exact zd1 .nil (.drop1 _ _ _) ⟨_,rfl,.inl ⟨by rw [hw,zlo hp],hI⟩⟩
 ·refine rn ?_;refine z8 rfl (fun hc9=> ?_) (fun hc9=> ?_)
  ·refine rn ?_;refine z7 rfl (x6 rfl fun b3=> ?_)
   refine z7 rfl (x6 rfl fun b4=> ?_)
   first|refine z7 rfl (za3 rfl rfl rfl ?_)|refine z7 rfl (zbs rfl rfl rfl rfl (Nat.le_of_ble_eq_true rfl) ?_)
   first|refine z7 rfl (za3 rfl rfl rfl ?_)|refine z7 rfl (zbs rfl rfl rfl rfl (Nat.le_of_ble_eq_true rfl) ?_)
   refine u3 (j8 ?_)
   refine x9 (y5 ?_)
   refine q1 ?_;refine q1 ?_;refine u3 (j8 ?_)
   refine x9 (y5 ?_)
   refine q1 ?_;refine q1 ?_;refine q1 ?_;refine z7 rfl (w7 rfl rfl (hy k b3 b4 b7 L hp hI) rfl ?_)
   rintro av h' ⟨L',rfl,⟨hp1,rfl,hI2⟩|⟨hp1,rfl,hJ⟩⟩
   ·refine rn ?_;refine z8 rfl (fun hc17=> ?_) (fun hc17=> ?_)
    ·first|cases hc17|exact absurd hc17 (by decide)|(exfalso;simp_all;done)
    ·refine rn ?_;exact ⟨(k+(Utf8.decode s k).2,L'),⟨hw.trans (zoa hp hp1),hI2⟩,(w9 (zbd (h1:= [_,_])) (x8 (.cons _ _ _ rfl (.cons _ _ _ rfl (.cons _ _ _ rfl (.nil)))))),by have:=zn9 s k;simp only at hp ⊢;omega⟩
   ·refine rn ?_;refine z8 rfl (fun hc17=> ?_) (fun hc17=> ?_)
    ·refine rn ?_;exact zea .nil (.drop [_,_,_] _ _) ⟨_,rfl,.inr (by rw [hw,zp6 hp hp1];exact ⟨hp,hJ⟩)⟩
    ·first|cases hc17|exact absurd hc17 (by decide)|(exfalso;simp_all;done)
  ·first|cases hc9|exact absurd hc9 (by decide)|(exfalso;simp_all;done)
theorem yh9 (s:ByteArray) (h:List Res):x3 Tryz.prog 200 [sv s] h (fun r h'=>∃bs,h'= .box bs 9 [sv s]::h∧r= .fn (.func 219) [] [pZ bs]):=by
 refine z6 Tryz.func200 rfl rfl rfl ?_
 refine rn ?_;refine z7 rfl (w6 rfl rfl rfl fun b1=> ?_)
 refine rn ?_;exact k7 rfl (.refl _ _) ⟨_,rfl,rfl⟩
theorem ya2 (s:ByteArray) (fv:AV) (g:Int→Bool) (hone:fv.cellsOf=some [fv]) (hgo:∀c h,y3 Tryz.prog fv [.v (.int .i32 c)] h (fun r h'=>h'=h∧r=bv (g c))):x3 Tryz.prog 169 [sv s,fv] [.glob 5 276 y9,.glob 6 279 y4] (fun r h'=>h'= [.glob 5 276 y9,.glob 6 279 y4]∧r=iv (zdg s (zfj s g) 0:Nat)):=by
 refine z6 Tryz.func169 rfl rfl rfl ?_
 refine rn ?_;refine z7 rfl (w6 rfl hone rfl fun b3=> ?_)
 refine rn ?_;refine zhv ?_;refine rn ?_;refine z7 rfl (x6 rfl fun b5=> ?_)
 refine rn ?_;refine z7 rfl (w7 rfl rfl (y3.of_fun (yh9 s _)) rfl ?_)
 rintro _ _ ⟨bs,rfl,rfl⟩
 refine rn ?_;refine zli (fun pend h''=>(pend=none∨pend=some (.exit 0))∧h''= .box bs 9 [sv s]:: .box b5 3 [iv (zdg s (zfj s g) 0:Nat)]:: .box b3 243 [fv]:: [.glob 5 276 y9,.glob 6 279 y4]) rfl (fun fn l q lp hlp=> ?_) (fun q h'' hK=> ?_) (fun q h'' c hK=> ?_)
 ·suffices hy:∀(i bi bc it:Nat) (L:List Res),i < s.size→L=lp .ready none:: .defs q:: .box b5 3 [iv s.size]:: .box b3 243 [fv]:: [.glob 5 276 y9,.glob 6 279 y4]→y3 Tryz.prog (yv l) [iv i,.fn (.func 220) [] [pZ bs,pZ bi,pZ bc]] (.box bc 21 [.v (.int .i32 (Utf8.decode s i).1)]:: .box bi 3 [iv (i:Nat)]:: .obj it (.stringIter s (i+(Utf8.decode s i).2)):: .box bs 9 [sv s]::L)
   (fun r h'=>∃L',h'= .box bc 21 [.v (.int .i32 (Utf8.decode s i).1)]:: .box bi 3 [iv (i:Nat)]:: .obj it (.stringIter s (i+(Utf8.decode s i).2)):: .box bs 9 [sv s]::L'∧((zfj s g i (Utf8.decode s i).1=true∧r=bv true∧L'=lp .ready none:: .defs q:: .box b5 3 [iv s.size]:: .box b3 243 [fv]:: [.glob 5 276 y9,.glob 6 279 y4])∨(zfj s g i (Utf8.decode s i).1=false∧r=bv false∧L'=lp .done (some (.exit 0)):: .defs q:: .box b5 3 [iv (i:Nat)]:: .box b3 243 [fv]:: [.glob 5 276 y9,.glob 6 279 y4]))) by
   refine x3.mono (x3.perm (pt2 _ _ _ _) (zv1 s bs (yv l) (zfj s g) _ (fun i L=>L=lp .done (some (.exit 0)):: .defs q:: .box b5 3 [iv (i:Nat)]:: .box b3 243 [fv]:: [.glob 5 276 y9,.glob 6 279 y4]) hy _ rfl)) ?_
   rintro _ _ ⟨L',rfl,⟨hw,rfl⟩|⟨hw,rfl⟩⟩
   ·exact ⟨_,_,_,(pt2 _ _ _ _).symm,by simp,.inl rfl,by rw [hw]⟩
   ·exact ⟨_,_,_,(pt2 _ _ _ _).symm,by simp,.inr rfl,rfl⟩
  rintro i bi bc it _ hi rfl
  refine y3.perm (pt4 _ _ _ _ _ _) (y3.permR (ztd hlp rfl rfl ?_))
  refine rn ?_;refine ⟨[(6,iv (i:Nat)),(7,.fn (.func 220) [] [pZ bs,pZ bi,pZ bc]),(5,pZ b5),(3,pZ b3)],x8 (.cons _ _ _ rfl (.cons _ _ _ rfl (.cons _ _ _ rfl (.cons _ _ _ rfl .nil)))),?_⟩
  refine rn ?_;refine qv rfl rfl (y6 rfl rfl (y3.qt (y3.of_acall (fs:= []) (cs:= [pZ bs,pZ bi,pZ bc]) (zzz s i (Utf8.decode s i).1 bs bi bc (by omega))) ((pt4 _ _ _ _ _ _).trans (.cons _ ((pt2 _ _ _ _).trans (.cons _ ((pt1 _ _ _).trans (.cons _ ((pt5 _ _ _ _ _ _ _).trans (.cons _ (pt5 _ _ _ _ _ _ _))))))))))) ?_
  refine rn ?_;refine q9 (fun hg6_2=> ?_) (fun hg6_2=> ?_)
  ·refine rn ?_;refine zrw rfl ?_;refine rn ?_;exact zj7 (.refl _) ⟨_,((pt1 _ _ _).trans (.cons _ ((pt1 _ _ _).trans (.cons _ ((pt1 _ _ _).trans (.cons _ (pt1 _ _ _))))))),_,rfl,.inr ⟨by simp_all [zfj],rfl,rfl⟩⟩
  ·refine rn ?_;refine qv rfl rfl (y6 rfl rfl (hgo _ _)) ?_
   refine rn ?_;refine z8 rfl (fun hc28=> ?_) (fun hc28=> ?_)
   ·refine rn ?_;exact zj7 (.refl _) ⟨_,((pt1 _ _ _).trans (.cons _ ((pt1 _ _ _).trans (.cons _ ((pt1 _ _ _).trans (.cons _ (pt1 _ _ _))))))),_,rfl,.inr ⟨by simp_all [zfj],rfl,rfl⟩⟩
   ·refine rn ?_;exact zgw (.refl _) ⟨_,((pt1 _ _ _).trans (.cons _ ((pt1 _ _ _).trans (.cons _ ((pt1 _ _ _).trans (.cons _ (pt1 _ _ _))))))),_,rfl,.inl ⟨by simp_all [zfj],rfl,rfl⟩⟩
 ·obtain ⟨_,rfl⟩:=hK
  refine rn ?_;refine ⟨fun l h=>(by cases h),?_⟩
  exact zgk (.refl _) (.cons _ _ _ _ (.tmp _ _ rfl) .nil) (.drop [_,_,_] _ _) ⟨rfl,rfl⟩
 ·obtain ⟨hc,rfl⟩:=hK
  obtain rfl:c= .exit 0:=by simpa using hc
  refine rn ?_;refine ⟨fun l h=>(by cases h),?_⟩
  exact zgk (.refl _) (.cons _ _ _ _ (.tmp _ _ rfl) .nil) (.drop [_,_,_] _ _) ⟨rfl,rfl⟩
theorem bvz3_8132 {a b:Bool} (h:a=b:=by first|(simp only [wordB, *,Bool.true_and,Bool.false_and,Bool.and_false,Bool.and_true,Bool.true_or,Bool.or_false,Bool.false_or,Bool.or_true,if_true,if_false,Bool.false_eq_true,Bool.not_true,Bool.not_false];done)|(simp_all [wordB,zya];done)):bv a=bv b:=congrArg bv h
theorem yny (s:ByteArray):x3 Tryz.prog 130 [sv s] [.glob 5 276 y9,.glob 6 279 y4] (fun r h'=>h'= [.glob 5 276 y9,.glob 6 279 y4]∧r=bv (wordB s)):=by
 refine z6 Tryz.func130 rfl rfl rfl ?_
 refine rn ?_;refine q9 (fun hg1_2=> ?_) (fun hg1_2=> ?_)
 ·refine rn ?_;refine q9 (fun hg1_7=> ?_) (fun hg1_7=> ?_)
  ·refine rn ?_;have h1:0 < s.size:=zvo hg1_2
   refine qq rfl rfl (u0 0 rfl rfl (by omega)) ?_
   refine rn ?_;refine qv rfl rfl (y6 rfl rfl (zax (zox _) (Sbs.refl _))) ?_
   refine rn ?_;refine q9 (fun hg1_14=> ?_) (fun hg1_14=> ?_)
   ·refine rn ?_;refine qv rfl rfl (y6 rfl rfl (y3.of_fun (ya2 s (.fn (.func 170) [] []) zku rfl (fun c h=>(zax (zw0 c) (Sbs.refl _)))))) ?_
    refine rn ?_;exact k7 rfl (.refl _ _) ⟨rfl,bvz3_8132⟩
   ·refine rn ?_;exact k7 rfl (.refl _ _) ⟨rfl,bvz3_8132⟩
  ·refine rn ?_;exact k7 rfl (.refl _ _) ⟨rfl,bvz3_8132⟩
 ·refine rn ?_;exact k7 rfl (.refl _ _) ⟨rfl,bvz3_8132⟩
theorem ykl (e:Ev) (h:Hist) (be bh:Nat):x3 Tryz.prog 175 [pZ be,pZ bh] [.box be 66 (evR e),.box bh 28 (x4 h)] (fun r h'=>h'= [.box be 66 (evR e),.box bh 28 (x4 h)]∧r= .tup [.agg (evR ⟨0,0,e.s,e.l,0,⟨0,0⟩,0,[]⟩),bv (zdb h e)]):=by
 refine z6 Tryz.func175 rfl rfl rfl ?_
 refine rn ?_;refine z7 rfl (x6 rfl fun b2=> ?_)
 refine rn ?_;refine zgj 16 [(b2,66,_)] rfl (List.perm_append_comm (l₁:= [_])) ?_
 refine rn ?_;refine dv rfl rfl (by exact y6 rfl rfl (zax (zu5 _ 1 _ _ rfl (by decide)) (Sbs.refl _))) ?_
 refine rn ?_;refine ze1 (fun hg1_9=> ?_) (fun hg1_9=> ?_)
 ·refine rn ?_;refine dv rfl rfl (by exact y6 rfl rfl (zax (zui _) (Sbs.refl _))) ?_
  refine rn ?_;refine dw 0 rfl rfl rfl rfl rfl (Nat.le_of_ble_eq_true rfl) ?_
  refine rn2 ?_;show zcc _ _ _ _ _ _ ⟨_,.box b2 66 _::_,_⟩
  refine rn ?_;exact zea (.cons _ _ _ _ (.agg _ _ _ _ _ _ _ rfl inferInstance inferInstance inferInstance rfl) (.cons _ _ _ _ (.tmp _ _ rfl) .nil)) (.trans (.drop1 _ _ _) (zbf (by exact Sb.aggs (by exact ⟨.refl _,.refl _,.refl _,.refl _,.refl _,.refl _,.refl _,.refl _,.nil _ _,trivial⟩)) (by exact .refl _))) ⟨rfl,congrArg (fun b=>AV.tup [.agg (evR ⟨0,0,e.s,e.l,0,⟨0,0⟩,0,[]⟩),bv b]) (by first|(simp only [zdb, *,Bool.true_and,Bool.false_and,Bool.and_false,Bool.and_true,Bool.true_or,Bool.or_false,Bool.false_or,Bool.or_true,if_true,if_false,Bool.false_eq_true,Bool.not_true,Bool.not_false];done)|(simp_all [zdb];done)|(simp_all [zdb] <;> omega))⟩
 ·refine rn ?_;refine dw 0 rfl rfl rfl rfl rfl (Nat.le_of_ble_eq_true rfl) ?_
  refine rn2 ?_;show zcc _ _ _ _ _ _ ⟨_,.box b2 66 _::_,_⟩
  refine rn ?_;exact zea (.cons _ _ _ _ (.agg _ _ _ _ _ _ _ rfl inferInstance inferInstance inferInstance rfl) (.cons _ _ _ _ (.tmp _ _ rfl) .nil)) (.trans (.drop1 _ _ _) (zbf (by exact Sb.aggs (by exact ⟨.refl _,.refl _,.refl _,.refl _,.refl _,.refl _,.refl _,.refl _,.nil _ _,trivial⟩)) (by exact .refl _))) ⟨rfl,congrArg (fun b=>AV.tup [.agg (evR ⟨0,0,e.s,e.l,0,⟨0,0⟩,0,[]⟩),bv b]) (by first|(simp only [zdb, *,Bool.true_and,Bool.false_and,Bool.and_false,Bool.and_true,Bool.true_or,Bool.or_false,Bool.false_or,Bool.or_true,if_true,if_false,Bool.false_eq_true,Bool.not_true,Bool.not_false];done)|(simp_all [zdb];done)|(simp_all [zdb] <;> omega))⟩
theorem ykk (e:Ev) (h:Hist) (be bh:Nat):x3 Tryz.prog 177 [pZ be,pZ bh] [.box be 66 (evR e),.box bh 28 (x4 h)] (fun r h'=>h'= [.box be 66 (evR e),.box bh 28 (x4 h)]∧r= .tup [.agg (evR ⟨0,0,0,0,e.o,e.v,0,[]⟩),bv (zbc h e)]):=by
 refine z6 Tryz.func177 rfl rfl rfl ?_
 refine rn ?_;refine z7 rfl (x6 rfl fun b2=> ?_)
 refine rn ?_;refine zgj 30 [(b2,66,_)] rfl (List.perm_append_comm (l₁:= [_])) ?_
 refine rn ?_;refine dv rfl rfl (by exact y6 rfl rfl (zax (zu5 _ 2 _ _ rfl (by decide)) (Sbs.refl _))) ?_
 refine rn ?_;refine ze1 (fun hg1_9=> ?_) (fun hg1_9=> ?_)
 ·refine rn ?_;refine dv rfl rfl (by exact y6 rfl rfl (zax (zp8 h e.v) (Sbs.refl _))) ?_
  refine rn ?_;refine ze1 (fun hg1_15=> ?_) (fun hg1_15=> ?_)
  ·refine rn ?_;refine ze1 (fun hg1_23=> ?_) (fun hg1_23=> ?_)
   ·refine rn ?_;refine dw 0 rfl rfl rfl rfl rfl (Nat.le_of_ble_eq_true rfl) ?_
    refine rn2 ?_;show zcc _ _ _ _ _ _ ⟨_,.box b2 66 _::_,_⟩
    refine rn ?_;exact zea (.cons _ _ _ _ (.agg _ _ _ _ _ _ _ rfl inferInstance inferInstance inferInstance rfl) (.cons _ _ _ _ (.tmp _ _ rfl) .nil)) (.trans (.drop1 _ _ _) (zbf (by exact Sb.aggs (by exact ⟨.refl _,.refl _,.refl _,.refl _,.refl _,.refl _,.refl _,.refl _,.nil _ _,trivial⟩)) (by exact .refl _))) ⟨rfl,congrArg (fun b=>AV.tup [.agg (evR ⟨0,0,0,0,e.o,e.v,0,[]⟩),bv b]) (by first|(simp only [zbc, *,Bool.true_and,Bool.false_and,Bool.and_false,Bool.and_true,Bool.true_or,Bool.or_false,Bool.false_or,Bool.or_true,if_true,if_false,Bool.false_eq_true,Bool.not_true,Bool.not_false];done)|(simp_all [zbc];done)|(simp_all [zbc] <;> omega))⟩
   ·refine rn ?_;refine dw 0 rfl rfl rfl rfl rfl (Nat.le_of_ble_eq_true rfl) ?_
    refine rn2 ?_;show zcc _ _ _ _ _ _ ⟨_,.box b2 66 _::_,_⟩
    refine rn ?_;exact zea (.cons _ _ _ _ (.agg _ _ _ _ _ _ _ rfl inferInstance inferInstance inferInstance rfl) (.cons _ _ _ _ (.tmp _ _ rfl) .nil)) (.trans (.drop1 _ _ _) (zbf (by exact Sb.aggs (by exact ⟨.refl _,.refl _,.refl _,.refl _,.refl _,.refl _,.refl _,.refl _,.nil _ _,trivial⟩)) (by exact .refl _))) ⟨rfl,congrArg (fun b=>AV.tup [.agg (evR ⟨0,0,0,0,e.o,e.v,0,[]⟩),bv b]) (by first|(simp only [zbc, *,Bool.true_and,Bool.false_and,Bool.and_false,Bool.and_true,Bool.true_or,Bool.or_false,Bool.false_or,Bool.or_true,if_true,if_false,Bool.false_eq_true,Bool.not_true,Bool.not_false];done)|(simp_all [zbc];done)|(simp_all [zbc] <;> omega))⟩
  ·refine rn ?_;refine dw 0 rfl rfl rfl rfl rfl (Nat.le_of_ble_eq_true rfl) ?_
   refine rn2 ?_;show zcc _ _ _ _ _ _ ⟨_,.box b2 66 _::_,_⟩
   refine rn ?_;exact zea (.cons _ _ _ _ (.agg _ _ _ _ _ _ _ rfl inferInstance inferInstance inferInstance rfl) (.cons _ _ _ _ (.tmp _ _ rfl) .nil)) (.trans (.drop1 _ _ _) (zbf (by exact Sb.aggs (by exact ⟨.refl _,.refl _,.refl _,.refl _,.refl _,.refl _,.refl _,.refl _,.nil _ _,trivial⟩)) (by exact .refl _))) ⟨rfl,congrArg (fun b=>AV.tup [.agg (evR ⟨0,0,0,0,e.o,e.v,0,[]⟩),bv b]) (by first|(simp only [zbc, *,Bool.true_and,Bool.false_and,Bool.and_false,Bool.and_true,Bool.true_or,Bool.or_false,Bool.false_or,Bool.or_true,if_true,if_false,Bool.false_eq_true,Bool.not_true,Bool.not_false];done)|(simp_all [zbc];done)|(simp_all [zbc] <;> omega))⟩
 ·refine rn ?_;refine dw 0 rfl rfl rfl rfl rfl (Nat.le_of_ble_eq_true rfl) ?_
  refine rn2 ?_;show zcc _ _ _ _ _ _ ⟨_,.box b2 66 _::_,_⟩
  refine rn ?_;exact zea (.cons _ _ _ _ (.agg _ _ _ _ _ _ _ rfl inferInstance inferInstance inferInstance rfl) (.cons _ _ _ _ (.tmp _ _ rfl) .nil)) (.trans (.drop1 _ _ _) (zbf (by exact Sb.aggs (by exact ⟨.refl _,.refl _,.refl _,.refl _,.refl _,.refl _,.refl _,.refl _,.nil _ _,trivial⟩)) (by exact .refl _))) ⟨rfl,congrArg (fun b=>AV.tup [.agg (evR ⟨0,0,0,0,e.o,e.v,0,[]⟩),bv b]) (by first|(simp only [zbc, *,Bool.true_and,Bool.false_and,Bool.and_false,Bool.and_true,Bool.true_or,Bool.or_false,Bool.false_or,Bool.or_true,if_true,if_false,Bool.false_eq_true,Bool.not_true,Bool.not_false];done)|(simp_all [zbc];done)|(simp_all [zbc] <;> omega))⟩
theorem ykj (e:Ev) (h:Hist) (be bh:Nat):x3 Tryz.prog 179 [pZ be,pZ bh] [.box be 66 (evR e),.box bh 28 (x4 h)] (fun r h'=>h'= [.box be 66 (evR e),.box bh 28 (x4 h)]∧r= .tup [.agg (evR ⟨0,0,0,0,e.o,e.v,0,[]⟩),bv (zem h e)]):=by
 refine z6 Tryz.func179 rfl rfl rfl ?_
 refine rn ?_;refine z7 rfl (x6 rfl fun b2=> ?_)
 refine rn ?_;refine zgj 16 [(b2,66,_)] rfl (List.perm_append_comm (l₁:= [_])) ?_
 refine rn ?_;refine dv rfl rfl (by exact y6 rfl rfl (zax (zu5 _ 2 _ _ rfl (by decide)) (Sbs.refl _))) ?_
 refine rn ?_;refine ze1 (fun hg1_9=> ?_) (fun hg1_9=> ?_)
 ·refine rn ?_;refine dv rfl rfl (by exact y6 rfl rfl (zax (zp8 h e.v) (Sbs.refl _))) ?_
  refine rn ?_;refine dw 0 rfl rfl rfl rfl rfl (Nat.le_of_ble_eq_true rfl) ?_
  refine rn2 ?_;show zcc _ _ _ _ _ _ ⟨_,.box b2 66 _::_,_⟩
  refine rn ?_;exact zea (.cons _ _ _ _ (.agg _ _ _ _ _ _ _ rfl inferInstance inferInstance inferInstance rfl) (.cons _ _ _ _ (.tmp _ _ rfl) .nil)) (.trans (.drop1 _ _ _) (zbf (by exact Sb.aggs (by exact ⟨.refl _,.refl _,.refl _,.refl _,.refl _,.refl _,.refl _,.refl _,.nil _ _,trivial⟩)) (by exact .refl _))) ⟨rfl,congrArg (fun b=>AV.tup [.agg (evR ⟨0,0,0,0,e.o,e.v,0,[]⟩),bv b]) (by first|(simp only [zem, *,Bool.true_and,Bool.false_and,Bool.and_false,Bool.and_true,Bool.true_or,Bool.or_false,Bool.false_or,Bool.or_true,if_true,if_false,Bool.false_eq_true,Bool.not_true,Bool.not_false];done)|(simp_all [zem];done)|(simp_all [zem] <;> omega))⟩
 ·refine rn ?_;refine dw 0 rfl rfl rfl rfl rfl (Nat.le_of_ble_eq_true rfl) ?_
  refine rn2 ?_;show zcc _ _ _ _ _ _ ⟨_,.box b2 66 _::_,_⟩
  refine rn ?_;exact zea (.cons _ _ _ _ (.agg _ _ _ _ _ _ _ rfl inferInstance inferInstance inferInstance rfl) (.cons _ _ _ _ (.tmp _ _ rfl) .nil)) (.trans (.drop1 _ _ _) (zbf (by exact Sb.aggs (by exact ⟨.refl _,.refl _,.refl _,.refl _,.refl _,.refl _,.refl _,.refl _,.nil _ _,trivial⟩)) (by exact .refl _))) ⟨rfl,congrArg (fun b=>AV.tup [.agg (evR ⟨0,0,0,0,e.o,e.v,0,[]⟩),bv b]) (by first|(simp only [zem, *,Bool.true_and,Bool.false_and,Bool.and_false,Bool.and_true,Bool.true_or,Bool.or_false,Bool.false_or,Bool.or_true,if_true,if_false,Bool.false_eq_true,Bool.not_true,Bool.not_false];done)|(simp_all [zem];done)|(simp_all [zem] <;> omega))⟩
theorem ygh (s:Seen) (h:Hist) (bh:Nat):x3 Tryz.prog 181 [.agg (zaw s),pZ bh] [.box bh 28 (x4 h)] (fun r h'=>h'= [.box bh 28 (x4 h)]∧r=bv (zi1 h s)):=by
 refine z6 Tryz.func181 rfl rfl rfl ?_
 refine rn ?_;refine z7 rfl (w6 rfl rfl rfl fun b2=> ?_)
 refine rn ?_;refine qv rfl rfl (y6 rfl rfl (zax (zu5 _ 2 _ _ rfl (by decide)) (Sbs.refl _))) ?_
 refine rn ?_;refine q9 (fun hg1_4=> ?_) (fun hg1_4=> ?_)
 ·refine rn ?_;refine qv rfl rfl (y6 rfl rfl (zax (zp8 h s.v) (Sbs.refl _))) ?_
  refine rn ?_;exact k7 rfl (.drop1 _ _ _) ⟨rfl,congrArg bv (by first|(simp only [zi1, *,Bool.true_and,Bool.false_and,Bool.and_false,Bool.and_true,Bool.true_or,Bool.or_false,Bool.false_or,Bool.or_true,if_true,if_false,Bool.false_eq_true,Bool.not_true,Bool.not_false];done)|(simp_all [zi1];done)|(simp_all [zi1] <;> omega))⟩
 ·refine rn ?_;exact k7 rfl (.drop1 _ _ _) ⟨rfl,congrArg bv (by first|(simp only [zi1, *,Bool.true_and,Bool.false_and,Bool.and_false,Bool.and_true,Bool.true_or,Bool.or_false,Bool.false_or,Bool.or_true,if_true,if_false,Bool.false_eq_true,Bool.not_true,Bool.not_false];done)|(simp_all [zi1];done)|(simp_all [zi1] <;> omega))⟩
theorem yki (e:Ev) (h:Hist) (be bh:Nat) (hl:e.scan.length≤4611686018427387904):x3 Tryz.prog 180 [pZ bh,pZ be] [.box be 66 (evR e),.box bh 28 (x4 h)] (fun r h'=>h'= [.box be 66 (evR e),.box bh 28 (x4 h)]∧r= .tup [.agg (evR ⟨0,0,0,0,0,⟨0,0⟩,e.p,e.scan⟩),bv (zcz h e)]):=by
 refine z6 Tryz.func180 rfl rfl rfl ?_
 refine rn ?_;refine z7 rfl (x6 rfl fun b2=> ?_)
 refine rn ?_;refine zgj 22 [(b2,66,_)] rfl (List.perm_append_comm (l₁:= [_])) ?_
 refine rn ?_;refine dv rfl rfl (by exact y6 rfl rfl (zax (zu5 _ 3 _ _ rfl (by decide)) (Sbs.refl _))) ?_
 refine rn ?_;refine ze1 (fun hg2_9=> ?_) (fun hg2_9=> ?_)
 ·refine rn ?_;refine ze1 (fun hg2_15=> ?_) (fun hg2_15=> ?_)
  ·refine rn ?_;refine dv rfl rfl (by exact y6 rfl rfl (y3.of_fun (yg1 e.scan (.fn (.func 181) [] [pZ bh]) (zi1 h) [.box be 66 (evR e),.box bh 28 (x4 h)] rfl (fun s hs=>y3.quiet (R:=fun x=>x=bv (zi1 h s)) (h2:= [_]) (List.perm_append_comm (l₁:= [_])) (y3.of_acall (fs:= []) (cs:= [pZ bh]) (ygh s h bh))) hl))) ?_
   refine rn ?_;refine dw 0 rfl rfl rfl rfl rfl (Nat.le_of_ble_eq_true rfl) ?_
   refine rn2 ?_;show zcc _ _ _ _ _ _ ⟨_,.box b2 66 _::_,_⟩
   refine rn ?_;exact zea (.cons _ _ _ _ (.agg _ _ _ _ _ _ _ rfl inferInstance inferInstance inferInstance rfl) (.cons _ _ _ _ (.tmp _ _ rfl) .nil)) (.trans (.drop1 _ _ _) (zbf (by exact Sb.aggs (by exact ⟨.refl _,.refl _,.refl _,.refl _,.refl _,.refl _,.refl _,.refl _,.refl _,trivial⟩)) (by exact .refl _))) ⟨rfl,congrArg (fun b=>AV.tup [.agg (evR ⟨0,0,0,0,0,⟨0,0⟩,e.p,e.scan⟩),bv b]) (by first|(simp only [zcz, *,Bool.true_and,Bool.false_and,Bool.and_false,Bool.and_true,Bool.true_or,Bool.or_false,Bool.false_or,Bool.or_true,if_true,if_false,Bool.false_eq_true,Bool.not_true,Bool.not_false];done)|(simp_all [zcz];done)|(simp_all [zcz] <;> omega))⟩
  ·refine rn ?_;refine dw 0 rfl rfl rfl rfl rfl (Nat.le_of_ble_eq_true rfl) ?_
   refine rn2 ?_;show zcc _ _ _ _ _ _ ⟨_,.box b2 66 _::_,_⟩
   refine rn ?_;exact zea (.cons _ _ _ _ (.agg _ _ _ _ _ _ _ rfl inferInstance inferInstance inferInstance rfl) (.cons _ _ _ _ (.tmp _ _ rfl) .nil)) (.trans (.drop1 _ _ _) (zbf (by exact Sb.aggs (by exact ⟨.refl _,.refl _,.refl _,.refl _,.refl _,.refl _,.refl _,.refl _,.refl _,trivial⟩)) (by exact .refl _))) ⟨rfl,congrArg (fun b=>AV.tup [.agg (evR ⟨0,0,0,0,0,⟨0,0⟩,e.p,e.scan⟩),bv b]) (by first|(simp only [zcz, *,Bool.true_and,Bool.false_and,Bool.and_false,Bool.and_true,Bool.true_or,Bool.or_false,Bool.false_or,Bool.or_true,if_true,if_false,Bool.false_eq_true,Bool.not_true,Bool.not_false];done)|(simp_all [zcz];done)|(simp_all [zcz] <;> omega))⟩
 ·refine rn ?_;refine dw 0 rfl rfl rfl rfl rfl (Nat.le_of_ble_eq_true rfl) ?_
  refine rn2 ?_;show zcc _ _ _ _ _ _ ⟨_,.box b2 66 _::_,_⟩
  refine rn ?_;exact zea (.cons _ _ _ _ (.agg _ _ _ _ _ _ _ rfl inferInstance inferInstance inferInstance rfl) (.cons _ _ _ _ (.tmp _ _ rfl) .nil)) (.trans (.drop1 _ _ _) (zbf (by exact Sb.aggs (by exact ⟨.refl _,.refl _,.refl _,.refl _,.refl _,.refl _,.refl _,.refl _,.refl _,trivial⟩)) (by exact .refl _))) ⟨rfl,congrArg (fun b=>AV.tup [.agg (evR ⟨0,0,0,0,0,⟨0,0⟩,e.p,e.scan⟩),bv b]) (by first|(simp only [zcz, *,Bool.true_and,Bool.false_and,Bool.and_false,Bool.and_true,Bool.true_or,Bool.or_false,Bool.false_or,Bool.or_true,if_true,if_false,Bool.false_eq_true,Bool.not_true,Bool.not_false];done)|(simp_all [zcz];done)|(simp_all [zcz] <;> omega))⟩
theorem ykh  :x3 Tryz.prog 183 [] [] (fun r h'=>h'= []∧r= .tup [.agg (evR ⟨0,0,0,0,0,⟨0,0⟩,0,[]⟩),bv true]):=by
 refine z6 Tryz.func183 rfl rfl rfl ?_
 refine rn ?_;refine z7 rfl (x6 rfl fun b0=> ?_)
 refine rn ?_;exact zea (.cons _ _ _ _ (.agg _ _ _ _ _ _ _ rfl inferInstance inferInstance inferInstance rfl) (.cons _ _ _ _ (.tmp _ _ rfl) .nil)) (.trans (.drop1 _ _ _) (zbf (by exact Sb.aggs (by exact ⟨.refl _,.refl _,.refl _,.refl _,.refl _,.refl _,.refl _,.refl _,.nil _ _,trivial⟩)) (by exact .refl _))) ⟨rfl,congrArg (fun b=>AV.tup [.agg (evR ⟨0,0,0,0,0,⟨0,0⟩,0,[]⟩),bv b]) (by rfl)⟩
theorem ykg  :x3 Tryz.prog 184 [] [] (fun r h'=>h'= []∧r= .tup [.agg (evR ⟨0,0,0,0,0,⟨0,0⟩,0,[]⟩),bv true]):=by
 refine z6 Tryz.func184 rfl rfl rfl ?_
 refine rn ?_;refine z7 rfl (x6 rfl fun b0=> ?_)
 refine rn ?_;exact zea (.cons _ _ _ _ (.agg _ _ _ _ _ _ _ rfl inferInstance inferInstance inferInstance rfl) (.cons _ _ _ _ (.tmp _ _ rfl) .nil)) (.trans (.drop1 _ _ _) (zbf (by exact Sb.aggs (by exact ⟨.refl _,.refl _,.refl _,.refl _,.refl _,.refl _,.refl _,.refl _,.nil _ _,trivial⟩)) (by exact .refl _))) ⟨rfl,congrArg (fun b=>AV.tup [.agg (evR ⟨0,0,0,0,0,⟨0,0⟩,0,[]⟩),bv b]) (by rfl)⟩
theorem ybp (h:Hist) (e:Ev) (b2 b3 k:Nat) (hl:e.scan.length≤4611686018427387904) (hk:e.kind=k) (h1:1≤k) (h7:k < 7):
 ∃av,(([.v .nilFunc,.fn (.func 175) [] [pZ b3,pZ b2],.fn (.func 177) [] [pZ b3,pZ b2],.fn (.func 179) [] [pZ b3,pZ b2],.fn (.func 180) [] [pZ b2,pZ b3],.fn (.func 183) [] [],.fn (.func 184) [] []]):List AV)[k * 1]? =some av∧y3 Tryz.prog av [] [.box b3 66 (evR e),.box b2 28 (x4 h)] (fun r h'=>h'= [.box b3 66 (evR e),.box b2 28 (x4 h)]∧r= .tup [.agg (evR (zjt h e).1),bv (zjt h e).2]):=by
 rcases (by omega:k=1∨k=2∨k=3∨k=4∨k=5∨k=6) with rfl|rfl|rfl|rfl|rfl|rfl
 ·refine ⟨_,rfl,?_⟩
  have hc:zjt h e=(⟨0,0,e.s,e.l,0,⟨0,0⟩,0,[]⟩,zdb h e):=by unfold zjt;rw [hk];rfl
  rw [hc]
  exact y3.of_acall (fs:= []) (cs:= [pZ b3,pZ b2]) (ykl e h b3 b2)
 ·refine ⟨_,rfl,?_⟩
  have hc:zjt h e=(⟨0,0,0,0,e.o,e.v,0,[]⟩,zbc h e):=by unfold zjt;rw [hk];rfl
  rw [hc]
  exact y3.of_acall (fs:= []) (cs:= [pZ b3,pZ b2]) (ykk e h b3 b2)
 ·refine ⟨_,rfl,?_⟩
  have hc:zjt h e=(⟨0,0,0,0,e.o,e.v,0,[]⟩,zem h e):=by unfold zjt;rw [hk];rfl
  rw [hc]
  exact y3.of_acall (fs:= []) (cs:= [pZ b3,pZ b2]) (ykj e h b3 b2)
 ·refine ⟨_,rfl,?_⟩
  have hc:zjt h e=(⟨0,0,0,0,0,⟨0,0⟩,e.p,e.scan⟩,zcz h e):=by unfold zjt;rw [hk];rfl
  rw [hc]
  exact y3.of_acall (fs:= []) (cs:= [pZ b2,pZ b3]) (yki e h b3 b2 hl)
 ·refine ⟨_,rfl,?_⟩
  have hc:zjt h e=(⟨0,0,0,0,0,⟨0,0⟩,0,[]⟩,true):=by unfold zjt;rw [hk];rfl
  rw [hc]
  exact y3.pure (R:=fun x=>x=_) (y3.of_acall (fs:= []) (cs:= []) ykh)
 ·refine ⟨_,rfl,?_⟩
  have hc:zjt h e=(⟨0,0,0,0,0,⟨0,0⟩,0,[]⟩,true):=by unfold zjt;rw [hk];rfl
  rw [hc]
  exact y3.pure (R:=fun x=>x=_) (y3.of_acall (fs:= []) (cs:= []) ykg)
theorem bvz4_4353 {a b:Bool} (h:a=b:=by first|(simp only [zf2, *,Bool.true_and,Bool.false_and,Bool.and_false,Bool.and_true,Bool.true_or,Bool.or_false,Bool.false_or,Bool.or_true,if_true,if_false,Bool.false_eq_true,Bool.not_true,Bool.not_false];done)|(simp_all [zf2];done)|(simp_all [zf2] <;> omega)):bv a=bv b:=congrArg bv h
theorem yna (h:Hist) (e:Ev) (hl:e.scan.length≤4611686018427387904):x3 Tryz.prog 137 [.agg (x4 h),.agg (evR e)] [] (fun r h'=>h'= []∧r=bv (zf2 h e)):=by
 refine z6 Tryz.func137 rfl rfl rfl ?_
 refine rn ?_;refine z7 rfl (w6 rfl rfl rfl fun b2=> ?_)
 refine z7 rfl (w6 rfl rfl rfl fun b3=> ?_)
 refine rn ?_;refine z7 rfl (x6 rfl fun b5=> ?_)
 refine rn ?_;refine q9 (fun hg2_3=> ?_) (fun hg2_3=> ?_)
 ·refine rn ?_;refine zrw rfl ?_;refine rn ?_;exact k7 rfl (.drop [_,_,_] _ _) ⟨rfl,bvz4_4353⟩
 ·refine rn ?_;refine q9 (fun hg2_8=> ?_) (fun hg2_8=> ?_)
  ·refine rn ?_;refine zrw rfl ?_;refine rn ?_;exact k7 rfl (.drop [_,_,_] _ _) ⟨rfl,bvz4_4353⟩
  ·refine rn ?_;refine qv rfl rfl (y6 rfl rfl (zax (zu5 h 0 e.t _ rfl (by decide)) (Sbs.refl _))) ?_
   refine rn ?_;refine z8 rfl (fun hc27=> ?_) (fun hc27=> ?_)
   ·refine rn ?_;exact k7 rfl (.drop [_,_,_] _ _) ⟨rfl,bvz4_4353⟩
   ·have hlo:1≤e.kind:=by simpa using hg2_3
    have hhi:e.kind < 7:=by simpa using hg2_8
    obtain ⟨k,hk⟩:=Int.eq_ofNat_of_zero_le (show 0≤e.kind by omega)
    obtain ⟨av,hav,hfc⟩:=ybp h e b2 b3 k hl hk (by omega) (by omega)
    refine zab ?_;refine j8 ?_;refine x9 (y5 ?_)
    refine q1 ?_;refine q1 ?_;refine qq rfl rfl (u6 rfl (by rw [←hk];rfl) (by omega)) ?_
    refine qq rfl rfl (j4 rfl (by simpa using hav)) ?_
    refine qv rfl rfl (y6 rfl rfl (y3.quiet (R:=fun x=>x=_) (h2:= [_]) (List.perm_append_comm (l₁:= [_])) hfc)) ?_
    refine rn ?_;refine z7 rfl (x6 rfl fun b6=> ?_)
    refine rn ?_;refine zgj 6 [(b6,66,_)] rfl (List.perm_append_comm (l₁:= [_])) ?_
    refine rn ?_;refine dw 0 rfl rfl rfl rfl rfl (Nat.le_of_ble_eq_true rfl) ?_
    refine rn2 ?_;show zcc _ _ _ _ _ _ ⟨_,[.box b6 66 _,.box b5 _ _,.box b3 66 (evR e),.box b2 28 (x4 h)],_⟩
    refine rn ?_;refine q9 (fun hg6_1=> ?_) (fun hg6_1=> ?_)
    ·refine rn ?_;refine qv rfl rfl (y6 rfl rfl (zax (zv0 {(zjt h e).1 with kind:=e.kind,t:=e.t} e (zx9 h e hl) hl) (by exact Sbs.refl _))) ?_
     refine rn ?_;exact k7 rfl (.drop [_,_,_,_] _ _) ⟨rfl,bvz4_4353⟩
    ·refine rn ?_;exact k7 rfl (.drop [_,_,_,_] _ _) ⟨rfl,bvz4_4353⟩
theorem zzu (h:Hist) (b:Nat) (t:Int):x3 Tryz.prog 133 [iv t,pZ b] [.box b 28 (x4 h)] (fun r h'=>h'= [.box b 28 (x4 h)]∧r=bv (zdh h.ts t)):=by
 refine z6 Tryz.func133 rfl rfl rfl ?_
 refine rn ?_;refine qv rfl rfl (y6 rfl rfl (zax (zu5 h 0 _ _ rfl (by decide)) (Sbs.refl _))) ?_
 refine rn ?_;exact k7 rfl (.refl _ _) ⟨rfl,congrArg bv (by rfl)⟩
theorem zvv {full:Bool} (h:Hist) (b:Nat) (ts:List Int) (hl:ts.length≤4611686018427387904):x3 Tryz.prog 131 [.list full 1 (ts.map zba),pZ b] [.box b 28 (x4 h)] (fun r h'=>h'= [.box b 28 (x4 h)]∧r=bv (tsB h ts)):=by
 refine z6 Tryz.func131 rfl rfl rfl ?_
 refine rn ?_;refine q9 (fun hg1_3=> ?_) (fun hg1_3=> ?_)
 ·refine rn ?_;refine qv rfl rfl (y6 rfl rfl (y3.of_fun (yk8 ts (.fn (.func 133) [] [pZ b]) (zdh h.ts) [.box b 28 (x4 h)] rfl (fun t _=>y3.of_acall (fs:= []) (cs:= [pZ b]) (zzu h b t)) hl))) ?_
  refine rn ?_;exact k7 rfl (.refl _ _) ⟨rfl,congrArg bv (by first|(simp only [tsB, *,Bool.true_and,Bool.false_and,Bool.and_false,Bool.and_true,Bool.true_or,Bool.or_false,Bool.false_or,Bool.or_true,if_true,if_false,Bool.false_eq_true,Bool.not_true,Bool.not_false];done)|(simp_all [tsB];done)|(simp_all [tsB] <;> omega))⟩
 ·refine rn ?_;exact k7 rfl (.refl _ _) ⟨rfl,congrArg bv (by first|(simp only [tsB, *,Bool.true_and,Bool.false_and,Bool.and_false,Bool.and_true,Bool.true_or,Bool.or_false,Bool.false_or,Bool.or_true,if_true,if_false,Bool.false_eq_true,Bool.not_true,Bool.not_false];done)|(simp_all [tsB];done)|(simp_all [tsB] <;> omega))⟩
theorem yeg (h:Hist) (b:Nat) (e:Ev) (hl:e.scan.length≤4611686018427387904):x3 Tryz.prog 136 [.agg (evR e),pZ b] [.box b 28 (x4 h)] (fun r h'=>h'= [.box b 28 (x4 h)]∧r=bv (zf2 h e)):=by
 refine z6 Tryz.func136 rfl rfl rfl ?_
 refine rn ?_;refine z7 rfl (w6 rfl rfl rfl fun b2=> ?_)
 refine rn ?_;refine qv rfl rfl (y6 rfl rfl (zax (yna h e hl) (Sbs.refl _))) ?_
 refine rn ?_;exact k7 rfl (.drop1 _ _ _) ⟨rfl,congrArg bv (by rfl)⟩
theorem yef (h:Hist) (b c:Nat) (m:H.Ord) (hl:m.ts.length≤4611686018427387904):x3 Tryz.prog 139 [.agg (zc7 m),pZ b,pZ c] [.box b 28 (x4 h),.box c 207 [.fn (.func 131) [] [pZ b]]] (fun r h'=>h'= [.box b 28 (x4 h),.box c 207 [.fn (.func 131) [] [pZ b]]]∧r=bv (zu6 h m)):=by
 refine z6 Tryz.func139 rfl rfl rfl ?_
 refine rn ?_;refine z7 rfl (w6 rfl rfl rfl fun b3=> ?_)
 refine rn ?_;refine qv rfl rfl (y6 rfl rfl (zax (zu5 h 2 _ _ rfl (by decide)) (Sbs.refl _))) ?_
 refine rn ?_;refine q9 (fun hg1_4=> ?_) (fun hg1_4=> ?_)
 ·refine rn ?_;refine qv rfl rfl (y6 rfl rfl (y3.quiet (R:=fun x=>x=bv (tsB h m.ts)) (h2:= [_,_]) (List.Perm.swap _ _ _) (y3.of_acall (fs:= []) (cs:= [pZ b]) (zvv h b m.ts hl)))) ?_
  refine rn ?_;exact k7 rfl (.drop1 _ _ _) ⟨rfl,congrArg bv (by first|(simp only [zu6, *,Bool.true_and,Bool.false_and,Bool.and_false,Bool.and_true,Bool.true_or,Bool.or_false,Bool.false_or,Bool.or_true,if_true,if_false,Bool.false_eq_true,Bool.not_true,Bool.not_false];done)|(simp_all [zu6];done)|(simp_all [zu6] <;> omega))⟩
 ·refine rn ?_;exact k7 rfl (.drop1 _ _ _) ⟨rfl,congrArg bv (by first|(simp only [zu6, *,Bool.true_and,Bool.false_and,Bool.and_false,Bool.and_true,Bool.true_or,Bool.or_false,Bool.false_or,Bool.or_true,if_true,if_false,Bool.false_eq_true,Bool.not_true,Bool.not_false];done)|(simp_all [zu6];done)|(simp_all [zu6] <;> omega))⟩
theorem bvz5_7904 {a b:Bool} (h:a=b:=by first|(simp only [yau, *,Bool.true_and,Bool.false_and,Bool.and_false,Bool.and_true,Bool.true_or,Bool.or_false,Bool.false_or,Bool.or_true,if_true,if_false,Bool.false_eq_true,Bool.not_true,Bool.not_false];done)|(simp_all [yau];done)|(simp_all [yau] <;> omega)):bv a=bv b:=congrArg bv h
theorem yee (h:Hist) (b c:Nat) (m:Mat) (hl:m.ts.length≤4611686018427387904):x3 Tryz.prog 141 [.agg (zdc m),pZ b,pZ c] [.box b 28 (x4 h),.box c 207 [.fn (.func 131) [] [pZ b]]] (fun r h'=>h'= [.box b 28 (x4 h),.box c 207 [.fn (.func 131) [] [pZ b]]]∧r=bv (yau h m)):=by
 refine z6 Tryz.func141 rfl rfl rfl ?_
 refine rn ?_;refine z7 rfl (w6 rfl rfl rfl fun b3=> ?_)
 refine rn ?_;refine qv rfl rfl (y6 rfl rfl (zax (zu5 h 3 _ _ rfl (by decide)) (Sbs.refl _))) ?_
 refine rn ?_;refine q9 (fun hg1_4=> ?_) (fun hg1_4=> ?_)
 ·refine rn ?_;refine qv rfl rfl (y6 rfl rfl (zax (zu5 h 2 _ _ rfl (by decide)) (Sbs.refl _))) ?_
  refine rn ?_;refine q9 (fun hg1_10=> ?_) (fun hg1_10=> ?_)
  ·refine rn ?_;refine qv rfl rfl (y6 rfl rfl (y3.quiet (R:=fun x=>x=bv (tsB h m.ts)) (h2:= [_,_]) (List.Perm.swap _ _ _) (y3.of_acall (fs:= []) (cs:= [pZ b]) (zvv h b m.ts hl)))) ?_
   refine rn ?_;exact k7 rfl (.drop1 _ _ _) ⟨rfl,bvz5_7904⟩
  ·refine rn ?_;exact k7 rfl (.drop1 _ _ _) ⟨rfl,bvz5_7904⟩
 ·refine rn ?_;exact k7 rfl (.drop1 _ _ _) ⟨rfl,bvz5_7904⟩
theorem bvz6_7271 {a b:Bool} (h:a=b:=by first|(simp only [zvh, *,Bool.true_and,Bool.false_and,Bool.and_false,Bool.and_true,Bool.true_or,Bool.or_false,Bool.false_or,Bool.or_true,if_true,if_false,Bool.false_eq_true,Bool.not_true,Bool.not_false];done)|(simp_all [zvh];done)|(simp_all [zvh] <;> omega)):bv a=bv b:=congrArg bv h
theorem yed (h:Hist) (b:Nat) (w:Wan):x3 Tryz.prog 143 [.agg (zcm w),pZ b] [.box b 28 (x4 h)] (fun r h'=>h'= [.box b 28 (x4 h)]∧r=bv (zvh h w)):=by
 refine z6 Tryz.func143 rfl rfl rfl ?_
 refine rn ?_;refine z7 rfl (w6 rfl rfl rfl fun b2=> ?_)
 refine rn ?_;refine qv rfl rfl (y6 rfl rfl (zax (zu5 h 1 _ _ rfl (by decide)) (Sbs.refl _))) ?_
 refine rn ?_;refine q9 (fun hg1_4=> ?_) (fun hg1_4=> ?_)
 ·refine rn ?_;refine q9 (fun hg1_9=> ?_) (fun hg1_9=> ?_)
  ·refine rn ?_;exact k7 rfl (.drop1 _ _ _) ⟨rfl,bvz6_7271⟩
  ·refine rn ?_;exact k7 rfl (.drop1 _ _ _) ⟨rfl,bvz6_7271⟩
 ·refine rn ?_;exact k7 rfl (.drop1 _ _ _) ⟨rfl,bvz6_7271⟩
theorem bvz7_8119 {a b:Bool} (h:a=b:=by first|(simp only [zar, *,Bool.true_and,Bool.false_and,Bool.and_false,Bool.and_true,Bool.true_or,Bool.or_false,Bool.false_or,Bool.or_true,if_true,if_false,Bool.false_eq_true,Bool.not_true,Bool.not_false];done)|(simp_all [zar];done)):bv a=bv b:=congrArg bv h
theorem yh4 (h:Hist) (la:Lim 4611686018427387904 h):x3 Tryz.prog 103 [.agg (x4 h)] [.glob 3 148 y7,.glob 5 276 y9,.glob 6 279 y4] (fun r h'=>h'= [.glob 3 148 y7,.glob 5 276 y9,.glob 6 279 y4]∧r=bv (zar h)):=by
 refine z6 Tryz.func103 rfl rfl rfl ?_
 refine rn ?_;refine z7 rfl (w6 rfl rfl rfl fun b1=> ?_)
 refine rn ?_;refine zhv ?_;refine zgu (⟨[(1,pZ b1),(3,bv (okK h 0))],.box b1 28 (x4 h):: [.glob 3 148 y7,.glob 5 276 y9,.glob 6 279 y4],[]⟩) ?_ ?_
 ·refine rn ?_;refine q9 (fun hg1_4=> ?_) (fun hg1_4=> ?_)
  ·refine rn ?_;rw [show okK h 0=_ from zsl h,hg1_4]
   exact (x8 (.cons _ _ _ rfl (.cons _ _ _ rfl (.nil))))
  ·refine rn ?_;rw [show okK h 0=_ from zsl h,hg1_4]
   exact (x8 (.cons _ _ _ rfl (.cons _ _ _ rfl (.nil))))
 ·refine x9 ?_;refine ztn ?_;refine rn0 ?_;refine zgu (⟨[(3,bv (okK h 4)),(1,pZ b1)],.box b1 28 (x4 h):: [.glob 3 148 y7,.glob 5 276 y9,.glob 6 279 y4],[]⟩) ?_ ?_
  ·refine rn ?_;refine qv rfl rfl (y6 rfl rfl (zax (yff _) (Sbs.refl _))) ?_
   refine rn ?_;refine u9 (fun k:Nat=>k≤4) (fun k=>⟨[(29,iv k),(28,.agg (zir h)),(1,pZ b1),(3,bv (okK h k))],.box b1 28 (x4 h):: [.glob 3 148 y7,.glob 5 276 y9,.glob 6 279 y4],[]⟩) (fun k=>4 - k) 0 (by omega)
    (x8 (.cons _ _ _ rfl (.cons _ _ _ rfl (.cons _ _ _ rfl (.cons _ _ _ rfl (.nil)))))) ?_
   rintro k hk
   refine rn ?_;refine z8 rfl (fun hc30=> ?_) (fun hc30=> ?_)
   ·have hk4:k < 4:=by simp at hc30;omega
    refine zab ?_;refine j8 ?_;refine x9 ?_;refine zad ?_;refine x9 (y5 ?_)
    refine q1 ?_;refine qq rfl rfl (zck rfl rfl (by omega) (by have:=zwm h hk4;simpa using this)) ?_
    refine rn ?_;refine z7 rfl (zaq (enc:=zvp) rfl fun b33=> ?_)
    refine rn0 ?_;refine zgu (⟨[(5,zbg (nmK h k)),(3,bv (okj h k 0)),(6,.v (.map (some b33))),(29,iv k),(28,.agg (zir h)),(1,pZ b1)],.map b33 (j9 zvp []):: .box b1 28 (x4 h):: [.glob 3 148 y7,.glob 5 276 y9,.glob 6 279 y4],[]⟩) ?_ ?_
    ·refine rn ?_;refine q9 (fun hg6_1=> ?_) (fun hg6_1=> ?_)
     ·refine q1 ?_;refine q1 ?_;refine q1 ?_;refine qq rfl rfl (u6 rfl rfl (by omega)) ?_
      refine qq rfl rfl (j4 rfl (zq9 hk4)) ?_
      refine rn ?_;rw [ycq h k,hg6_1]
      first|exact (x8 (.cons _ _ _ rfl (.cons _ _ _ rfl (.cons _ _ _ rfl (.cons _ _ _ rfl (.cons _ _ _ rfl (.cons _ _ _ rfl (.nil))))))))|(rw [Bool.true_and];exact (x8 (.cons _ _ _ rfl (.cons _ _ _ rfl (.cons _ _ _ rfl (.cons _ _ _ rfl (.cons _ _ _ rfl (.cons _ _ _ rfl (.nil)))))))))
     ·refine rn ?_;rw [ycq h k,hg6_1]
      first|exact (x8 (.cons _ _ _ rfl (.cons _ _ _ rfl (.cons _ _ _ rfl (.cons _ _ _ rfl (.cons _ _ _ rfl (.cons _ _ _ rfl (.nil))))))))|(rw [Bool.true_and];exact (x8 (.cons _ _ _ rfl (.cons _ _ _ rfl (.cons _ _ _ rfl (.cons _ _ _ rfl (.cons _ _ _ rfl (.cons _ _ _ rfl (.nil)))))))))
    ·refine rn ?_;refine u9 (fun j:Nat=>j≤(nmK h k).length∧(0 < j→okj h k 0=true)∧zeg [] (nmK h k)=zeg ((nmK h k).take j) ((nmK h k).drop j)) (fun j=>⟨[(45,iv j),(43,zbg (nmK h k)),(44,iv ((nmK h k).map za7).length),(3,bv (okj h k 0)),(6,.v (.map (some b33))),(29,iv k),(28,.agg (zir h)),(1,pZ b1)],.map b33 (j9 zvp (yct ((nmK h k).take j))):: .box b1 28 (x4 h):: [.glob 3 148 y7,.glob 5 276 y9,.glob 6 279 y4],[]⟩) (fun j=>(nmK h k).length - j) 0 ⟨by omega,by omega,by simp⟩
      (x8 (.cons _ _ _ rfl (.cons _ _ _ rfl (.cons _ _ _ rfl (.cons _ _ _ rfl (.cons _ _ _ rfl (.cons _ _ _ rfl (.cons _ _ _ rfl (.cons _ _ _ rfl (.nil)))))))))) ?_
     rintro j ⟨hj,hok,hf⟩
     have hlk:=la.nm k
     refine rn ?_;refine z8 rfl (fun hc46=> ?_) (fun hc46=> ?_)
     ·have hj2:j < (nmK h k).length:=by simpa using hc46
      have hrow:(zbg (nmK h k))= .list false 1 ((nmK h k).map za7):=rfl
      have hrow2:((nmK h k).map za7)[j]? =some (za7 (nmK h k)[j]):=by simp [hj2]
      have hd:=List.drop_eq_getElem_cons hj2
      refine zab ?_;refine rn0 ?_;refine x9 ?_;refine zad ?_;refine x9 (y5 ?_)
      refine rn0 ?_;refine x9 ?_;refine zgu (⟨[(3,bv (okj h k 0 && wordB (nmK h k)[j] && !yas (nmK h k)[j] ((nmK h k).take j))),(8,sv (nmK h k)[j]),(45,iv j),(43,zbg (nmK h k)),(44,iv ((nmK h k).map za7).length),(6,.v (.map (some b33))),(29,iv k),(28,.agg (zir h)),(1,pZ b1)],.map b33 (j9 zvp (yct ((nmK h k).take j))):: .box b1 28 (x4 h):: [.glob 3 148 y7,.glob 5 276 y9,.glob 6 279 y4],[]⟩) ?_ ?_
      ·refine rn ?_;refine q9 (fun hg10_1=> ?_) (fun hg10_1=> ?_)
       ·refine rn ?_;refine qv rfl rfl (y6 rfl rfl (y3.qt (y3.of_fun (yny ((nmK h k)[j]))) ((pt3 _ _ _ _ _).trans (.cons _ (pt3 _ _ _ _ _))))) ?_
        refine rn ?_;refine q9 (fun hg10_5=> ?_) (fun hg10_5=> ?_)
        ·refine rn ?_;refine qq rfl rfl (zoj (enc:=zvp) (k:=(nmK h k)[j]) rfl rfl (zuh _ _)) ?_
         refine rn ?_;first|(rw [hg10_1,hg10_5];exact (x8 (.cons _ _ _ rfl (.cons _ _ _ rfl (.cons _ _ _ rfl (.cons _ _ _ rfl (.cons _ _ _ rfl (.cons _ _ _ rfl (.cons _ _ _ rfl (.cons _ _ _ rfl (.cons _ _ _ rfl (.nil))))))))))))|(rw [hg10_1];exact (x8 (.cons _ _ _ rfl (.cons _ _ _ rfl (.cons _ _ _ rfl (.cons _ _ _ rfl (.cons _ _ _ rfl (.cons _ _ _ rfl (.cons _ _ _ rfl (.cons _ _ _ rfl (.cons _ _ _ rfl (.nil))))))))))))
        ·refine rn ?_;first|(rw [hg10_1,hg10_5];exact (x8 (.cons _ _ _ rfl (.cons _ _ _ rfl (.cons _ _ _ rfl (.cons _ _ _ rfl (.cons _ _ _ rfl (.cons _ _ _ rfl (.cons _ _ _ rfl (.cons _ _ _ rfl (.cons _ _ _ rfl (.nil))))))))))))|(rw [hg10_1];exact (x8 (.cons _ _ _ rfl (.cons _ _ _ rfl (.cons _ _ _ rfl (.cons _ _ _ rfl (.cons _ _ _ rfl (.cons _ _ _ rfl (.cons _ _ _ rfl (.cons _ _ _ rfl (.cons _ _ _ rfl (.nil))))))))))))
       ·refine rn ?_;first|(rw [hg10_1,hg10_5];exact (x8 (.cons _ _ _ rfl (.cons _ _ _ rfl (.cons _ _ _ rfl (.cons _ _ _ rfl (.cons _ _ _ rfl (.cons _ _ _ rfl (.cons _ _ _ rfl (.cons _ _ _ rfl (.cons _ _ _ rfl (.nil))))))))))))|(rw [hg10_1];exact (x8 (.cons _ _ _ rfl (.cons _ _ _ rfl (.cons _ _ _ rfl (.cons _ _ _ rfl (.cons _ _ _ rfl (.cons _ _ _ rfl (.cons _ _ _ rfl (.cons _ _ _ rfl (.cons _ _ _ rfl (.nil))))))))))))
      ·refine rn ?_;refine z8 rfl (fun hc61=> ?_) (fun hc61=> ?_)
       ·have hfl:(okj h k 0 && wordB (nmK h k)[j] && !yas (nmK h k)[j] ((nmK h k).take j))=false:=zwj hc61
        have hbad:okK h 4=false:=yi4 hk4 (ymm (hf.trans (by rw [hd])) hfl)
        refine rn ?_;first
         |exact (x8 (.cons _ _ _ rfl (.cons _ _ _ rfl (.nil))))
         |(rw [hbad,←hfl];exact (w9 (zbd (h1:= [_])) (x8 (.cons _ _ _ rfl (.cons _ _ _ rfl (.nil))))))
       ·obtain ⟨hok2,hw,hfresh⟩:=yi5 (zwk hc61)
        refine rn ?_;refine z7 rfl (ziq (enc:=zvp) (k:=(nmK h k)[j]) rfl rfl rfl ?_)
        refine rn ?_;have hu:=zr6 ((nmK h k)[j]) ((nmK h k).take j) (yja.1 hfresh)
        rw [←List.take_succ_eq_append_getElem hj2] at hu
        exact ⟨j+1,⟨by omega,fun _=>hok2,by rw [hf,hd,zeg,hw,List.take_succ_eq_append_getElem hj2];simp [hfresh]⟩,by simp only [hu,hok2,hw,hfresh,Bool.true_and,Bool.not_false];exact (x8 (.cons _ _ _ rfl (.cons _ _ _ rfl (.cons _ _ _ rfl (.cons _ _ _ rfl (.cons _ _ _ rfl (.cons _ _ _ rfl (.cons _ _ _ rfl (.cons _ _ _ rfl (.nil)))))))))),by omega⟩
     ·have hj3:j=(nmK h k).length:=by
       have:(nmK h k).length≤j:=by simpa using hc46
       omega
      refine rn ?_;have hend:=yi3 (h:=h) (k:=k) (by rw [hf,hj3,List.drop_length];rfl)
      exact ⟨k+1,by omega,by rw [←hend];exact (w9 (zbd (h1:= [_])) (x8 (.cons _ _ _ rfl (.cons _ _ _ rfl (.cons _ _ _ rfl (.cons _ _ _ rfl (.nil))))))),by omega⟩
   ·have hk4:k=4:=by simp at hc30;omega
    subst hk4
    refine rn ?_;first
     |exact (x8 (.cons _ _ _ rfl (.cons _ _ _ rfl (.nil))))
     |(rw [hbad,←hfl];exact (w9 (zbd (h1:= [_])) (x8 (.cons _ _ _ rfl (.cons _ _ _ rfl (.nil))))))
  ·refine rn ?_;refine z7 rfl (x6 rfl fun b9=> ?_)
   refine rn ?_;refine q9 (fun hg16_1=> ?_) (fun hg16_1=> ?_)
   ·refine rn ?_;refine qv rfl rfl (y6 rfl rfl (y3.of_fun (ynl h.evs (.fn (.func 136) [] [pZ b1]) (zf2 h) (.box b9 207 [.fn (.func 131) [] [pZ b1]]:: .box b1 28 (x4 h):: [.glob 3 148 y7,.glob 5 276 y9,.glob 6 279 y4]) rfl (fun e he=>y3.qt (y3.of_acall (fs:= []) (cs:= [pZ b1]) (yeg h b1 e (la.scans e he))) (pt1 _ _ _)) la.evs))) ?_
    refine rn ?_;refine q9 (fun hg16_7=> ?_) (fun hg16_7=> ?_)
    ·refine rn ?_;refine qv rfl rfl (y6 rfl rfl (y3.of_fun (yk6 h.ords (.fn (.func 139) [] [pZ b1,pZ b9]) (zu6 h) (.box b9 207 [.fn (.func 131) [] [pZ b1]]:: .box b1 28 (x4 h):: [.glob 3 148 y7,.glob 5 276 y9,.glob 6 279 y4]) rfl (fun e he=>y3.qt (y3.of_acall (fs:= []) (cs:= [pZ b1,pZ b9]) (yef h b1 b9 e (la.ordts e he))) (pt1 _ _ _)) la.ords))) ?_
     refine rn ?_;refine q9 (fun hg16_13=> ?_) (fun hg16_13=> ?_)
     ·refine rn ?_;refine qv rfl rfl (y6 rfl rfl (y3.of_fun (yk7 h.mats (.fn (.func 141) [] [pZ b1,pZ b9]) (yau h) (.box b9 207 [.fn (.func 131) [] [pZ b1]]:: .box b1 28 (x4 h):: [.glob 3 148 y7,.glob 5 276 y9,.glob 6 279 y4]) rfl (fun e he=>y3.qt (y3.of_acall (fs:= []) (cs:= [pZ b1,pZ b9]) (yee h b1 b9 e (la.matts e he))) (pt1 _ _ _)) la.mats))) ?_
      refine rn ?_;refine q9 (fun hg16_19=> ?_) (fun hg16_19=> ?_)
      ·refine rn ?_;refine qv rfl rfl (y6 rfl rfl (y3.of_fun (yk5 h.wants (.fn (.func 143) [] [pZ b1]) (zvh h) (.box b9 207 [.fn (.func 131) [] [pZ b1]]:: .box b1 28 (x4 h):: [.glob 3 148 y7,.glob 5 276 y9,.glob 6 279 y4]) rfl (fun e he=>y3.qt (y3.of_acall (fs:= []) (cs:= [pZ b1]) (yed h b1 e)) (pt1 _ _ _)) la.wants))) ?_
       refine rn ?_;refine ⟨fun l h=>(by cases h),?_⟩
       exact k7 rfl (.drop [_,_] _ _) ⟨rfl,bvz7_8119⟩
      ·refine rn ?_;refine ⟨fun l h=>(by cases h),?_⟩
       exact k7 rfl (.drop [_,_] _ _) ⟨rfl,bvz7_8119⟩
     ·refine rn ?_;refine ⟨fun l h=>(by cases h),?_⟩
      exact k7 rfl (.drop [_,_] _ _) ⟨rfl,bvz7_8119⟩
    ·refine rn ?_;refine ⟨fun l h=>(by cases h),?_⟩
     exact k7 rfl (.drop [_,_] _ _) ⟨rfl,bvz7_8119⟩
   ·refine rn ?_;refine ⟨fun l h=>(by cases h),?_⟩
    exact k7 rfl (.drop [_,_] _ _) ⟨rfl,bvz7_8119⟩
theorem zt2 {σ:Type} (step:σ→Nat×Int→Option σ) (ok:Nat×Int→Prop) (IJ:Option σ→List Res→Prop) (y:AV) (hy:∀(s:σ) (L:List Res) (sort:Nat) (n:Int) (cells:List AV),ok (sort,n)→IJ (some s) L→y3 Tryz.prog y [iv sort,.pp (iv n::cells)] L (fun r h'=>r=bv (step s (sort,n)).isSome∧IJ (step s (sort,n)) h')) (sort:Nat) (n:Int) (hs:ok (sort,n)) (cells:List AV) (bm by_:Nat) (st:Option σ) (L:List Res) (hI:IJ st L):x3 Tryz.prog 145 [iv sort,.pp (iv n::cells),pZ bm,pZ by_] (.box bm 4 [bv (st).isSome]:: .box by_ 215 [y]::L) (fun r h'=>∃L',IJ (goes step st [(sort,n)]) L'∧h'= .box bm 4 [bv (goes step st [(sort,n)]).isSome]:: .box by_ 215 [y]::L'):=by
 refine z6 Tryz.func145 rfl rfl rfl ?_
 refine rn ?_;refine q9 (fun hg0_1=> ?_) (fun hg0_1=> ?_)
 ·refine rn ?_;obtain ⟨s,rfl⟩:=Option.isSome_iff_exists.1 hg0_1
  refine z7 rfl (w7 rfl rfl (y3.fr2 (hy s L sort n cells hs hI)) rfl ?_)
  rintro _ _ ⟨L2,rfl,rfl,hI2⟩
  refine rn ?_;first
   |exact zd1 .nil (.refl _ _) ⟨L2,hI2,rfl⟩
   |(obtain rfl:=Option.not_isSome_iff_eq_none.1 (show ¬st.isSome=true by simp [hg0_1])
     exact zd1 .nil (.refl _ _) ⟨L,hI,rfl⟩)
 ·refine rn ?_;first
   |exact zd1 .nil (.refl _ _) ⟨L2,hI2,rfl⟩
   |(obtain rfl:=Option.not_isSome_iff_eq_none.1 (show ¬st.isSome=true by simp [hg0_1])
     exact zd1 .nil (.refl _ _) ⟨L,hI,rfl⟩)
theorem yfj {σ:Type} (step:σ→Nat×Int→Option σ) (ok:Nat×Int→Prop) (IJ:Option σ→List Res→Prop) (y:AV) (hy:∀(s:σ) (L:List Res) (sort:Nat) (n:Int) (cells:List AV),ok (sort,n)→IJ (some s) L→y3 Tryz.prog y [iv sort,.pp (iv n::cells)] L (fun r h'=>r=bv (step s (sort,n)).isSome∧IJ (step s (sort,n)) h')) (v:Ver) (hv:∀x∈ze9 v,ok x) (cells:List AV) (bs bm by_:Nat) (st:Option σ) (L:List Res) (hI:IJ st L):x3 Tryz.prog 146 [.pp (iv v.t::iv v.k::cells),pZ bs] (.box bs 216 [.fn (.func 145) [] [pZ bm,pZ by_]]:: .box bm 4 [bv (st).isSome]:: .box by_ 215 [y]::L) (fun r h'=>∃L',IJ (goes step st (ze9 v)) L'∧h'= .box bs 216 [.fn (.func 145) [] [pZ bm,pZ by_]]:: .box bm 4 [bv (goes step st (ze9 v)).isSome]:: .box by_ 215 [y]::L'):=by
 refine z6 Tryz.func146 rfl rfl rfl ?_
 refine rn ?_;refine z8 rfl (fun hc7=> ?_) (fun hc7=> ?_)
 ·refine j5 4 rfl ?_
  refine rn ?_;refine z7 rfl (w7 rfl rfl (y3.fr1 (y3.of_acall (fs:= []) (cs:= [pZ bm,pZ by_]) (zt2 step ok IJ y hy 0 v.t (hv _ (by rw [ze9,if_pos hc7];simp)) (iv v.k::cells) bm by_ _ _ hI))) rfl ?_)
  rintro _ _ ⟨_,rfl,L2,hI2,rfl⟩
  refine rn ?_;first
   |(have hm:ze9 v= [(0,v.t)]:=by rw [ze9,if_pos hc7]
     rw [hm];exact zd1 .nil (.refl _ _) ⟨L2,hI2,rfl⟩)
   |(have hm:ze9 v= []:=by rw [ze9,if_neg (by rw [hc7];decide)]
     rw [hm];exact zd1 .nil (.refl _ _) ⟨L,hI,rfl⟩)
 ·refine rn ?_;first
   |(have hm:ze9 v= [(0,v.t)]:=by rw [ze9,if_pos hc7]
     rw [hm];exact zd1 .nil (.refl _ _) ⟨L2,hI2,rfl⟩)
   |(have hm:ze9 v= []:=by rw [ze9,if_neg (by rw [hc7];decide)]
     rw [hm];exact zd1 .nil (.refl _ _) ⟨L,hI,rfl⟩)
theorem yd8 {σ:Type} (step:σ→Nat×Int→Option σ) (ok:Nat×Int→Prop) (IJ:Option σ→List Res→Prop) (y:AV) (hone:y.cellsOf=some [y]) (hy:∀(s:σ) (L:List Res) (sort:Nat) (n:Int) (cells:List AV),ok (sort,n)→IJ (some s) L→y3 Tryz.prog y [iv sort,.pp (iv n::cells)] L (fun r h'=>r=bv (step s (sort,n)).isSome∧IJ (step s (sort,n)) h')) (h:Hist) (la:Lim 4611686018427387904 h) (b1 bh:Nat) (hok:∀x∈zb9 h,ok x) (s0:σ) (L0:List Res) (h0:IJ (some s0) L0):x3 Tryz.prog 144 [y,pZ b1] (.box b1 168 [pZ bh]:: .box bh 28 (x4 h)::L0) (fun r h'=>∃L',IJ (goes step (some s0) (zb9 h)) L'∧h'= .box b1 168 [pZ bh]:: .box bh 28 (x4 h)::L'):=by
 refine z6 Tryz.func144 rfl rfl rfl ?_
 refine rn ?_;refine z7 rfl (w6 rfl hone rfl fun by_=> ?_)
 refine rn ?_;refine z7 rfl (x6 rfl fun bm=> ?_)
 refine rn ?_;refine z7 rfl (x6 rfl fun bs=> ?_)
 refine rn ?_;refine u9 (fun x:Nat×Option σ×List Res=>x.1≤h.evs.length∧IJ x.2.1 x.2.2∧Rem step ok x.2.1 (((h.evs.drop x.1).flatMap evL)++(h.ords.flatMap yaj++(h.mats.flatMap zwt++h.wants.flatMap zp7))) (goes step (some s0) (zb9 h))) (fun x=>⟨[(22,iv x.1),(21,iv (h.evs.map evR).length),(1,pZ b1),(4,pZ bs),(5,.fn (.func 146) [] [pZ bs])],.box b1 168 [pZ bh]:: .box bh 28 (x4 h):: .box bs 216 [.fn (.func 145) [] [pZ bm,pZ by_]]:: .box bm 4 [bv (x.2.1).isSome]:: .box by_ 215 [y]::x.2.2,[]⟩) (fun x=>h.evs.length - x.1) (0,some s0,L0) ⟨by omega,h0,rfl,hok⟩
  (w9 (zak ((pt3 _ _ _ _ _).trans (.cons _ (pt3 _ _ _ _ _)))) (x8 (.cons _ _ _ rfl (.cons _ _ _ rfl (.cons _ _ _ rfl (.cons _ _ _ rfl (.cons _ _ _ rfl (.nil)))))))) ?_
 rintro ⟨k,st,L⟩ ⟨hk,hI,hF⟩
 simp only at hk hI hF
 refine rn ?_;refine z8 rfl (fun hc23=> ?_) (fun hc23=> ?_)
 ·have k2:k < h.evs.length:=by simpa using hc23
  obtain ⟨e,he⟩:∃e,e=h.evs[k]:=⟨_,rfl⟩
  have hrowe:(h.evs.map evR)[k]? =some (evR e):=by rw [he];simp [k2]
  have hde:=List.drop_eq_getElem_cons k2
  rw [hde,←he] at hF
  simp only [List.flatMap_cons,evL,List.cons_append,List.append_assoc] at hF
  obtain ⟨hx,hF⟩:=hF.cons
  obtain ⟨hkx,hF⟩:=hF.app
  have hle:=la.evs
  have hls:=la.scans e (by rw [he];simp)
  refine rn ?_;refine j5 4 rfl ?_
  refine rn ?_;refine z7 rfl (w7 rfl rfl (y3.fr3 (y3.of_acall (fs:= []) (cs:= [pZ bm,pZ by_]) (zt2 step ok IJ y hy 0 e.t hx _ bm by_ _ _ hI))) rfl ?_)
  rintro _ _ ⟨_,rfl,L,hI,rfl⟩
  refine rn0 ?_;refine zig (fun L=>IJ (goes step (goes step st [(0,e.t)]) (zfl e)) L) (fun L=>⟨[(7,.pp (evR e)),(22,iv k),(21,iv (h.evs.map evR).length),(1,pZ b1),(4,pZ bs),(5,.fn (.func 146) [] [pZ bs])],.box b1 168 [pZ bh]:: .box bh 28 (x4 h):: .box bs 216 [.fn (.func 145) [] [pZ bm,pZ by_]]:: .box bm 4 [bv (goes step (goes step st [(0,e.t)]) (zfl e)).isSome]:: .box by_ 215 [y]::L,[]⟩) ?_ ?_
  ·refine rn ?_;refine z8 rfl (fun hc40=> ?_) (fun hc40=> ?_)
   ·have hkl:=zra (e:=e) (by simpa using hc40)
    refine j5 4 rfl ?_
    refine rn ?_;refine z7 rfl (w7 rfl rfl (y3.fr3 (y3.of_acall (fs:= []) (cs:= [pZ bm,pZ by_]) (zt2 step ok IJ y hy 1 e.s (hkx _ (by rw [hkl];simp)) _ bm by_ _ _ hI))) rfl ?_)
    rintro _ _ ⟨_,rfl,L,hI,rfl⟩
    refine rn ?_;refine ⟨L,?_,?_⟩
    ·show IJ (goes step _ (zfl e)) L
     rw [hkl];exact hI
    ·rw [hkl];exact (x8 (.cons _ _ _ rfl (.cons _ _ _ rfl (.cons _ _ _ rfl (.cons _ _ _ rfl (.cons _ _ _ rfl (.cons _ _ _ rfl (.nil))))))))
   ·have hn1:e.kind≠1:=by simpa using hc40
    refine rn ?_;refine z8 rfl (fun hc47=> ?_) (fun hc47=> ?_)
    ·have hk23:e.kind=2∨e.kind=3:=by simp at hc47;omega
     have hkl:=zkj hk23
     refine rn ?_;refine z8 rfl (fun hc47=> ?_) (fun hc47=> ?_)
     ·have hk23:e.kind=2∨e.kind=3:=by simp at hc47;omega
      have hkl:=zkj hk23
      refine rn ?_;refine j5 4 rfl ?_
      refine rn ?_;refine z7 rfl (w7 rfl rfl (y3.fr3 (y3.of_acall (fs:= []) (cs:= [pZ bm,pZ by_]) (zt2 step ok IJ y hy 2 e.o (hkx _ (by rw [hkl];simp)) _ bm by_ _ _ hI))) rfl ?_)
      rintro _ _ ⟨_,rfl,L,hI,rfl⟩
      refine rn ?_;refine z7 rfl (w7 rfl rfl (y3.fr2 (y3.of_acall (fs:= []) (cs:= [pZ bs]) (yfj step ok IJ y hy e.v (fun x hx=>hkx x (by rw [hkl];simp [hx])) _ bs bm by_ _ _ hI))) rfl ?_)
      rintro _ _ ⟨_,rfl,L,hI,rfl⟩
      refine rn ?_;refine ⟨L,?_,?_⟩
      ·show IJ (goes step _ (zfl e)) L
       rw [hkl];exact hI
      ·rw [hkl];exact (x8 (.cons _ _ _ rfl (.cons _ _ _ rfl (.cons _ _ _ rfl (.cons _ _ _ rfl (.cons _ _ _ rfl (.cons _ _ _ rfl (.nil))))))))
     ·first|cases hc47|exact absurd hc47 (by decide)|(exfalso;simp_all;done)
    ·have hn23:=hc47
     simp at hn23
     refine rn ?_;refine z8 rfl (fun hc47=> ?_) (fun hc47=> ?_)
     ·have hk23:e.kind=2∨e.kind=3:=by simp at hc47;omega
      have hkl:=zkj hk23
      refine rn ?_;refine j5 4 rfl ?_
      refine rn ?_;refine z7 rfl (w7 rfl rfl (y3.fr3 (y3.of_acall (fs:= []) (cs:= [pZ bm,pZ by_]) (zt2 step ok IJ y hy 2 e.o (hkx _ (by rw [hkl];simp)) _ bm by_ _ _ hI))) rfl ?_)
      rintro _ _ ⟨_,rfl,L,hI,rfl⟩
      refine rn ?_;refine z7 rfl (w7 rfl rfl (y3.fr2 (y3.of_acall (fs:= []) (cs:= [pZ bs]) (yfj step ok IJ y hy e.v (fun x hx=>hkx x (by rw [hkl];simp [hx])) _ bs bm by_ _ _ hI))) rfl ?_)
      rintro _ _ ⟨_,rfl,L,hI,rfl⟩
      refine rn ?_;refine ⟨L,?_,?_⟩
      ·show IJ (goes step _ (zfl e)) L
       rw [hkl];exact hI
      ·rw [hkl];exact (x8 (.cons _ _ _ rfl (.cons _ _ _ rfl (.cons _ _ _ rfl (.cons _ _ _ rfl (.cons _ _ _ rfl (.cons _ _ _ rfl (.nil))))))))
     ·have hn23:=hc47
      simp at hn23
      refine rn ?_;refine z8 rfl (fun hc60=> ?_) (fun hc60=> ?_)
      ·have hkl:=zw5 (e:=e) (by simpa using hc60)
       refine j5 4 rfl ?_
       refine rn ?_;refine z7 rfl (w7 rfl rfl (y3.fr3 (y3.of_acall (fs:= []) (cs:= [pZ bm,pZ by_]) (zt2 step ok IJ y hy 3 e.p (hkx _ (by rw [hkl];simp)) _ bm by_ _ _ hI))) rfl ?_)
       rintro _ _ ⟨_,rfl,L,hI,rfl⟩
       refine rn ?_;refine ⟨L,?_,?_⟩
       ·show IJ (goes step _ (zfl e)) L
        rw [hkl];exact hI
       ·rw [hkl];exact (x8 (.cons _ _ _ rfl (.cons _ _ _ rfl (.cons _ _ _ rfl (.cons _ _ _ rfl (.cons _ _ _ rfl (.cons _ _ _ rfl (.nil))))))))
      ·have hn4:e.kind≠4:=by simpa using hc60
       have hkl:=zw6 (e:=e) hn1 (by omega) (by omega) hn4
       refine rn ?_;refine ⟨L,?_,?_⟩
       ·show IJ (goes step _ (zfl e)) L
        rw [hkl];exact hI
       ·rw [hkl];exact (x8 (.cons _ _ _ rfl (.cons _ _ _ rfl (.cons _ _ _ rfl (.cons _ _ _ rfl (.cons _ _ _ rfl (.cons _ _ _ rfl (.nil))))))))
  ·rintro L hI
   revert hI hF
   generalize goes step (goes step st [(0,e.t)]) (zfl e)=st2
   intro hF hI
   refine rn ?_;refine u9 (fun x:Nat×Option σ×List Res=>x.1≤e.scan.length∧IJ x.2.1 x.2.2∧Rem step ok x.2.1 (((e.scan.drop x.1).flatMap zt1)++(((h.evs.drop (k+1)).flatMap evL)++(h.ords.flatMap yaj++(h.mats.flatMap zwt++h.wants.flatMap zp7)))) (goes step (some s0) (zb9 h))) (fun x=>⟨[(72,iv x.1),(71,iv (e.scan.map zaw).length),(7,.pp (evR e)),(22,iv k),(21,iv (h.evs.map evR).length),(1,pZ b1),(4,pZ bs),(5,.fn (.func 146) [] [pZ bs])],.box b1 168 [pZ bh]:: .box bh 28 (x4 h):: .box bs 216 [.fn (.func 145) [] [pZ bm,pZ by_]]:: .box bm 4 [bv (x.2.1).isSome]:: .box by_ 215 [y]::x.2.2,[]⟩) (fun x=>e.scan.length - x.1) (0,st2,L) ⟨by omega,hI,hF⟩
    (x8 (.cons _ _ _ rfl (.cons _ _ _ rfl (.cons _ _ _ rfl (.cons _ _ _ rfl (.cons _ _ _ rfl (.cons _ _ _ rfl (.cons _ _ _ rfl (.cons _ _ _ rfl (.nil)))))))))) ?_
   rintro ⟨j,st,L⟩ ⟨hj,hI,hF⟩
   simp only at hj hI hF
   refine rn ?_;refine z8 rfl (fun hc73=> ?_) (fun hc73=> ?_)
   ·have j2:j < e.scan.length:=by simpa using hc73
    obtain ⟨x,hx⟩:∃x,x=e.scan[j]:=⟨_,rfl⟩
    have hrowx:(e.scan.map zaw)[j]? =some (zaw x):=by rw [hx];simp [j2]
    have hdx:=List.drop_eq_getElem_cons j2
    rw [hdx,←hx] at hF
    simp only [List.flatMap_cons,zt1,List.cons_append,List.append_assoc] at hF
    obtain ⟨hx,hF⟩:=hF.cons
    obtain ⟨hkx,hF⟩:=hF.app
    refine rn ?_;refine j5 8 rfl ?_
    refine rn ?_;refine z7 rfl (w7 rfl rfl (y3.fr3 (y3.of_acall (fs:= []) (cs:= [pZ bm,pZ by_]) (zt2 step ok IJ y hy 2 x.o hx _ bm by_ _ _ hI))) rfl ?_)
    rintro _ _ ⟨_,rfl,L,hI,rfl⟩
    refine rn ?_;refine z7 rfl (w7 rfl rfl (y3.fr2 (y3.of_acall (fs:= []) (cs:= [pZ bs]) (yfj step ok IJ y hy x.v hkx _ bs bm by_ _ _ hI))) rfl ?_)
    rintro _ _ ⟨_,rfl,L,hI,rfl⟩
    refine rn ?_;exact ⟨(j+1,_,L),⟨by omega,hI,hF⟩,(x8 (.cons _ _ _ rfl (.cons _ _ _ rfl (.cons _ _ _ rfl (.cons _ _ _ rfl (.cons _ _ _ rfl (.cons _ _ _ rfl (.cons _ _ _ rfl (.cons _ _ _ rfl (.nil)))))))))),by simp only;omega⟩
   ·obtain rfl:j=e.scan.length:=by
     have:e.scan.length≤j:=by simpa using hc73
     omega
    rw [List.drop_length,List.flatMap_nil,List.nil_append] at hF
    refine rn ?_;exact ⟨(k+1,_,L),⟨by omega,hI,hF⟩,(x8 (.cons _ _ _ rfl (.cons _ _ _ rfl (.cons _ _ _ rfl (.cons _ _ _ rfl (.cons _ _ _ rfl (.nil))))))),by simp only;omega⟩
 ·obtain rfl:k=h.evs.length:=by
   have:h.evs.length≤k:=by simpa using hc23
   omega
  rw [List.drop_length,List.flatMap_nil,List.nil_append] at hF
  refine rn ?_;refine u9 (fun x:Nat×Option σ×List Res=>x.1≤h.ords.length∧IJ x.2.1 x.2.2∧Rem step ok x.2.1 (((h.ords.drop x.1).flatMap yaj)++(h.mats.flatMap zwt++h.wants.flatMap zp7)) (goes step (some s0) (zb9 h))) (fun x=>⟨[(100,iv x.1),(99,iv (h.ords.map zc7).length),(1,pZ b1),(4,pZ bs),(5,.fn (.func 146) [] [pZ bs])],.box b1 168 [pZ bh]:: .box bh 28 (x4 h):: .box bs 216 [.fn (.func 145) [] [pZ bm,pZ by_]]:: .box bm 4 [bv (x.2.1).isSome]:: .box by_ 215 [y]::x.2.2,[]⟩) (fun x=>h.ords.length - x.1) (0,st,L) ⟨by omega,hI,hF⟩
   (x8 (.cons _ _ _ rfl (.cons _ _ _ rfl (.cons _ _ _ rfl (.cons _ _ _ rfl (.cons _ _ _ rfl (.nil))))))) ?_
  rintro ⟨k,st,L⟩ ⟨hk,hI,hF⟩
  simp only at hk hI hF
  refine rn ?_;refine z8 rfl (fun hc101=> ?_) (fun hc101=> ?_)
  ·have k2:k < h.ords.length:=by simpa using hc101
   obtain ⟨r,hr⟩:∃r,r=h.ords[k]:=⟨_,rfl⟩
   have hrowr:(h.ords.map zc7)[k]? =some (zc7 r):=by rw [hr];simp [k2]
   have hdr:=List.drop_eq_getElem_cons k2
   rw [hdr,←hr] at hF
   simp only [List.flatMap_cons,yaj,List.cons_append,List.append_assoc] at hF
   obtain ⟨hx,hF⟩:=hF.cons
   have hle:=la.ords
   have hls:=la.ordts r (by rw [hr];simp)
   refine rn ?_;refine j5 8 rfl ?_
   refine rn ?_;refine z7 rfl (w7 rfl rfl (y3.fr3 (y3.of_acall (fs:= []) (cs:= [pZ bm,pZ by_]) (zt2 step ok IJ y hy 2 r.o hx _ bm by_ _ _ hI))) rfl ?_)
   rintro _ _ ⟨_,rfl,L,hI,rfl⟩
   refine rn ?_;refine u9 (fun x:Nat×Option σ×List Res=>x.1≤r.ts.length∧IJ x.2.1 x.2.2∧Rem step ok x.2.1 (((r.ts.drop x.1).map fun t=>((0:Nat),t))++(((h.ords.drop (k+1)).flatMap yaj)++(h.mats.flatMap zwt++h.wants.flatMap zp7))) (goes step (some s0) (zb9 h))) (fun x=>⟨[(121,iv x.1),(120,iv (r.ts.map zba).length),(9,iv k),(100,iv k),(99,iv (h.ords.map zc7).length),(1,pZ b1),(4,pZ bs),(5,.fn (.func 146) [] [pZ bs])],.box b1 168 [pZ bh]:: .box bh 28 (x4 h):: .box bs 216 [.fn (.func 145) [] [pZ bm,pZ by_]]:: .box bm 4 [bv (x.2.1).isSome]:: .box by_ 215 [y]::x.2.2,[]⟩) (fun x=>r.ts.length - x.1) (0,_,L) ⟨by omega,hI,hF⟩
    (x8 (.cons _ _ _ rfl (.cons _ _ _ rfl (.cons _ _ _ rfl (.cons _ _ _ rfl (.cons _ _ _ rfl (.cons _ _ _ rfl (.cons _ _ _ rfl (.cons _ _ _ rfl (.nil)))))))))) ?_
   rintro ⟨j,st,L⟩ ⟨hj,hI,hF⟩
   simp only at hj hI hF
   refine rn ?_;refine z8 rfl (fun hc122=> ?_) (fun hc122=> ?_)
   ·have j2:j < r.ts.length:=by simpa using hc122
    obtain ⟨t,ht⟩:∃t,t=r.ts[j]:=⟨_,rfl⟩
    have hrowt:(r.ts.map zba)[j]? =some (zba t):=by rw [ht];simp [j2]
    have hdt:=List.drop_eq_getElem_cons j2
    rw [hdt,←ht] at hF
    simp only [List.map_cons,List.cons_append] at hF
    obtain ⟨hx,hF⟩:=hF.cons
    refine rn ?_;refine j5 11 rfl ?_
    refine rn ?_;refine z7 rfl (w7 rfl rfl (y3.fr3 (y3.of_acall (fs:= []) (cs:= [pZ bm,pZ by_]) (zt2 step ok IJ y hy 0 t hx _ bm by_ _ _ hI))) rfl ?_)
    rintro _ _ ⟨_,rfl,L,hI,rfl⟩
    refine rn ?_;exact ⟨(j+1,_,L),⟨by omega,hI,hF⟩,(x8 (.cons _ _ _ rfl (.cons _ _ _ rfl (.cons _ _ _ rfl (.cons _ _ _ rfl (.cons _ _ _ rfl (.cons _ _ _ rfl (.cons _ _ _ rfl (.cons _ _ _ rfl (.nil)))))))))),by simp only;omega⟩
   ·obtain rfl:j=r.ts.length:=by
     have:r.ts.length≤j:=by simpa using hc122
     omega
    rw [List.drop_length,List.map_nil,List.nil_append] at hF
    refine rn ?_;exact ⟨(k+1,_,L),⟨by omega,hI,hF⟩,(x8 (.cons _ _ _ rfl (.cons _ _ _ rfl (.cons _ _ _ rfl (.cons _ _ _ rfl (.cons _ _ _ rfl (.nil))))))),by simp only;omega⟩
  ·obtain rfl:k=h.ords.length:=by
    have:h.ords.length≤k:=by simpa using hc101
    omega
   rw [List.drop_length,List.flatMap_nil,List.nil_append] at hF
   refine rn ?_;refine u9 (fun x:Nat×Option σ×List Res=>x.1≤h.mats.length∧IJ x.2.1 x.2.2∧Rem step ok x.2.1 (((h.mats.drop x.1).flatMap zwt)++h.wants.flatMap zp7) (goes step (some s0) (zb9 h))) (fun x=>⟨[(143,iv x.1),(142,iv (h.mats.map zdc).length),(1,pZ b1),(4,pZ bs),(5,.fn (.func 146) [] [pZ bs])],.box b1 168 [pZ bh]:: .box bh 28 (x4 h):: .box bs 216 [.fn (.func 145) [] [pZ bm,pZ by_]]:: .box bm 4 [bv (x.2.1).isSome]:: .box by_ 215 [y]::x.2.2,[]⟩) (fun x=>h.mats.length - x.1) (0,st,L) ⟨by omega,hI,hF⟩
    (x8 (.cons _ _ _ rfl (.cons _ _ _ rfl (.cons _ _ _ rfl (.cons _ _ _ rfl (.cons _ _ _ rfl (.nil))))))) ?_
   rintro ⟨k,st,L⟩ ⟨hk,hI,hF⟩
   simp only at hk hI hF
   refine rn ?_;refine z8 rfl (fun hc144=> ?_) (fun hc144=> ?_)
   ·have k2:k < h.mats.length:=by simpa using hc144
    obtain ⟨r,hr⟩:∃r,r=h.mats[k]:=⟨_,rfl⟩
    have hrowr:(h.mats.map zdc)[k]? =some (zdc r):=by rw [hr];simp [k2]
    have hdr:=List.drop_eq_getElem_cons k2
    rw [hdr,←hr] at hF
    simp only [List.flatMap_cons,zwt,List.cons_append,List.append_assoc] at hF
    obtain ⟨hx,hF⟩:=hF.cons
    obtain ⟨hx2,hF⟩:=hF.cons
    have hle:=la.mats
    have hls:=la.matts r (by rw [hr];simp)
    refine rn ?_;refine j5 4 rfl ?_
    refine rn ?_;refine z7 rfl (w7 rfl rfl (y3.fr3 (y3.of_acall (fs:= []) (cs:= [pZ bm,pZ by_]) (zt2 step ok IJ y hy 3 r.p hx _ bm by_ _ _ hI))) rfl ?_)
    rintro _ _ ⟨_,rfl,L,hI,rfl⟩
    refine rn ?_;refine j5 4 rfl ?_
    refine rn ?_;refine z7 rfl (w7 rfl rfl (y3.fr3 (y3.of_acall (fs:= []) (cs:= [pZ bm,pZ by_]) (zt2 step ok IJ y hy 2 r.o hx2 _ bm by_ _ _ hI))) rfl ?_)
    rintro _ _ ⟨_,rfl,L,hI,rfl⟩
    refine rn ?_;refine u9 (fun x:Nat×Option σ×List Res=>x.1≤r.ts.length∧IJ x.2.1 x.2.2∧Rem step ok x.2.1 (((r.ts.drop x.1).map fun t=>((0:Nat),t))++(((h.mats.drop (k+1)).flatMap zwt)++h.wants.flatMap zp7)) (goes step (some s0) (zb9 h))) (fun x=>⟨[(167,iv x.1),(166,iv (r.ts.map zba).length),(12,.pp (zdc r)),(143,iv k),(142,iv (h.mats.map zdc).length),(1,pZ b1),(4,pZ bs),(5,.fn (.func 146) [] [pZ bs])],.box b1 168 [pZ bh]:: .box bh 28 (x4 h):: .box bs 216 [.fn (.func 145) [] [pZ bm,pZ by_]]:: .box bm 4 [bv (x.2.1).isSome]:: .box by_ 215 [y]::x.2.2,[]⟩) (fun x=>r.ts.length - x.1) (0,_,L) ⟨by omega,hI,hF⟩
     (x8 (.cons _ _ _ rfl (.cons _ _ _ rfl (.cons _ _ _ rfl (.cons _ _ _ rfl (.cons _ _ _ rfl (.cons _ _ _ rfl (.cons _ _ _ rfl (.cons _ _ _ rfl (.nil)))))))))) ?_
    rintro ⟨j,st,L⟩ ⟨hj,hI,hF⟩
    simp only at hj hI hF
    refine rn ?_;refine z8 rfl (fun hc168=> ?_) (fun hc168=> ?_)
    ·have j2:j < r.ts.length:=by simpa using hc168
     obtain ⟨t,ht⟩:∃t,t=r.ts[j]:=⟨_,rfl⟩
     have hrowt:(r.ts.map zba)[j]? =some (zba t):=by rw [ht];simp [j2]
     have hdt:=List.drop_eq_getElem_cons j2
     rw [hdt,←ht] at hF
     simp only [List.map_cons,List.cons_append] at hF
     obtain ⟨hx,hF⟩:=hF.cons
     refine rn ?_;refine j5 7 rfl ?_
     refine rn ?_;refine z7 rfl (w7 rfl rfl (y3.fr3 (y3.of_acall (fs:= []) (cs:= [pZ bm,pZ by_]) (zt2 step ok IJ y hy 0 t hx _ bm by_ _ _ hI))) rfl ?_)
     rintro _ _ ⟨_,rfl,L,hI,rfl⟩
     refine rn ?_;exact ⟨(j+1,_,L),⟨by omega,hI,hF⟩,(x8 (.cons _ _ _ rfl (.cons _ _ _ rfl (.cons _ _ _ rfl (.cons _ _ _ rfl (.cons _ _ _ rfl (.cons _ _ _ rfl (.cons _ _ _ rfl (.cons _ _ _ rfl (.nil)))))))))),by simp only;omega⟩
    ·obtain rfl:j=r.ts.length:=by
      have:r.ts.length≤j:=by simpa using hc168
      omega
     rw [List.drop_length,List.map_nil,List.nil_append] at hF
     refine rn ?_;exact ⟨(k+1,_,L),⟨by omega,hI,hF⟩,(x8 (.cons _ _ _ rfl (.cons _ _ _ rfl (.cons _ _ _ rfl (.cons _ _ _ rfl (.cons _ _ _ rfl (.nil))))))),by simp only;omega⟩
   ·obtain rfl:k=h.mats.length:=by
     have:h.mats.length≤k:=by simpa using hc144
     omega
    rw [List.drop_length,List.flatMap_nil,List.nil_append] at hF
    refine rn ?_;refine u9 (fun x:Nat×Option σ×List Res=>x.1≤h.wants.length∧IJ x.2.1 x.2.2∧Rem step ok x.2.1 (((h.wants.drop x.1).flatMap zp7)++ []) (goes step (some s0) (zb9 h))) (fun x=>⟨[(185,iv x.1),(184,iv (h.wants.map zcm).length),(1,pZ b1),(4,pZ bs),(5,.fn (.func 146) [] [pZ bs])],.box b1 168 [pZ bh]:: .box bh 28 (x4 h):: .box bs 216 [.fn (.func 145) [] [pZ bm,pZ by_]]:: .box bm 4 [bv (x.2.1).isSome]:: .box by_ 215 [y]::x.2.2,[]⟩) (fun x=>h.wants.length - x.1) (0,st,L) ⟨by omega,hI,by rw [List.append_nil];exact hF⟩
     (x8 (.cons _ _ _ rfl (.cons _ _ _ rfl (.cons _ _ _ rfl (.cons _ _ _ rfl (.cons _ _ _ rfl (.nil))))))) ?_
    rintro ⟨k,st,L⟩ ⟨hk,hI,hF⟩
    simp only at hk hI hF
    refine rn ?_;refine z8 rfl (fun hc186=> ?_) (fun hc186=> ?_)
    ·have k2:k < h.wants.length:=by simpa using hc186
     obtain ⟨r,hr⟩:∃r,r=h.wants[k]:=⟨_,rfl⟩
     have hrowr:(h.wants.map zcm)[k]? =some (zcm r):=by rw [hr];simp [k2]
     have hdr:=List.drop_eq_getElem_cons k2
     rw [hdr,←hr] at hF
     simp only [List.flatMap_cons,zp7,List.cons_append,List.append_assoc,List.nil_append] at hF
     obtain ⟨hx,hF⟩:=hF.cons
     have hle:=la.wants
     refine rn ?_;refine j5 8 rfl ?_
     refine rn ?_;refine z7 rfl (w7 rfl rfl (y3.fr3 (y3.of_acall (fs:= []) (cs:= [pZ bm,pZ by_]) (zt2 step ok IJ y hy 1 r.s hx _ bm by_ _ _ hI))) rfl ?_)
     rintro _ _ ⟨_,rfl,L,hI,rfl⟩
     refine rn ?_;exact ⟨(k+1,_,L),⟨by omega,hI,hF⟩,(x8 (.cons _ _ _ rfl (.cons _ _ _ rfl (.cons _ _ _ rfl (.cons _ _ _ rfl (.cons _ _ _ rfl (.nil))))))),by simp only;omega⟩
    ·obtain rfl:k=h.wants.length:=by
      have:h.wants.length≤k:=by simpa using hc186
      omega
     rw [List.drop_length,List.flatMap_nil,List.nil_append] at hF
     refine rn ?_;have hF':st=goes step (some s0) (zb9 h):=hF.fin
     exact zd1 .nil (.trans (.perm ((pt2 _ _ _ _).trans (.cons _ ((pt2 _ _ _ _).trans (.cons _ (pt2 _ _ _ _))))) _) (.drop [_,_,_] _ _)) ⟨L,hF' ▸ hI,rfl⟩
theorem yhz (bh:Nat) (h:List Res):x3 Tryz.prog 104 [pZ bh] h (fun r h'=>∃b1,h'= .box b1 168 [pZ bh]::h∧r= .fn (.func 144) [] [pZ b1]):=by
 refine z6 Tryz.func104 rfl rfl rfl ?_
 refine rn ?_;refine z7 rfl (w6 rfl rfl rfl fun b1=> ?_)
 refine rn ?_;exact k7 rfl (.refl _ _) ⟨_,rfl,rfl⟩
def IJC (lp:LP) (q b2 b3:Nat):Option (List Int)→List Res→Prop
 |some m,L=>L=lp .ready none:: .defs q:: .box b3 148 ((m).map iv):: .box b2 32 [iv 0]:: [.glob 3 148 y7,.glob 5 276 y9,.glob 6 279 y4]∧m.length=4
 |none,L=>∃m:List Int,L=lp .done (some .ret):: .defs q:: .box b3 148 ((m).map iv):: .box b2 32 [iv 210]:: [.glob 3 148 y7,.glob 5 276 y9,.glob 6 279 y4]
theorem ykq (h:Hist) (la:Lim 4611686018427387904 h):x3 Tryz.prog 51 [.agg (x4 h)] [.glob 3 148 y7,.glob 5 276 y9,.glob 6 279 y4] (fun r h'=>h'= [.glob 3 148 y7,.glob 5 276 y9,.glob 6 279 y4]∧r=iv (zc4 h)):=by
 refine z6 Tryz.func51 rfl rfl rfl ?_
 refine rn ?_;refine z7 rfl (w6 rfl rfl rfl fun b1=> ?_)
 refine z7 rfl (x6 rfl fun b2=> ?_)
 refine rn ?_;refine qv rfl rfl (y6 rfl rfl (y3.qt (y3.of_fun (yh4 h la)) ((pt2 _ _ _ _).trans (.cons _ ((pt2 _ _ _ _).trans (.cons _ (pt2 _ _ _ _))))))) ?_
 refine rn ?_;refine z8 rfl (fun hc10=> ?_) (fun hc10=> ?_)
 ·have hs:zar h=false:=zwj hc10
  refine rn ?_;exact zea (.cons _ _ _ _ (.one _ _ _ _ _ _ _ rfl inferInstance inferInstance rfl) .nil) (.drop [_,_] _ _) ⟨rfl,congrArg iv (ybw hs).symm⟩
 ·have hs:zar h=true:=zwk hc10
  refine rn ?_;refine z7 rfl (x6 rfl fun b3=> ?_)
  refine rn ?_;refine z7 rfl (w7 rfl rfl (y3.of_fun (yhz b1 _)) rfl ?_)
  rintro _ _ ⟨b1',rfl,rfl⟩
  refine rn ?_;refine zli (fun pend h''=>(pend=none∧∃m:List Int,zlh h=some m∧m.length=4∧h''= .box b1' 168 [pZ b1]:: .box b1 28 (x4 h):: .box b3 148 ((m).map iv):: .box b2 32 [iv 0]:: [.glob 3 148 y7,.glob 5 276 y9,.glob 6 279 y4])∨(pend=some .ret∧zlh h=none∧∃m:List Int,h''= .box b1' 168 [pZ b1]:: .box b1 28 (x4 h):: .box b3 148 ((m).map iv):: .box b2 32 [iv 210]:: [.glob 3 148 y7,.glob 5 276 y9,.glob 6 279 y4])) rfl (fun fn l q lp hlp=> ?_) (fun q h'' hK=> ?_) (fun q h'' c hK=> ?_)
  ·suffices hy:∀(s:List Int) (L:List Res) (sort:Nat) (n:Int) (cells:List AV),OkN h (sort,n)→IJC lp q b2 b3 (some s) L→y3 Tryz.prog (yv l) [iv sort,.pp (iv n::cells)] L (fun r h'=>r=bv (zao s (sort,n)).isSome∧IJC lp q b2 b3 (zao s (sort,n)) h') by
    refine x3.mono (x3.perm ((pt2 _ _ _ _).trans (.cons _ (pt4 _ _ _ _ _ _))) (yd8 zao (OkN h) (IJC lp q b2 b3) (yv l) rfl hy h la b1' b1 (zvu hs) [0,0,0,0] _ ⟨rfl,rfl⟩)) ?_
    rintro _ _ ⟨L',hI,rfl⟩
    cases hm:goes zao (some [0,0,0,0]) (zb9 h) with
    |some m=>
     rw [hm] at hI
     obtain ⟨rfl,hl⟩:=hI
     exact ⟨_,_,_,((pt2 _ _ _ _).trans (.cons _ (pt2 _ _ _ _))),by simp,.inl ⟨rfl,m,hm,hl,rfl⟩⟩
    |none=>
     rw [hm] at hI
     obtain ⟨m,rfl⟩:=hI
     exact ⟨_,_,_,((pt2 _ _ _ _).trans (.cons _ (pt2 _ _ _ _))),by simp,.inr ⟨rfl,hm,m,rfl⟩⟩
   rintro m _ sort n cells ⟨hs4,hn0,hn1⟩ ⟨rfl,hl⟩
   simp only at hs4 hn0 hn1
   have hnm:=la.nm sort
   refine ztd hlp rfl rfl ?_
   refine rn ?_;refine ⟨[(4,iv sort),(5,.pp (iv n::cells)),(3,pZ b3),(2,pZ b2)],(x8 (.cons _ _ _ rfl (.cons _ _ _ rfl (.cons _ _ _ rfl (.cons _ _ _ rfl (.nil)))))),?_⟩
   refine rn ?_;refine j5 6 rfl ?_
   refine dq rfl rfl qrA ?_;refine dq rfl rfl qrA ?_;refine dq rfl rfl qrA ?_;refine dq rfl rfl qrA ?_;refine dq rfl rfl (u6 rfl rfl hs4) ?_
   refine dq rfl rfl (j4 rfl (ym2 hl hs4)) ?_
   refine rn ?_;refine z8 rfl (fun hc20=> ?_) (fun hc20=> ?_)
   ·refine rn ?_;have hst:zao m (sort,n)=none:=by rw [zao];exact if_pos (by simpa using hc20)
    exact zmu (.refl _) (by rw [hst];exact ⟨rfl,_,rfl⟩)
   ·refine rn ?_;refine j5 9 rfl ?_
    refine dq rfl rfl qrA ?_;refine dq rfl rfl qrA ?_;refine dq rfl rfl (u6 rfl rfl hs4) ?_
    refine dq rfl rfl (j4 rfl (ym2 hl hs4)) ?_
    refine rn2 ?_;refine qq rfl rfl (u6 rfl rfl hs4) ?_
    refine z7 rfl (zbs rfl rfl rfl rfl (by simp [hl];omega) ?_)
    refine rn ?_;have hst:zao m (sort,n)=some (m.set sort (max (m.getD sort 0) (n+1))):=by rw [zao];exact if_neg (by simpa using hc20)
    exact zgw (.refl _) (by rw [hst];exact ⟨rfl,by rw [←yn7 hl hs4];rfl,by simpa using hl⟩)
  ·obtain ⟨_,m,hm,hl,rfl⟩|⟨hc,_⟩:=hK
   rotate_left
   ·cases hc
   refine rn ?_;refine qv rfl rfl (y6 rfl rfl (zax (yff _) (Sbs.refl _))) ?_
   refine rn ?_;refine u9 (fun k:Nat=>k≤4∧∀j,j < k→m.getD j 0=(nmK h j).length) (fun k=>⟨[(33,iv k),(32,.agg (zir h)),(3,pZ b3),(2,pZ b2)],.defs q:: .box b1' 168 [pZ b1]:: .box b1 28 (x4 h):: .box b3 148 ((m).map iv):: .box b2 32 [iv 0]:: [.glob 3 148 y7,.glob 5 276 y9,.glob 6 279 y4],[q]⟩) (fun k=>4 - k) 0 ⟨by omega,fun j hj=>absurd hj (Nat.not_lt_zero j)⟩
    (x8 (.cons _ _ _ rfl (.cons _ _ _ rfl (.cons _ _ _ rfl (.cons _ _ _ rfl (.nil)))))) ?_
   rintro k ⟨hk,hz⟩
   refine rn ?_;refine z8 rfl (fun hc34=> ?_) (fun hc34=> ?_)
   ·have hk4:k < 4:=by simp at hc34;omega
    refine zab ?_;refine j8 ?_;refine x9 ?_;refine zad ?_;refine x9 (y5 ?_)
    refine q1 ?_;refine qq rfl rfl (zck rfl rfl (by omega) (by have:=zwm h hk4;simpa using this)) ?_
    refine q1 ?_;refine q1 ?_;refine u3 (j8 ?_)
    refine x9 (y5 ?_)
    refine q1 ?_;refine qq rfl rfl (u6 rfl rfl hk4) ?_
    refine qq rfl rfl (j4 rfl (ym2 hl hk4)) ?_
    refine rn ?_;refine z8 rfl (fun hc42=> ?_) (fun hc42=> ?_)
    ·refine rn ?_;exact zgk (.refl _) (.cons _ _ _ _ (.one _ _ _ _ _ _ _ rfl inferInstance inferInstance rfl) .nil) (.drop [_,_,_,_] _ _) ⟨rfl,congrArg iv (ybx hm hk4 (by simpa using hc42)).symm⟩
    ·refine rn ?_;exact ⟨k+1,⟨by omega,fun j hj=>by
      by_cases hjk:j=k
      ·subst hjk;simpa using hc42
      ·exact hz j (by omega)⟩,(x8 (.cons _ _ _ rfl (.cons _ _ _ rfl (.cons _ _ _ rfl (.cons _ _ _ rfl (.nil)))))),by omega⟩
   ·have hk4:k=4:=by simp at hc34;omega
    subst hk4
    refine rn ?_;exact zgk (.refl _) (.cons _ _ _ _ (.one _ _ _ _ _ _ _ rfl inferInstance inferInstance rfl) .nil) (.drop [_,_,_,_] _ _) ⟨rfl,congrArg iv (yby hs hm hl hz).symm⟩
  ·obtain ⟨hc,_⟩|⟨hc,hm,m,rfl⟩:=hK
   ·cases hc
   obtain rfl:c= .ret:=by simpa using hc
   refine rn ?_;exact zgk (.refl _) (.cons _ _ _ _ (.one _ _ _ _ _ _ _ rfl inferInstance inferInstance rfl) .nil) (.drop [_,_,_,_] _ _) ⟨rfl,congrArg iv (zu1 hm).symm⟩
attribute [local irreducible] zdl jch zeb
def v7:List AV:= [.any,.fn (.func 245) [] [],.fn (.func 249) [] [],.fn (.func 250) [] [],.fn (.func 251) [] [],.fn (.func 252) [] [],.fn (.func 253) [] [],.fn (.func 254) [] [],.fn (.func 255) [] [],.fn (.func 256) [] [],.fn (.func 257) [] []]
def ylt (k:Nat):AV:=v7.getD k .any
theorem ygx {k:Nat} (h2:k≤10):v7[k]? =some (ylt k):=by
 have:k < v7.length:=by show k < 11;omega
 rw [ylt,List.getD_eq_getElem?_getD,List.getElem?_eq_getElem this];rfl
theorem yb4 (h:Hist) (la:Lim 3000 h) (b:Nat) (G:List Res) {k:Nat} (h1:1≤k) (h2:k≤10):y3 Tryz.prog (ylt k) [pZ b] (.box b 203 (zbi h)::G) (fun r h'=>h'=G∧r=zas (zcg h k)):=by
 match k,h1,h2 with
 |1,_,_=>exact y3.of_acall (fs:= []) (cs:= []) (yiu h la b G)
 |2,_,_=>exact y3.of_acall (fs:= []) (cs:= []) (yoe h la b G)
 |3,_,_=>exact y3.of_acall (fs:= []) (cs:= []) (yit h la b G)
 |4,_,_=>exact y3.of_acall (fs:= []) (cs:= []) (zz5 h la b G)
 |5,_,_=>exact y3.of_acall (fs:= []) (cs:= []) (yoa h la b G)
 |6,_,_=>exact y3.of_acall (fs:= []) (cs:= []) (ymd h la b G)
 |7,_,_=>exact y3.of_acall (fs:= []) (cs:= []) (yin h la b G)
 |8,_,_=>exact y3.of_acall (fs:= []) (cs:= []) (zz8 h la b G)
 |9,_,_=>exact y3.of_acall (fs:= []) (cs:= []) (yiq h la b G)
 |10,_,_=>exact y3.of_acall (fs:= []) (cs:= []) (ymb h la b G)
 |k+11,_,h2=>omega
theorem ye9 {o:Option Nat} {i:Int} {b:Bool} (h:zas o= .tup [iv i,bv b]):i=yog o∧b=o.isSome:=by
 cases o with
 |none=>simp only [zas,AV.tup.injEq,List.cons.injEq,AV.v.injEq,Value.int.injEq,Value.bool.injEq,true_and,and_true] at h;exact ⟨h.1.symm,h.2.symm⟩
 |some n=>simp only [zas,AV.tup.injEq,List.cons.injEq,AV.v.injEq,Value.int.injEq,Value.bool.injEq,true_and,and_true] at h;exact ⟨h.1.symm,h.2.symm⟩
theorem zq3 {h:Hist} (hm:zgf h=true):Lim 3000 h:=by
 unfold zgf at hm;simp only [Bool.and_eq_true] at hm;exact zt0 hm.1
theorem yis (h:Hist) (la:Lim 4611686018427387904 h):x3 Tryz.prog 91 [.agg (x4 h)] [.glob 3 148 y7,.glob 5 276 y9,.glob 6 279 y4,.glob 2 197 v7] (fun r h'=>h'= [.glob 3 148 y7,.glob 5 276 y9,.glob 6 279 y4,.glob 2 197 v7]∧r=zgh h):=by
 refine z6 Tryz.func91 rfl rfl rfl ?_
 refine rn ?_;refine z7 rfl (w6 rfl rfl rfl fun b1=> ?_)
 refine z7 rfl (x6 rfl fun b2=> ?_)
 refine rn ?_;refine qv rfl rfl (y6 rfl rfl (y3.qt (y3.of_fun (ykq h la)) ((pt2 _ _ _ _).trans (.cons _ ((pt2 _ _ _ _).trans (.cons _ (pt2 _ _ _ _))))))) ?_
 refine rn ?_;refine z8 rfl (fun hc12=> ?_) (fun hc12=> ?_)
 ·have hm:¬zgf h=true:=by intro q;rw [zc4,if_pos q] at hc12;cases hc12
  have he:zc4 h=210:=by rw [zc4,if_neg hm]
  refine rn ?_;exact zea (.cons _ _ _ _ (.agg _ _ _ _ _ _ _ rfl inferInstance inferInstance inferInstance rfl) (.cons _ _ _ _ (.tmp _ _ rfl) (.cons _ _ _ _ (.tmp _ _ rfl) .nil))) (.drop [_,_] _ _) ⟨rfl,by rw [zgh,if_neg hm,he];rfl⟩
 ·have hm:zgf h=true:=zx8.1 (by simpa using hc12)
  have la3:=zq3 hm
  refine rn ?_;refine zde (fun k:Nat=>(1≤k∧k≤11)∧zbj (zcg h) rules10=zbj (zcg h) (rules10.drop (k - 1))) (fun k=>⟨[(6,iv k),(1,pZ b1),(2,pZ b2)],(.box b2 152 [iv 0,iv 0]:: .box b1 28 (x4 h):: .glob 3 148 y7:: .glob 5 276 y9:: .glob 6 279 y4:: .glob 2 197 v7:: []),[]⟩) (fun k=>11 - k) 1 ⟨by omega,rfl⟩ es ?_
  rintro k ⟨⟨k1,k3⟩,zk⟩
  obtain ⟨pi,pb,hpv⟩:∃i b,zas (zcg h k)= .tup [iv i,bv b]:=zcx _
  obtain ⟨ei,eb⟩:=ye9 hpv
  refine rn ?_;refine z8 rfl (fun hc16=> ?_) (fun hc16=> ?_)
  ·have k2:k≤10:=by have:=oT hc16;omega
   refine zab ?_;refine rn0 ?_;refine x9 ?_;refine zad ?_;refine x9 ?_;refine zjv 11 [5,6] [7,8,9,10] (fun he=>he=(.box b2 152 [iv 0,iv 0]:: .box b1 28 (x4 h):: .glob 3 148 y7:: .glob 5 276 y9:: .glob 6 279 y4:: .glob 2 197 v7:: [])∨∃b,he= .box b 203 (zbi h)::(.box b2 152 [iv 0,iv 0]:: .box b1 28 (x4 h):: .glob 3 148 y7:: .glob 5 276 y9:: .glob 6 279 y4:: .glob 2 197 v7:: [])) rfl rfl (.inl rfl) ?_
   refine jq rfl (fun he hC=>by rcases hC with rfl|⟨b,rfl⟩ <;> exact qrA) ?_
   refine jq rfl (fun he hC=>by rcases hC with rfl|⟨b,rfl⟩ <;> exact (by exact u6 rfl rfl (by show k < 11;omega))) ?_
   refine jq rfl (fun he hC=>by rcases hC with rfl|⟨b,rfl⟩ <;> exact (by exact j4 rfl (show v7[0+k * 1]? =some (ylt k) by rw [Nat.zero_add,Nat.mul_one];exact ygx k2))) ?_
   refine jq rfl (fun he hC=>by rcases hC with rfl|⟨b,rfl⟩ <;> exact qrA) ?_
   refine jq rfl (fun he hC=>by rcases hC with rfl|⟨b,rfl⟩ <;> exact (by exact zac (out:=zbi h) rfl (by rfl))) ?_
   refine je rfl ?_;refine je rfl ?_;refine je rfl ?_;refine je rfl ?_;refine je rfl ?_;refine je rfl ?_;refine ya9 ?_;refine jce rfl fun u=> ?_
   refine w6 rfl rfl rfl fun b5=>⟨_,_,rfl,.inr ⟨_,rfl⟩,?_⟩
   refine jce rfl fun u=> ?_
   refine w7 rfl rfl (yb4 h la3 b5 _ k1 k2) rfl ?_
   rintro _ _ ⟨rfl,rfl⟩
   rw [hpv]
   refine ⟨_,_,rfl,.inl rfl,?_⟩
   refine jcn ?_;refine lq rfl rfl (by exact qrA) ?_
   refine lq rfl rfl (by exact qrA) ?_
   refine lq rfl rfl (by exact qrA) ?_
   refine lq rfl rfl (by exact qrA) ?_
   refine ln ?_;refine rn ?_;refine z8 rfl (fun hc29=> ?_) (fun hc29=> ?_)
   ·refine rn ?_;exact zea (.cons _ _ _ _ (.agg _ _ _ _ _ _ _ rfl inferInstance inferInstance inferInstance rfl) (.cons _ _ _ _ (.tmp _ _ rfl) (.cons _ _ _ _ (.tmp _ _ rfl) .nil))) (.drop [_,_] _ _) ⟨rfl,by
     cases hp:zcg h k with
     |none=>rw [hp] at eb;rw [eb] at hc29;cases hc29
     |some n=>rw [hp] at ei;subst ei;rw [zgh,if_pos hm,ziv,zxt k1 k2 zk hp];rfl⟩
   ·refine rn ?_;exact ⟨k+1,⟨by omega,zus k1 k2 zk (by cases hp:zcg h k with|none=>rfl|some n=>rw [hp] at eb;rw [eb] at hc29;cases hc29)⟩,eA,by omega⟩
  ·have k2:11≤k:=by have:=oF hc16;omega
   refine rn ?_;exact zea (.cons _ _ _ _ (.agg _ _ _ _ _ _ _ rfl inferInstance inferInstance inferInstance rfl) (.cons _ _ _ _ (.tmp _ _ rfl) (.cons _ _ _ _ (.tmp _ _ rfl) .nil))) (.drop [_,_] _ _) ⟨rfl,by rw [zgh,if_pos hm,ziv,zut k2 k3 zk];rfl⟩
theorem yco (h:Hist) (la:Lim 4611686018427387904 h):x3 Tryz.prog 45 [.agg (x4 h)] [.glob 3 148 y7,.glob 5 276 y9,.glob 6 279 y4,.glob 2 197 v7] (fun r h'=>h'= [.glob 3 148 y7,.glob 5 276 y9,.glob 6 279 y4,.glob 2 197 v7]∧r=bv (zbu h)):=by
 refine z6 Tryz.func45 rfl rfl rfl ?_
 refine rn ?_;refine z7 rfl (w6 rfl rfl rfl fun b1=> ?_)
 refine q1 ?_;refine u3 (j8 ?_)
 refine x9 (y5 ?_)
 obtain ⟨fi,fj,fb,fe,hf,hfb⟩:=zo7 h
 refine rn ?_;refine qv rfl rfl (y6 rfl rfl (y3.qt (y3.of_fun (yis h la)) ((pt1 _ _ _).trans (.cons _ ((pt1 _ _ _).trans (.cons _ ((pt1 _ _ _).trans (.cons _ (pt1 _ _ _))))))))) ?_
 rw [hf]
 refine rn ?_;refine z7 rfl (x6 rfl fun b3=> ?_)
 refine rn ?_;refine q9 (fun hg2_2=> ?_) (fun hg2_2=> ?_)
 ·refine rn ?_;refine rq 2 ?_
  exact ⟨rfl,congrArg bv (by rw [hfb];simp_all)⟩
 ·refine rn ?_;refine rq 2 ?_
  exact ⟨rfl,congrArg bv (by rw [hfb];simp_all)⟩
theorem zrc (h:Hist) (la:Lim 4611686018427387904 h):x3 Tryz.prog 23 [.agg (x4 h)] [.glob 3 148 y7,.glob 5 276 y9,.glob 6 279 y4,.glob 2 197 v7] (fun r h'=>h'= [.glob 3 148 y7,.glob 5 276 y9,.glob 6 279 y4,.glob 2 197 v7]∧r=iv (q8 h)):=by
 refine z6 Tryz.func23 rfl rfl rfl ?_
 refine rn ?_;refine z7 rfl (w6 rfl rfl rfl fun b1=> ?_)
 refine rn ?_;refine qv rfl rfl (y6 rfl rfl (y3.qt (y3.of_fun (ykq h la)) ((pt1 _ _ _).trans (.cons _ ((pt1 _ _ _).trans (.cons _ (pt1 _ _ _))))))) ?_
 refine rn ?_;refine z8 rfl (fun hc7=> ?_) (fun hc7=> ?_)
 ·have hm:¬zgf h=true:=by intro q;rw [zc4,if_pos q] at hc7;cases hc7
  have he:zc4 h=210:=by rw [zc4,if_neg hm]
  refine rn ?_;refine rq 1 ?_
  exact ⟨rfl,by rw [q8,if_neg hm,he];rfl⟩
 ·have hm:zgf h=true:=zx8.1 (by simpa using hc7)
  refine rn ?_;refine qv rfl rfl (y6 rfl rfl (y3.qt (y3.of_fun (yco h la)) ((pt1 _ _ _).trans (.cons _ ((pt1 _ _ _).trans (.cons _ ((pt1 _ _ _).trans (.cons _ (pt1 _ _ _))))))))) ?_
  refine rn ?_;refine z8 rfl (fun hc11=> ?_) (fun hc11=> ?_)
  ·refine rn ?_;refine rq 1 ?_
   exact ⟨rfl,by rw [q8,if_pos hm];simp_all;rfl⟩
  ·refine rn ?_;refine rq 1 ?_
   exact ⟨rfl,by rw [q8,if_pos hm];simp_all;rfl⟩
theorem zs4 (h:Hist) (kd:Int) (W:List Res):x3 Tryz.prog 120 [.agg (x4 h),iv kd] W (fun r h'=>∃b1 b2,h'= .box b1 28 (x4 h):: .box b2 3 [iv kd]::W∧r= .fn (.func 158) [] [pZ b1,pZ b2]):=by
 refine z6 Tryz.func120 rfl rfl rfl ?_
 refine rn ?_;refine z7 rfl (w6 rfl rfl rfl fun b2=> ?_)
 refine z7 rfl (w6 rfl rfl rfl fun b3=> ?_)
 refine rn ?_;exact k7 rfl (.perm (pt1 _ _ _) _) ⟨_,_,rfl,rfl⟩
theorem zoy {σ:Type} (h:Hist) (la:h.evs.length≤1000000) (kd:Int) (y:AV) (b1 b2:Nat) (p q:Nat→σ→Prop) (I F:Nat→σ→List Res) (x0:σ) (hp0:p 0 x0) (hy:∀k x,(hk:k < h.evs.length)→p k x→(h.evs[k].kind==kd)=true→y3 Tryz.prog y [iv k,.agg (evR h.evs[k])] (.box b1 28 (x4 h):: .box b2 3 [iv kd]::I k x) (fun r h'=>∃x',(r=bv true∧p (k+1) x'∧h'= .box b1 28 (x4 h):: .box b2 3 [iv kd]::I (k+1) x')∨(r=bv false∧q k x'∧h'= .box b1 28 (x4 h):: .box b2 3 [iv kd]::F k x'))) (hs:∀k x,(hk:k < h.evs.length)→p k x→(h.evs[k].kind==kd)=false→∃x',p (k+1) x'∧I (k+1) x'=I k x):x3 Tryz.prog 158 [y,pZ b1,pZ b2] (.box b1 28 (x4 h):: .box b2 3 [iv kd]::I 0 x0) (fun r h'=>(∃x,p h.evs.length x∧h'=I h.evs.length x)∨∃k x,q k x∧h'=F k x):=by
 refine z6 Tryz.func158 rfl rfl rfl ?_
 refine rn ?_;refine zer h.evs.length p (fun k x=>⟨[(9,iv k),(0,y),(2,pZ b2),(7,zrk h.evs),(8,iv (h.evs.map evR).length)],.box b1 28 (x4 h):: .box b2 3 [iv kd]::I k x,[]⟩) x0 hp0 es ?_
 intro k x lk zk
 refine rn ?_;refine z8 rfl (fun hc10=> ?_) (fun hc10=> ?_)
 ·have hk:=zdr hc10
  have rk:=zdp (f:=evR) hk
  refine rn ?_;refine z7 rfl (x6 rfl fun b5=> ?_)
  refine rn ?_;refine q9 (fun hg3_4=> ?_) (fun hg3_4=> ?_)
  ·refine q1 ?_;refine q1 ?_;refine q1 ?_;refine z7 rfl (w7 rfl rfl (y3.fr1 (hy k x hk zk (by simpa using hg3_4))) rfl ?_)
   rintro _ _ ⟨_,rfl,x',⟨rfl,hp,rfl⟩|⟨rfl,hq,rfl⟩⟩
   ·refine rn ?_;refine z8 rfl (fun hc24=> ?_) (fun hc24=> ?_)
    ·first|cases hc24|exact absurd hc24 (by decide)|(exfalso;simp_all;done)
    ·refine rn ?_;exact ⟨hk,x',hp,eA⟩
   ·refine rn ?_;refine z8 rfl (fun hc24=> ?_) (fun hc24=> ?_)
    ·refine rn ?_;exact zea .nil (.drop [_,_,_] _ _) (.inr ⟨k,x',hq,rfl⟩)
    ·first|cases hc24|exact absurd hc24 (by decide)|(exfalso;simp_all;done)
  ·refine rn ?_;refine zpv rfl ?_;refine rn ?_;obtain ⟨x',hp,e⟩:=hs k x hk zk (by simpa using hg3_4)
   exact ⟨hk,x',hp,by rw [e];exact eA⟩
 ·have qk:=zdx hc10 lk
  subst qk
  refine rn ?_;exact zd1 .nil (.drop [_,_] _ _) (.inl ⟨x,zk,rfl⟩)
def zn4 {α:Type} (kd:Int) (x:Nat→Ev→α) (p:Nat→Ev→Bool) (k:Nat) (e:Ev):Option α:=if (e.kind==kd && p k e)=true then some (x k e) else none
theorem ykc {α:Type} {kd:Int} {x:Nat→Ev→α} {p:Nat→Ev→Bool} {k:Nat} {e:Ev} (h:(e.kind==kd)=false):zn4 kd x p k e=none:=by rw [zn4,h];simp
theorem ykb {α:Type} {kd:Int} {x:Nat→Ev→α} {p:Nat→Ev→Bool} {k:Nat} {e:Ev} (h:p k e=false):zn4 kd x p k e=none:=by rw [zn4,h];simp
theorem yka {α:Type} {kd:Int} {x:Nat→Ev→α} {p:Nat→Ev→Bool} {k:Nat} {e:Ev} (h1:(e.kind==kd)=true) (h:p k e=true):zn4 kd x p k e=some (x k e):=by rw [zn4,h1,h];simp
theorem yc4 {α:Type} {f:Nat→Ev→Option α} {l:List Ev} {k:Nat} (h:k < l.length) (hf:f k l[k]=none):zjo f l (k+1)=zjo f l k:=by rw [zxo h,hf];simp
theorem yj9 {α:Type} {f:Nat→Ev→Option α} {l:List Ev} {k:Nat} {a:α} (h:k < l.length) (hf:f k l[k]=some a):zjo f l (k+1)=zjo f l k++ [a]:=by rw [zxo h,hf];rfl
theorem ycw (h:Hist) (la:h.evs.length≤1000000) (kd:Int) (fv:AV) (hone:fv.cellsOf=some [fv]) (W:List Res) (x:Nat→Ev→Int) (p:Nat→Ev→Bool) (hp:∀k,(hk:k < h.evs.length)→(h.evs[k].kind==kd)=true→y3 Tryz.prog fv [iv k,.agg (evR h.evs[k])] W (fun r h'=>h'=W∧r= .tup [iv (x k h.evs[k]),bv (p k h.evs[k])])):x3 Tryz.prog 73 [.agg (x4 h),iv kd,fv] W (fun r h'=>∃s:SV,h'= .row s.v 1 3 ((zjo (zn4 kd x p) h.evs h.evs.length).map zba)::W∧r= .v s.v):=by
 refine z6 Tryz.func73 rfl rfl rfl ?_
 refine rn ?_;refine z7 rfl (w6 rfl rfl rfl fun b3=> ?_)
 refine z7 rfl (w6 rfl hone rfl fun b5=> ?_)
 refine rn ?_;refine z7 rfl (x6 rfl fun b7=> ?_)
 refine rn ?_;refine z7 rfl (w7 rfl rfl (y3.of_fun (zs4 h kd _)) rfl ?_)
 rintro _ _ ⟨b1,b2,rfl,rfl⟩
 refine rn ?_;refine zix (s':=⟨[(14,.fn (.func 158) [] [pZ b1,pZ b2]),(5,pZ b5),(7,pZ b7)],.box b1 28 (x4 h):: .box b2 3 [iv kd]:: .box b7 54 [.v (⟨none,0,0⟩:SV).v]:: .row (⟨none,0,0⟩:SV).v 1 3 ((zjo (zn4 kd x p) h.evs 0).map zba):: .box b5 129 [fv]:: .box b3 28 (x4 h)::W,[]⟩) (w9 (w9 (za1 1 3) (zak ((pt1 _ _ _).trans (.cons _ ((pt1 _ _ _).trans (.cons _ (pt1 _ _ _))))))) es) ?_
 refine zli (fun pend h''=>pend=none∧∃s:SV,h''= .box b7 54 [.v s.v]:: .row s.v 1 3 ((zjo (zn4 kd x p) h.evs h.evs.length).map zba):: .box b5 129 [fv]:: .box b3 28 (x4 h)::W) rfl (fun fn l q lp hlp=> ?_) (fun q h'' hK=> ?_) (fun q h'' c hK=> ?_)
 ·suffices hy:∀k (s:SV),(hk:k < h.evs.length)→True→(h.evs[k].kind==kd)=true→y3 Tryz.prog (yv l) [iv k,.agg (evR h.evs[k])] (.box b1 28 (x4 h):: .box b2 3 [iv kd]::lp .ready none:: .defs q:: .box b7 54 [.v s.v]:: .row s.v 1 3 ((zjo (zn4 kd x p) h.evs k).map zba):: .box b5 129 [fv]:: .box b3 28 (x4 h)::W) (fun r h'=>∃s':SV,(r=bv true∧True∧h'= .box b1 28 (x4 h):: .box b2 3 [iv kd]::lp .ready none:: .defs q:: .box b7 54 [.v s'.v]:: .row s'.v 1 3 ((zjo (zn4 kd x p) h.evs (k+1)).map zba):: .box b5 129 [fv]:: .box b3 28 (x4 h)::W)∨(r=bv false∧False∧h'= .box b1 28 (x4 h):: .box b2 3 [iv kd]:: [])) by
   refine x3.mono (x3.perm ((pt2 _ _ _ _).trans (.cons _ (pt2 _ _ _ _))) (zoy h la kd (yv l) b1 b2 (fun _ _=>True) (fun _ _=>False) (fun k (s:SV)=>lp .ready none:: .defs q:: .box b7 54 [.v s.v]:: .row s.v 1 3 ((zjo (zn4 kd x p) h.evs k).map zba):: .box b5 129 [fv]:: .box b3 28 (x4 h)::W) (fun _ _=> []) ⟨none,0,0⟩ trivial hy (fun k s hk _ hn=>⟨s,trivial,by rw [yc4 hk (ykc hn)]⟩))) ?_
   rintro _ _ (⟨s,_,rfl⟩|⟨_,_,hF,_⟩)
   ·exact ⟨none,.ready,_,.refl _,by simp,rfl,s,rfl⟩
   ·exact hF.elim
  intro k s hk _ hkd
  refine y3.perm (pt2 _ _ _ _) (y3.ventE ?_)
  refine zdn hlp rfl rfl ?_
  refine rn ?_;refine z7 rfl (x6 rfl fun b9=> ?_)
  refine rn ?_;refine ⟨[(8,iv k),(9,pZ b9),(5,pZ b5),(7,pZ b7)],.box b9 66 (evR h.evs[k]):: .box b1 28 (x4 h):: .box b2 3 [iv kd]:: .defs q:: .box b7 54 [.v s.v]:: .row s.v 1 3 ((zjo (zn4 kd x p) h.evs k).map zba):: .box b5 129 [fv]:: .box b3 28 (x4 h)::W,w9 (zak (pt1 _ _ _)) es,?_⟩
  refine rn ?_;refine qv rfl rfl (y6 rfl rfl (y3.qt (h2:= [_,_,_,_,_,_,_,_,_]) (hp k hk hkd) (zcy [_,_,_,_,_,_,_,_,_] _))) ?_
  refine rn ?_;refine z8 rfl (fun hc24=> ?_) (fun hc24=> ?_)
  ·refine y5 ?_;refine q1 ?_;refine q1 ?_;refine q1 ?_;refine q1 ?_;refine q1 ?_;refine qq rfl rfl (zub rfl (by rfl) (by rfl)) ?_
   refine rn ?_;refine qv rfl rfl (u1 rfl rfl) ?_
   refine yb8 s.v ?_
   refine z7 rfl (j7 rfl rfl (by simp only [oM,List.length_cons,List.length_nil];have:=zng (zn4 kd x p) h.evs k;omega) rfl (fun s33=> ?_) (zkf [x k h.evs[k]]))
   refine zal s33 fun sv hsv=> ?_
   subst hsv
   refine rn ?_;exact zgw (.refl _) ⟨_,_,.trans (.perm ((pt1 _ _ _).trans (.cons _ ((pt1 _ _ _).trans (.cons _ (pt1 _ _ _))))) _) (.drop [_] _ _),sv,.inl ⟨rfl,trivial,by rw [yj9 hk (yka hkd hc24),List.map_append];rfl⟩⟩
  ·refine rn ?_;exact zgw (.refl _) ⟨_,_,.trans (.perm ((pt1 _ _ _).trans (.cons _ ((pt1 _ _ _).trans (.cons _ (pt1 _ _ _))))) _) (.drop [_] _ _),s,.inl ⟨rfl,trivial,by rw [yc4 hk (ykb hc24)]⟩⟩
 ·obtain ⟨_,s,rfl⟩:=hK
  refine rn ?_;exact zgk (.refl _) (.cons _ _ _ _ (.tmp _ _ rfl) .nil) (.trans (.drop1 _ _ _) (.trans (.perm (pt1 _ _ _) _) (.trans (.drop [_] _ _) (.trans (.perm (pt1 _ _ _) _) (.drop [_] _ _))))) ⟨s,rfl,rfl⟩
 ·obtain ⟨hc,_⟩:=hK
  exact absurd hc (by simp)
end Go.Proofs
