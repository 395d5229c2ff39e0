/- The decoding of runes. Conditions: none. -/
import Derived.Test.YtfmcbdjnmlcacaaGreatDoorRItG
set_option maxHeartbeats 4000000
set_option linter.unusedSectionVars false
set_option linter.unusedSimpArgs false
set_option linter.unusedVariables false
set_option maxRecDepth 10000
namespace Go.Proofs
open Go Go.Ab
attribute [local irreducible] QR QV OE zb7 aw zcp zb6 zbf zat thn zey
open Go.H
theorem zoq (s:ByteArray) (hx:zcg (bt s 0).toNat=240):y8 Tryz.prog 284 [.v (.string s)] [.glob 4 305 y3,.glob 5 308 y1] (fun r h'=>h'= [.glob 4 305 y3,.glob 5 308 y1]∧r= .tup [.v (.int .i32 (y5 s).1),iv (y5 s).2]):=by
 refine z6 Tryz.func284 rfl rfl rfl ?_
 refine rn ?_;refine z8 rfl (fun hc16=> ?_) (fun hc16=> ?_)
 ·refine rn ?_;have hd:y5 s=(65533,0):=by
   unfold y5
   rw [if_pos (by simp at hc16;omega)]
  exact zbs rfl rfl (.refl _ _) ⟨rfl,by rw [hd];rfl⟩
 ·have h1:0 < s.size:=by simp at hc16;omega
  refine rn ?_;refine qq rfl rfl (u7 0 rfl rfl (by omega)) ?_
  refine rn ?_;refine qq rfl rfl (j7 rfl rfl (zfl _ _) (zfk _ _)) ?_
  refine qq rfl rfl (zae rfl (show _=some (.v (.int .u8 240)) from by rw [zci (zfl s 0) (zfk s 0),hx])) ?_
  refine rn ?_;refine z8 rfl (fun hc23=> ?_) (fun hc23=> ?_)
  ·refine rn ?_;refine qq rfl rfl (u7 0 rfl rfl (by omega)) ?_
   refine rn ?_;have hd:y5 s=(bI .or .i32 (bI .andNot .i32 (IntKind.i32.wrap (bt s 0)) (zi8 240)) (bI .and .i32 65533 (zi8 240)),1):=by
    unfold y5
    rw [if_neg (by omega)]
    simp only [hx]
    rw [if_pos (by decide)]
   exact zbs rfl rfl (.refl _ _) ⟨rfl,by rw [hd];rfl⟩
  ·first|cases hc23|exact absurd hc23 (by decide)|(exfalso;simp_all;done)
theorem zop (s:ByteArray) (hx:zcg (bt s 0).toNat=241):y8 Tryz.prog 284 [.v (.string s)] [.glob 4 305 y3,.glob 5 308 y1] (fun r h'=>h'= [.glob 4 305 y3,.glob 5 308 y1]∧r= .tup [.v (.int .i32 (y5 s).1),iv (y5 s).2]):=by
 refine z6 Tryz.func284 rfl rfl rfl ?_
 refine rn ?_;refine z8 rfl (fun hc16=> ?_) (fun hc16=> ?_)
 ·refine rn ?_;have hd:y5 s=(65533,0):=by
   unfold y5
   rw [if_pos (by simp at hc16;omega)]
  exact zbs rfl rfl (.refl _ _) ⟨rfl,by rw [hd];rfl⟩
 ·have h1:0 < s.size:=by simp at hc16;omega
  refine rn ?_;refine qq rfl rfl (u7 0 rfl rfl (by omega)) ?_
  refine rn ?_;refine qq rfl rfl (j7 rfl rfl (zfl _ _) (zfk _ _)) ?_
  refine qq rfl rfl (zae rfl (show _=some (.v (.int .u8 241)) from by rw [zci (zfl s 0) (zfk s 0),hx])) ?_
  refine rn ?_;refine z8 rfl (fun hc23=> ?_) (fun hc23=> ?_)
  ·refine rn ?_;refine qq rfl rfl (u7 0 rfl rfl (by omega)) ?_
   refine rn ?_;have hd:y5 s=(bI .or .i32 (bI .andNot .i32 (IntKind.i32.wrap (bt s 0)) (zi8 241)) (bI .and .i32 65533 (zi8 241)),1):=by
    unfold y5
    rw [if_neg (by omega)]
    simp only [hx]
    rw [if_pos (by decide)]
   exact zbs rfl rfl (.refl _ _) ⟨rfl,by rw [hd];rfl⟩
  ·first|cases hc23|exact absurd hc23 (by decide)|(exfalso;simp_all;done)
theorem zss (s:ByteArray) (hx:zcg (bt s 0).toNat=2):y8 Tryz.prog 284 [.v (.string s)] [.glob 4 305 y3,.glob 5 308 y1] (fun r h'=>h'= [.glob 4 305 y3,.glob 5 308 y1]∧r= .tup [.v (.int .i32 (y5 s).1),iv (y5 s).2]):=by
 refine z6 Tryz.func284 rfl rfl rfl ?_
 refine rn ?_;refine z8 rfl (fun hc16=> ?_) (fun hc16=> ?_)
 ·refine rn ?_;have hd:y5 s=(65533,0):=by
   unfold y5
   rw [if_pos (by simp at hc16;omega)]
  exact zbs rfl rfl (.refl _ _) ⟨rfl,by rw [hd];rfl⟩
 ·have h1:0 < s.size:=by simp at hc16;omega
  refine rn ?_;refine qq rfl rfl (u7 0 rfl rfl (by omega)) ?_
  refine rn ?_;refine qq rfl rfl (j7 rfl rfl (zfl _ _) (zfk _ _)) ?_
  refine qq rfl rfl (zae rfl (show _=some (.v (.int .u8 2)) from by rw [zci (zfl s 0) (zfk s 0),hx])) ?_
  refine rn ?_;refine z8 rfl (fun hc23=> ?_) (fun hc23=> ?_)
  ·first|cases hc23|exact absurd hc23 (by decide)|(exfalso;simp_all;done)
  ·refine rn ?_;refine qq rfl rfl (j7 rfl rfl (by decide) (by decide)) ?_
   refine rn ?_;refine z7 rfl (y6 rfl fun b9=> ?_)
   refine rn ?_;refine z8 rfl (fun hc45=> ?_) (fun hc45=> ?_)
   ·refine rn ?_;have hd:y5 s=(65533,1):=by
     unfold y5
     rw [if_neg (by omega)]
     simp only [hx]
     rw [if_neg (by decide),if_pos (show (s.size:Int) < (2:Int) % 8 from oT hc45)]
    exact zbs rfl rfl (.drop1 _ _ _) ⟨rfl,by rw [hd];rfl⟩
   ·have h2:2≤s.size:=by
     have:¬((s.size:Int) < 2):=oF hc45
     omega
    refine rn ?_;refine qq rfl rfl (u7 1 rfl rfl (by omega)) ?_
    refine rn ?_;refine u4 (fun hg14_4=> ?_) (fun hg14_4=> ?_)
    ·refine rn ?_;refine z8 rfl (fun hc57=> ?_) (fun hc57=> ?_)
     ·refine rn ?_;have hd:y5 s=(65533,1):=by
       unfold y5
       rw [if_neg (by omega)]
       simp only [hx]
       rw [if_neg (by decide),if_neg (show ¬(s.size:Int) < (2:Int) % 8 from oF hc45),if_pos (show bt s 1 < zb0 ((2:Int) / 16).toNat∨zb1 ((2:Int) / 16).toNat < bt s 1 from by first|exact .inl (oT hg14_4)|exact .inr (oT hc57))]
      exact zbs rfl rfl (.drop1 _ _ _) ⟨rfl,by rw [hd];rfl⟩
     ·first|cases hc57|exact absurd hc57 (by decide)|(exfalso;simp_all;done)
    ·refine rn ?_;refine z8 rfl (fun hc57=> ?_) (fun hc57=> ?_)
     ·refine rn ?_;have hd:y5 s=(65533,1):=by
       unfold y5
       rw [if_neg (by omega)]
       simp only [hx]
       rw [if_neg (by decide),if_neg (show ¬(s.size:Int) < (2:Int) % 8 from oF hc45),if_pos (show bt s 1 < zb0 ((2:Int) / 16).toNat∨zb1 ((2:Int) / 16).toNat < bt s 1 from by first|exact .inl (oT hg14_4)|exact .inr (oT hc57))]
      exact zbs rfl rfl (.drop1 _ _ _) ⟨rfl,by rw [hd];rfl⟩
     ·refine rn ?_;refine z8 rfl (fun hc59=> ?_) (fun hc59=> ?_)
      ·refine rn ?_;have hd:y5 s=(bI .or .i32 (zcl (bt s 0) 31 6) (zcl (bt s 1) 63 0),2):=by
        unfold y5
        rw [if_neg (by omega)]
        simp only [hx]
        rw [if_neg (by decide),if_neg (show ¬(s.size:Int) < (2:Int) % 8 from oF hc45),if_neg (show ¬(bt s 1 < zb0 ((2:Int) / 16).toNat∨zb1 ((2:Int) / 16).toNat < bt s 1) from fun q=>q.elim (oF hg14_4) (oF hc57)),if_pos (by decide)]
       exact zbs rfl rfl (.drop1 _ _ _) ⟨rfl,by rw [hd];rfl⟩
      ·first|cases hc59|exact absurd hc59 (by decide)|(exfalso;simp_all;done)
theorem zql (s:ByteArray) (hx:zcg (bt s 0).toNat=19):y8 Tryz.prog 284 [.v (.string s)] [.glob 4 305 y3,.glob 5 308 y1] (fun r h'=>h'= [.glob 4 305 y3,.glob 5 308 y1]∧r= .tup [.v (.int .i32 (y5 s).1),iv (y5 s).2]):=by
 refine z6 Tryz.func284 rfl rfl rfl ?_
 refine rn ?_;refine z8 rfl (fun hc16=> ?_) (fun hc16=> ?_)
 ·refine rn ?_;have hd:y5 s=(65533,0):=by
   unfold y5
   rw [if_pos (by simp at hc16;omega)]
  exact zbs rfl rfl (.refl _ _) ⟨rfl,by rw [hd];rfl⟩
 ·have h1:0 < s.size:=by simp at hc16;omega
  refine rn ?_;refine qq rfl rfl (u7 0 rfl rfl (by omega)) ?_
  refine rn ?_;refine qq rfl rfl (j7 rfl rfl (zfl _ _) (zfk _ _)) ?_
  refine qq rfl rfl (zae rfl (show _=some (.v (.int .u8 19)) from by rw [zci (zfl s 0) (zfk s 0),hx])) ?_
  refine rn ?_;refine z8 rfl (fun hc23=> ?_) (fun hc23=> ?_)
  ·first|cases hc23|exact absurd hc23 (by decide)|(exfalso;simp_all;done)
  ·refine rn ?_;refine qq rfl rfl (j7 rfl rfl (by decide) (by decide)) ?_
   refine rn ?_;refine z7 rfl (y6 rfl fun b9=> ?_)
   refine rn ?_;refine z8 rfl (fun hc45=> ?_) (fun hc45=> ?_)
   ·refine rn ?_;have hd:y5 s=(65533,1):=by
     unfold y5
     rw [if_neg (by omega)]
     simp only [hx]
     rw [if_neg (by decide),if_pos (show (s.size:Int) < (19:Int) % 8 from oT hc45)]
    exact zbs rfl rfl (.drop1 _ _ _) ⟨rfl,by rw [hd];rfl⟩
   ·have h2:3≤s.size:=by
     have:¬((s.size:Int) < 3):=oF hc45
     omega
    refine rn ?_;refine qq rfl rfl (u7 1 rfl rfl (by omega)) ?_
    refine rn ?_;refine u4 (fun hg14_4=> ?_) (fun hg14_4=> ?_)
    ·refine rn ?_;refine z8 rfl (fun hc57=> ?_) (fun hc57=> ?_)
     ·refine rn ?_;have hd:y5 s=(65533,1):=by
       unfold y5
       rw [if_neg (by omega)]
       simp only [hx]
       rw [if_neg (by decide),if_neg (show ¬(s.size:Int) < (19:Int) % 8 from oF hc45),if_pos (show bt s 1 < zb0 ((19:Int) / 16).toNat∨zb1 ((19:Int) / 16).toNat < bt s 1 from by first|exact .inl (oT hg14_4)|exact .inr (oT hc57))]
      exact zbs rfl rfl (.drop1 _ _ _) ⟨rfl,by rw [hd];rfl⟩
     ·first|cases hc57|exact absurd hc57 (by decide)|(exfalso;simp_all;done)
    ·refine rn ?_;refine z8 rfl (fun hc57=> ?_) (fun hc57=> ?_)
     ·refine rn ?_;have hd:y5 s=(65533,1):=by
       unfold y5
       rw [if_neg (by omega)]
       simp only [hx]
       rw [if_neg (by decide),if_neg (show ¬(s.size:Int) < (19:Int) % 8 from oF hc45),if_pos (show bt s 1 < zb0 ((19:Int) / 16).toNat∨zb1 ((19:Int) / 16).toNat < bt s 1 from by first|exact .inl (oT hg14_4)|exact .inr (oT hc57))]
      exact zbs rfl rfl (.drop1 _ _ _) ⟨rfl,by rw [hd];rfl⟩
     ·refine rn ?_;refine z8 rfl (fun hc59=> ?_) (fun hc59=> ?_)
      ·first|cases hc59|exact absurd hc59 (by decide)|(exfalso;simp_all;done)
      ·refine rn ?_;refine qq rfl rfl (u7 2 rfl rfl (by omega)) ?_
       refine rn ?_;refine u4 (fun hg19_2=> ?_) (fun hg19_2=> ?_)
       ·refine rn ?_;refine z8 rfl (fun hc75=> ?_) (fun hc75=> ?_)
        ·refine rn ?_;have hd:y5 s=(65533,1):=by
          unfold y5
          rw [if_neg (by omega)]
          simp only [hx]
          rw [if_neg (by decide),if_neg (show ¬(s.size:Int) < (19:Int) % 8 from oF hc45),if_neg (show ¬(bt s 1 < zb0 ((19:Int) / 16).toNat∨zb1 ((19:Int) / 16).toNat < bt s 1) from fun q=>q.elim (oF hg14_4) (oF hc57)),if_neg (by decide),if_pos (show bt s 2 < 128∨191 < bt s 2 from by first|exact .inl (oT hg19_2)|exact .inr (oT hc75))]
         exact zbs rfl rfl (.drop1 _ _ _) ⟨rfl,by rw [hd];rfl⟩
        ·first|cases hc75|exact absurd hc75 (by decide)|(exfalso;simp_all;done)
       ·refine rn ?_;refine z8 rfl (fun hc75=> ?_) (fun hc75=> ?_)
        ·refine rn ?_;have hd:y5 s=(65533,1):=by
          unfold y5
          rw [if_neg (by omega)]
          simp only [hx]
          rw [if_neg (by decide),if_neg (show ¬(s.size:Int) < (19:Int) % 8 from oF hc45),if_neg (show ¬(bt s 1 < zb0 ((19:Int) / 16).toNat∨zb1 ((19:Int) / 16).toNat < bt s 1) from fun q=>q.elim (oF hg14_4) (oF hc57)),if_neg (by decide),if_pos (show bt s 2 < 128∨191 < bt s 2 from by first|exact .inl (oT hg19_2)|exact .inr (oT hc75))]
         exact zbs rfl rfl (.drop1 _ _ _) ⟨rfl,by rw [hd];rfl⟩
        ·refine rn ?_;refine z8 rfl (fun hc77=> ?_) (fun hc77=> ?_)
         ·refine rn ?_;have hd:y5 s=(bI .or .i32 (bI .or .i32 (zcl (bt s 0) 15 12) (zcl (bt s 1) 63 6)) (zcl (bt s 2) 63 0),3):=by
           unfold y5
           rw [if_neg (by omega)]
           simp only [hx]
           rw [if_neg (by decide),if_neg (show ¬(s.size:Int) < (19:Int) % 8 from oF hc45),if_neg (show ¬(bt s 1 < zb0 ((19:Int) / 16).toNat∨zb1 ((19:Int) / 16).toNat < bt s 1) from fun q=>q.elim (oF hg14_4) (oF hc57)),if_neg (by decide),if_neg (show ¬(bt s 2 < 128∨191 < bt s 2) from fun q=>q.elim (oF hg19_2) (oF hc75)),if_pos (by decide)]
          exact zbs rfl rfl (.drop1 _ _ _) ⟨rfl,by rw [hd];rfl⟩
         ·first|cases hc77|exact absurd hc77 (by decide)|(exfalso;simp_all;done)
theorem zsr (s:ByteArray) (hx:zcg (bt s 0).toNat=3):y8 Tryz.prog 284 [.v (.string s)] [.glob 4 305 y3,.glob 5 308 y1] (fun r h'=>h'= [.glob 4 305 y3,.glob 5 308 y1]∧r= .tup [.v (.int .i32 (y5 s).1),iv (y5 s).2]):=by
 refine z6 Tryz.func284 rfl rfl rfl ?_
 refine rn ?_;refine z8 rfl (fun hc16=> ?_) (fun hc16=> ?_)
 ·refine rn ?_;have hd:y5 s=(65533,0):=by
   unfold y5
   rw [if_pos (by simp at hc16;omega)]
  exact zbs rfl rfl (.refl _ _) ⟨rfl,by rw [hd];rfl⟩
 ·have h1:0 < s.size:=by simp at hc16;omega
  refine rn ?_;refine qq rfl rfl (u7 0 rfl rfl (by omega)) ?_
  refine rn ?_;refine qq rfl rfl (j7 rfl rfl (zfl _ _) (zfk _ _)) ?_
  refine qq rfl rfl (zae rfl (show _=some (.v (.int .u8 3)) from by rw [zci (zfl s 0) (zfk s 0),hx])) ?_
  refine rn ?_;refine z8 rfl (fun hc23=> ?_) (fun hc23=> ?_)
  ·first|cases hc23|exact absurd hc23 (by decide)|(exfalso;simp_all;done)
  ·refine rn ?_;refine qq rfl rfl (j7 rfl rfl (by decide) (by decide)) ?_
   refine rn ?_;refine z7 rfl (y6 rfl fun b9=> ?_)
   refine rn ?_;refine z8 rfl (fun hc45=> ?_) (fun hc45=> ?_)
   ·refine rn ?_;have hd:y5 s=(65533,1):=by
     unfold y5
     rw [if_neg (by omega)]
     simp only [hx]
     rw [if_neg (by decide),if_pos (show (s.size:Int) < (3:Int) % 8 from oT hc45)]
    exact zbs rfl rfl (.drop1 _ _ _) ⟨rfl,by rw [hd];rfl⟩
   ·have h2:3≤s.size:=by
     have:¬((s.size:Int) < 3):=oF hc45
     omega
    refine rn ?_;refine qq rfl rfl (u7 1 rfl rfl (by omega)) ?_
    refine rn ?_;refine u4 (fun hg14_4=> ?_) (fun hg14_4=> ?_)
    ·refine rn ?_;refine z8 rfl (fun hc57=> ?_) (fun hc57=> ?_)
     ·refine rn ?_;have hd:y5 s=(65533,1):=by
       unfold y5
       rw [if_neg (by omega)]
       simp only [hx]
       rw [if_neg (by decide),if_neg (show ¬(s.size:Int) < (3:Int) % 8 from oF hc45),if_pos (show bt s 1 < zb0 ((3:Int) / 16).toNat∨zb1 ((3:Int) / 16).toNat < bt s 1 from by first|exact .inl (oT hg14_4)|exact .inr (oT hc57))]
      exact zbs rfl rfl (.drop1 _ _ _) ⟨rfl,by rw [hd];rfl⟩
     ·first|cases hc57|exact absurd hc57 (by decide)|(exfalso;simp_all;done)
    ·refine rn ?_;refine z8 rfl (fun hc57=> ?_) (fun hc57=> ?_)
     ·refine rn ?_;have hd:y5 s=(65533,1):=by
       unfold y5
       rw [if_neg (by omega)]
       simp only [hx]
       rw [if_neg (by decide),if_neg (show ¬(s.size:Int) < (3:Int) % 8 from oF hc45),if_pos (show bt s 1 < zb0 ((3:Int) / 16).toNat∨zb1 ((3:Int) / 16).toNat < bt s 1 from by first|exact .inl (oT hg14_4)|exact .inr (oT hc57))]
      exact zbs rfl rfl (.drop1 _ _ _) ⟨rfl,by rw [hd];rfl⟩
     ·refine rn ?_;refine z8 rfl (fun hc59=> ?_) (fun hc59=> ?_)
      ·first|cases hc59|exact absurd hc59 (by decide)|(exfalso;simp_all;done)
      ·refine rn ?_;refine qq rfl rfl (u7 2 rfl rfl (by omega)) ?_
       refine rn ?_;refine u4 (fun hg19_2=> ?_) (fun hg19_2=> ?_)
       ·refine rn ?_;refine z8 rfl (fun hc75=> ?_) (fun hc75=> ?_)
        ·refine rn ?_;have hd:y5 s=(65533,1):=by
          unfold y5
          rw [if_neg (by omega)]
          simp only [hx]
          rw [if_neg (by decide),if_neg (show ¬(s.size:Int) < (3:Int) % 8 from oF hc45),if_neg (show ¬(bt s 1 < zb0 ((3:Int) / 16).toNat∨zb1 ((3:Int) / 16).toNat < bt s 1) from fun q=>q.elim (oF hg14_4) (oF hc57)),if_neg (by decide),if_pos (show bt s 2 < 128∨191 < bt s 2 from by first|exact .inl (oT hg19_2)|exact .inr (oT hc75))]
         exact zbs rfl rfl (.drop1 _ _ _) ⟨rfl,by rw [hd];rfl⟩
        ·first|cases hc75|exact absurd hc75 (by decide)|(exfalso;simp_all;done)
       ·refine rn ?_;refine z8 rfl (fun hc75=> ?_) (fun hc75=> ?_)
        ·refine rn ?_;have hd:y5 s=(65533,1):=by
          unfold y5
          rw [if_neg (by omega)]
          simp only [hx]
          rw [if_neg (by decide),if_neg (show ¬(s.size:Int) < (3:Int) % 8 from oF hc45),if_neg (show ¬(bt s 1 < zb0 ((3:Int) / 16).toNat∨zb1 ((3:Int) / 16).toNat < bt s 1) from fun q=>q.elim (oF hg14_4) (oF hc57)),if_neg (by decide),if_pos (show bt s 2 < 128∨191 < bt s 2 from by first|exact .inl (oT hg19_2)|exact .inr (oT hc75))]
         exact zbs rfl rfl (.drop1 _ _ _) ⟨rfl,by rw [hd];rfl⟩
        ·refine rn ?_;refine z8 rfl (fun hc77=> ?_) (fun hc77=> ?_)
         ·refine rn ?_;have hd:y5 s=(bI .or .i32 (bI .or .i32 (zcl (bt s 0) 15 12) (zcl (bt s 1) 63 6)) (zcl (bt s 2) 63 0),3):=by
           unfold y5
           rw [if_neg (by omega)]
           simp only [hx]
           rw [if_neg (by decide),if_neg (show ¬(s.size:Int) < (3:Int) % 8 from oF hc45),if_neg (show ¬(bt s 1 < zb0 ((3:Int) / 16).toNat∨zb1 ((3:Int) / 16).toNat < bt s 1) from fun q=>q.elim (oF hg14_4) (oF hc57)),if_neg (by decide),if_neg (show ¬(bt s 2 < 128∨191 < bt s 2) from fun q=>q.elim (oF hg19_2) (oF hc75)),if_pos (by decide)]
          exact zbs rfl rfl (.drop1 _ _ _) ⟨rfl,by rw [hd];rfl⟩
         ·first|cases hc77|exact absurd hc77 (by decide)|(exfalso;simp_all;done)
theorem zqk (s:ByteArray) (hx:zcg (bt s 0).toNat=35):y8 Tryz.prog 284 [.v (.string s)] [.glob 4 305 y3,.glob 5 308 y1] (fun r h'=>h'= [.glob 4 305 y3,.glob 5 308 y1]∧r= .tup [.v (.int .i32 (y5 s).1),iv (y5 s).2]):=by
 refine z6 Tryz.func284 rfl rfl rfl ?_
 refine rn ?_;refine z8 rfl (fun hc16=> ?_) (fun hc16=> ?_)
 ·refine rn ?_;have hd:y5 s=(65533,0):=by
   unfold y5
   rw [if_pos (by simp at hc16;omega)]
  exact zbs rfl rfl (.refl _ _) ⟨rfl,by rw [hd];rfl⟩
 ·have h1:0 < s.size:=by simp at hc16;omega
  refine rn ?_;refine qq rfl rfl (u7 0 rfl rfl (by omega)) ?_
  refine rn ?_;refine qq rfl rfl (j7 rfl rfl (zfl _ _) (zfk _ _)) ?_
  refine qq rfl rfl (zae rfl (show _=some (.v (.int .u8 35)) from by rw [zci (zfl s 0) (zfk s 0),hx])) ?_
  refine rn ?_;refine z8 rfl (fun hc23=> ?_) (fun hc23=> ?_)
  ·first|cases hc23|exact absurd hc23 (by decide)|(exfalso;simp_all;done)
  ·refine rn ?_;refine qq rfl rfl (j7 rfl rfl (by decide) (by decide)) ?_
   refine rn ?_;refine z7 rfl (y6 rfl fun b9=> ?_)
   refine rn ?_;refine z8 rfl (fun hc45=> ?_) (fun hc45=> ?_)
   ·refine rn ?_;have hd:y5 s=(65533,1):=by
     unfold y5
     rw [if_neg (by omega)]
     simp only [hx]
     rw [if_neg (by decide),if_pos (show (s.size:Int) < (35:Int) % 8 from oT hc45)]
    exact zbs rfl rfl (.drop1 _ _ _) ⟨rfl,by rw [hd];rfl⟩
   ·have h2:3≤s.size:=by
     have:¬((s.size:Int) < 3):=oF hc45
     omega
    refine rn ?_;refine qq rfl rfl (u7 1 rfl rfl (by omega)) ?_
    refine rn ?_;refine u4 (fun hg14_4=> ?_) (fun hg14_4=> ?_)
    ·refine rn ?_;refine z8 rfl (fun hc57=> ?_) (fun hc57=> ?_)
     ·refine rn ?_;have hd:y5 s=(65533,1):=by
       unfold y5
       rw [if_neg (by omega)]
       simp only [hx]
       rw [if_neg (by decide),if_neg (show ¬(s.size:Int) < (35:Int) % 8 from oF hc45),if_pos (show bt s 1 < zb0 ((35:Int) / 16).toNat∨zb1 ((35:Int) / 16).toNat < bt s 1 from by first|exact .inl (oT hg14_4)|exact .inr (oT hc57))]
      exact zbs rfl rfl (.drop1 _ _ _) ⟨rfl,by rw [hd];rfl⟩
     ·first|cases hc57|exact absurd hc57 (by decide)|(exfalso;simp_all;done)
    ·refine rn ?_;refine z8 rfl (fun hc57=> ?_) (fun hc57=> ?_)
     ·refine rn ?_;have hd:y5 s=(65533,1):=by
       unfold y5
       rw [if_neg (by omega)]
       simp only [hx]
       rw [if_neg (by decide),if_neg (show ¬(s.size:Int) < (35:Int) % 8 from oF hc45),if_pos (show bt s 1 < zb0 ((35:Int) / 16).toNat∨zb1 ((35:Int) / 16).toNat < bt s 1 from by first|exact .inl (oT hg14_4)|exact .inr (oT hc57))]
      exact zbs rfl rfl (.drop1 _ _ _) ⟨rfl,by rw [hd];rfl⟩
     ·refine rn ?_;refine z8 rfl (fun hc59=> ?_) (fun hc59=> ?_)
      ·first|cases hc59|exact absurd hc59 (by decide)|(exfalso;simp_all;done)
      ·refine rn ?_;refine qq rfl rfl (u7 2 rfl rfl (by omega)) ?_
       refine rn ?_;refine u4 (fun hg19_2=> ?_) (fun hg19_2=> ?_)
       ·refine rn ?_;refine z8 rfl (fun hc75=> ?_) (fun hc75=> ?_)
        ·refine rn ?_;have hd:y5 s=(65533,1):=by
          unfold y5
          rw [if_neg (by omega)]
          simp only [hx]
          rw [if_neg (by decide),if_neg (show ¬(s.size:Int) < (35:Int) % 8 from oF hc45),if_neg (show ¬(bt s 1 < zb0 ((35:Int) / 16).toNat∨zb1 ((35:Int) / 16).toNat < bt s 1) from fun q=>q.elim (oF hg14_4) (oF hc57)),if_neg (by decide),if_pos (show bt s 2 < 128∨191 < bt s 2 from by first|exact .inl (oT hg19_2)|exact .inr (oT hc75))]
         exact zbs rfl rfl (.drop1 _ _ _) ⟨rfl,by rw [hd];rfl⟩
        ·first|cases hc75|exact absurd hc75 (by decide)|(exfalso;simp_all;done)
       ·refine rn ?_;refine z8 rfl (fun hc75=> ?_) (fun hc75=> ?_)
        ·refine rn ?_;have hd:y5 s=(65533,1):=by
          unfold y5
          rw [if_neg (by omega)]
          simp only [hx]
          rw [if_neg (by decide),if_neg (show ¬(s.size:Int) < (35:Int) % 8 from oF hc45),if_neg (show ¬(bt s 1 < zb0 ((35:Int) / 16).toNat∨zb1 ((35:Int) / 16).toNat < bt s 1) from fun q=>q.elim (oF hg14_4) (oF hc57)),if_neg (by decide),if_pos (show bt s 2 < 128∨191 < bt s 2 from by first|exact .inl (oT hg19_2)|exact .inr (oT hc75))]
         exact zbs rfl rfl (.drop1 _ _ _) ⟨rfl,by rw [hd];rfl⟩
        ·refine rn ?_;refine z8 rfl (fun hc77=> ?_) (fun hc77=> ?_)
         ·refine rn ?_;have hd:y5 s=(bI .or .i32 (bI .or .i32 (zcl (bt s 0) 15 12) (zcl (bt s 1) 63 6)) (zcl (bt s 2) 63 0),3):=by
           unfold y5
           rw [if_neg (by omega)]
           simp only [hx]
           rw [if_neg (by decide),if_neg (show ¬(s.size:Int) < (35:Int) % 8 from oF hc45),if_neg (show ¬(bt s 1 < zb0 ((35:Int) / 16).toNat∨zb1 ((35:Int) / 16).toNat < bt s 1) from fun q=>q.elim (oF hg14_4) (oF hc57)),if_neg (by decide),if_neg (show ¬(bt s 2 < 128∨191 < bt s 2) from fun q=>q.elim (oF hg19_2) (oF hc75)),if_pos (by decide)]
          exact zbs rfl rfl (.drop1 _ _ _) ⟨rfl,by rw [hd];rfl⟩
         ·first|cases hc77|exact absurd hc77 (by decide)|(exfalso;simp_all;done)
theorem zqj (s:ByteArray) (hx:zcg (bt s 0).toNat=52):y8 Tryz.prog 284 [.v (.string s)] [.glob 4 305 y3,.glob 5 308 y1] (fun r h'=>h'= [.glob 4 305 y3,.glob 5 308 y1]∧r= .tup [.v (.int .i32 (y5 s).1),iv (y5 s).2]):=by
 refine z6 Tryz.func284 rfl rfl rfl ?_
 refine rn ?_;refine z8 rfl (fun hc16=> ?_) (fun hc16=> ?_)
 ·refine rn ?_;have hd:y5 s=(65533,0):=by
   unfold y5
   rw [if_pos (by simp at hc16;omega)]
  exact zbs rfl rfl (.refl _ _) ⟨rfl,by rw [hd];rfl⟩
 ·have h1:0 < s.size:=by simp at hc16;omega
  refine rn ?_;refine qq rfl rfl (u7 0 rfl rfl (by omega)) ?_
  refine rn ?_;refine qq rfl rfl (j7 rfl rfl (zfl _ _) (zfk _ _)) ?_
  refine qq rfl rfl (zae rfl (show _=some (.v (.int .u8 52)) from by rw [zci (zfl s 0) (zfk s 0),hx])) ?_
  refine rn ?_;refine z8 rfl (fun hc23=> ?_) (fun hc23=> ?_)
  ·first|cases hc23|exact absurd hc23 (by decide)|(exfalso;simp_all;done)
  ·refine rn ?_;refine qq rfl rfl (j7 rfl rfl (by decide) (by decide)) ?_
   refine rn ?_;refine z7 rfl (y6 rfl fun b9=> ?_)
   refine rn ?_;refine z8 rfl (fun hc45=> ?_) (fun hc45=> ?_)
   ·refine rn ?_;have hd:y5 s=(65533,1):=by
     unfold y5
     rw [if_neg (by omega)]
     simp only [hx]
     rw [if_neg (by decide),if_pos (show (s.size:Int) < (52:Int) % 8 from oT hc45)]
    exact zbs rfl rfl (.drop1 _ _ _) ⟨rfl,by rw [hd];rfl⟩
   ·have h2:4≤s.size:=by
     have:¬((s.size:Int) < 4):=oF hc45
     omega
    refine rn ?_;refine qq rfl rfl (u7 1 rfl rfl (by omega)) ?_
    refine rn ?_;refine u4 (fun hg14_4=> ?_) (fun hg14_4=> ?_)
    ·refine rn ?_;refine z8 rfl (fun hc57=> ?_) (fun hc57=> ?_)
     ·refine rn ?_;have hd:y5 s=(65533,1):=by
       unfold y5
       rw [if_neg (by omega)]
       simp only [hx]
       rw [if_neg (by decide),if_neg (show ¬(s.size:Int) < (52:Int) % 8 from oF hc45),if_pos (show bt s 1 < zb0 ((52:Int) / 16).toNat∨zb1 ((52:Int) / 16).toNat < bt s 1 from by first|exact .inl (oT hg14_4)|exact .inr (oT hc57))]
      exact zbs rfl rfl (.drop1 _ _ _) ⟨rfl,by rw [hd];rfl⟩
     ·first|cases hc57|exact absurd hc57 (by decide)|(exfalso;simp_all;done)
    ·refine rn ?_;refine z8 rfl (fun hc57=> ?_) (fun hc57=> ?_)
     ·refine rn ?_;have hd:y5 s=(65533,1):=by
       unfold y5
       rw [if_neg (by omega)]
       simp only [hx]
       rw [if_neg (by decide),if_neg (show ¬(s.size:Int) < (52:Int) % 8 from oF hc45),if_pos (show bt s 1 < zb0 ((52:Int) / 16).toNat∨zb1 ((52:Int) / 16).toNat < bt s 1 from by first|exact .inl (oT hg14_4)|exact .inr (oT hc57))]
      exact zbs rfl rfl (.drop1 _ _ _) ⟨rfl,by rw [hd];rfl⟩
     ·refine rn ?_;refine z8 rfl (fun hc59=> ?_) (fun hc59=> ?_)
      ·first|cases hc59|exact absurd hc59 (by decide)|(exfalso;simp_all;done)
      ·refine rn ?_;refine qq rfl rfl (u7 2 rfl rfl (by omega)) ?_
       refine rn ?_;refine u4 (fun hg19_2=> ?_) (fun hg19_2=> ?_)
       ·refine rn ?_;refine z8 rfl (fun hc75=> ?_) (fun hc75=> ?_)
        ·refine rn ?_;have hd:y5 s=(65533,1):=by
          unfold y5
          rw [if_neg (by omega)]
          simp only [hx]
          rw [if_neg (by decide),if_neg (show ¬(s.size:Int) < (52:Int) % 8 from oF hc45),if_neg (show ¬(bt s 1 < zb0 ((52:Int) / 16).toNat∨zb1 ((52:Int) / 16).toNat < bt s 1) from fun q=>q.elim (oF hg14_4) (oF hc57)),if_neg (by decide),if_pos (show bt s 2 < 128∨191 < bt s 2 from by first|exact .inl (oT hg19_2)|exact .inr (oT hc75))]
         exact zbs rfl rfl (.drop1 _ _ _) ⟨rfl,by rw [hd];rfl⟩
        ·first|cases hc75|exact absurd hc75 (by decide)|(exfalso;simp_all;done)
       ·refine rn ?_;refine z8 rfl (fun hc75=> ?_) (fun hc75=> ?_)
        ·refine rn ?_;have hd:y5 s=(65533,1):=by
          unfold y5
          rw [if_neg (by omega)]
          simp only [hx]
          rw [if_neg (by decide),if_neg (show ¬(s.size:Int) < (52:Int) % 8 from oF hc45),if_neg (show ¬(bt s 1 < zb0 ((52:Int) / 16).toNat∨zb1 ((52:Int) / 16).toNat < bt s 1) from fun q=>q.elim (oF hg14_4) (oF hc57)),if_neg (by decide),if_pos (show bt s 2 < 128∨191 < bt s 2 from by first|exact .inl (oT hg19_2)|exact .inr (oT hc75))]
         exact zbs rfl rfl (.drop1 _ _ _) ⟨rfl,by rw [hd];rfl⟩
        ·refine rn ?_;refine z8 rfl (fun hc77=> ?_) (fun hc77=> ?_)
         ·first|cases hc77|exact absurd hc77 (by decide)|(exfalso;simp_all;done)
         ·refine rn ?_;refine qq rfl rfl (u7 3 rfl rfl (by omega)) ?_
          refine rn ?_;refine u4 (fun hg24_2=> ?_) (fun hg24_2=> ?_)
          ·refine rn ?_;refine z8 rfl (fun hc98=> ?_) (fun hc98=> ?_)
           ·refine rn ?_;have hd:y5 s=(65533,1):=by
             unfold y5
             rw [if_neg (by omega)]
             simp only [hx]
             rw [if_neg (by decide),if_neg (show ¬(s.size:Int) < (52:Int) % 8 from oF hc45),if_neg (show ¬(bt s 1 < zb0 ((52:Int) / 16).toNat∨zb1 ((52:Int) / 16).toNat < bt s 1) from fun q=>q.elim (oF hg14_4) (oF hc57)),if_neg (by decide),if_neg (show ¬(bt s 2 < 128∨191 < bt s 2) from fun q=>q.elim (oF hg19_2) (oF hc75)),if_neg (by decide),if_pos (show bt s 3 < 128∨191 < bt s 3 from by first|exact .inl (oT hg24_2)|exact .inr (oT hc98))]
            exact zbs rfl rfl (.drop1 _ _ _) ⟨rfl,by rw [hd];rfl⟩
           ·first|cases hc98|exact absurd hc98 (by decide)|(exfalso;simp_all;done)
          ·refine rn ?_;refine z8 rfl (fun hc98=> ?_) (fun hc98=> ?_)
           ·refine rn ?_;have hd:y5 s=(65533,1):=by
             unfold y5
             rw [if_neg (by omega)]
             simp only [hx]
             rw [if_neg (by decide),if_neg (show ¬(s.size:Int) < (52:Int) % 8 from oF hc45),if_neg (show ¬(bt s 1 < zb0 ((52:Int) / 16).toNat∨zb1 ((52:Int) / 16).toNat < bt s 1) from fun q=>q.elim (oF hg14_4) (oF hc57)),if_neg (by decide),if_neg (show ¬(bt s 2 < 128∨191 < bt s 2) from fun q=>q.elim (oF hg19_2) (oF hc75)),if_neg (by decide),if_pos (show bt s 3 < 128∨191 < bt s 3 from by first|exact .inl (oT hg24_2)|exact .inr (oT hc98))]
            exact zbs rfl rfl (.drop1 _ _ _) ⟨rfl,by rw [hd];rfl⟩
           ·refine rn ?_;have hd:y5 s=(bI .or .i32 (bI .or .i32 (bI .or .i32 (zcl (bt s 0) 7 18) (zcl (bt s 1) 63 12)) (zcl (bt s 2) 63 6)) (zcl (bt s 3) 63 0),4):=by
             unfold y5
             rw [if_neg (by omega)]
             simp only [hx]
             rw [if_neg (by decide),if_neg (show ¬(s.size:Int) < (52:Int) % 8 from oF hc45),if_neg (show ¬(bt s 1 < zb0 ((52:Int) / 16).toNat∨zb1 ((52:Int) / 16).toNat < bt s 1) from fun q=>q.elim (oF hg14_4) (oF hc57)),if_neg (by decide),if_neg (show ¬(bt s 2 < 128∨191 < bt s 2) from fun q=>q.elim (oF hg19_2) (oF hc75)),if_neg (by decide),if_neg (show ¬(bt s 3 < 128∨191 < bt s 3) from fun q=>q.elim (oF hg24_2) (oF hc98))]
            exact zbs rfl rfl (.drop1 _ _ _) ⟨rfl,by rw [hd];rfl⟩
theorem zsq (s:ByteArray) (hx:zcg (bt s 0).toNat=4):y8 Tryz.prog 284 [.v (.string s)] [.glob 4 305 y3,.glob 5 308 y1] (fun r h'=>h'= [.glob 4 305 y3,.glob 5 308 y1]∧r= .tup [.v (.int .i32 (y5 s).1),iv (y5 s).2]):=by
 refine z6 Tryz.func284 rfl rfl rfl ?_
 refine rn ?_;refine z8 rfl (fun hc16=> ?_) (fun hc16=> ?_)
 ·refine rn ?_;have hd:y5 s=(65533,0):=by
   unfold y5
   rw [if_pos (by simp at hc16;omega)]
  exact zbs rfl rfl (.refl _ _) ⟨rfl,by rw [hd];rfl⟩
 ·have h1:0 < s.size:=by simp at hc16;omega
  refine rn ?_;refine qq rfl rfl (u7 0 rfl rfl (by omega)) ?_
  refine rn ?_;refine qq rfl rfl (j7 rfl rfl (zfl _ _) (zfk _ _)) ?_
  refine qq rfl rfl (zae rfl (show _=some (.v (.int .u8 4)) from by rw [zci (zfl s 0) (zfk s 0),hx])) ?_
  refine rn ?_;refine z8 rfl (fun hc23=> ?_) (fun hc23=> ?_)
  ·first|cases hc23|exact absurd hc23 (by decide)|(exfalso;simp_all;done)
  ·refine rn ?_;refine qq rfl rfl (j7 rfl rfl (by decide) (by decide)) ?_
   refine rn ?_;refine z7 rfl (y6 rfl fun b9=> ?_)
   refine rn ?_;refine z8 rfl (fun hc45=> ?_) (fun hc45=> ?_)
   ·refine rn ?_;have hd:y5 s=(65533,1):=by
     unfold y5
     rw [if_neg (by omega)]
     simp only [hx]
     rw [if_neg (by decide),if_pos (show (s.size:Int) < (4:Int) % 8 from oT hc45)]
    exact zbs rfl rfl (.drop1 _ _ _) ⟨rfl,by rw [hd];rfl⟩
   ·have h2:4≤s.size:=by
     have:¬((s.size:Int) < 4):=oF hc45
     omega
    refine rn ?_;refine qq rfl rfl (u7 1 rfl rfl (by omega)) ?_
    refine rn ?_;refine u4 (fun hg14_4=> ?_) (fun hg14_4=> ?_)
    ·refine rn ?_;refine z8 rfl (fun hc57=> ?_) (fun hc57=> ?_)
     ·refine rn ?_;have hd:y5 s=(65533,1):=by
       unfold y5
       rw [if_neg (by omega)]
       simp only [hx]
       rw [if_neg (by decide),if_neg (show ¬(s.size:Int) < (4:Int) % 8 from oF hc45),if_pos (show bt s 1 < zb0 ((4:Int) / 16).toNat∨zb1 ((4:Int) / 16).toNat < bt s 1 from by first|exact .inl (oT hg14_4)|exact .inr (oT hc57))]
      exact zbs rfl rfl (.drop1 _ _ _) ⟨rfl,by rw [hd];rfl⟩
     ·first|cases hc57|exact absurd hc57 (by decide)|(exfalso;simp_all;done)
    ·refine rn ?_;refine z8 rfl (fun hc57=> ?_) (fun hc57=> ?_)
     ·refine rn ?_;have hd:y5 s=(65533,1):=by
       unfold y5
       rw [if_neg (by omega)]
       simp only [hx]
       rw [if_neg (by decide),if_neg (show ¬(s.size:Int) < (4:Int) % 8 from oF hc45),if_pos (show bt s 1 < zb0 ((4:Int) / 16).toNat∨zb1 ((4:Int) / 16).toNat < bt s 1 from by first|exact .inl (oT hg14_4)|exact .inr (oT hc57))]
      exact zbs rfl rfl (.drop1 _ _ _) ⟨rfl,by rw [hd];rfl⟩
     ·refine rn ?_;refine z8 rfl (fun hc59=> ?_) (fun hc59=> ?_)
      ·first|cases hc59|exact absurd hc59 (by decide)|(exfalso;simp_all;done)
      ·refine rn ?_;refine qq rfl rfl (u7 2 rfl rfl (by omega)) ?_
       refine rn ?_;refine u4 (fun hg19_2=> ?_) (fun hg19_2=> ?_)
       ·refine rn ?_;refine z8 rfl (fun hc75=> ?_) (fun hc75=> ?_)
        ·refine rn ?_;have hd:y5 s=(65533,1):=by
          unfold y5
          rw [if_neg (by omega)]
          simp only [hx]
          rw [if_neg (by decide),if_neg (show ¬(s.size:Int) < (4:Int) % 8 from oF hc45),if_neg (show ¬(bt s 1 < zb0 ((4:Int) / 16).toNat∨zb1 ((4:Int) / 16).toNat < bt s 1) from fun q=>q.elim (oF hg14_4) (oF hc57)),if_neg (by decide),if_pos (show bt s 2 < 128∨191 < bt s 2 from by first|exact .inl (oT hg19_2)|exact .inr (oT hc75))]
         exact zbs rfl rfl (.drop1 _ _ _) ⟨rfl,by rw [hd];rfl⟩
        ·first|cases hc75|exact absurd hc75 (by decide)|(exfalso;simp_all;done)
       ·refine rn ?_;refine z8 rfl (fun hc75=> ?_) (fun hc75=> ?_)
        ·refine rn ?_;have hd:y5 s=(65533,1):=by
          unfold y5
          rw [if_neg (by omega)]
          simp only [hx]
          rw [if_neg (by decide),if_neg (show ¬(s.size:Int) < (4:Int) % 8 from oF hc45),if_neg (show ¬(bt s 1 < zb0 ((4:Int) / 16).toNat∨zb1 ((4:Int) / 16).toNat < bt s 1) from fun q=>q.elim (oF hg14_4) (oF hc57)),if_neg (by decide),if_pos (show bt s 2 < 128∨191 < bt s 2 from by first|exact .inl (oT hg19_2)|exact .inr (oT hc75))]
         exact zbs rfl rfl (.drop1 _ _ _) ⟨rfl,by rw [hd];rfl⟩
        ·refine rn ?_;refine z8 rfl (fun hc77=> ?_) (fun hc77=> ?_)
         ·first|cases hc77|exact absurd hc77 (by decide)|(exfalso;simp_all;done)
         ·refine rn ?_;refine qq rfl rfl (u7 3 rfl rfl (by omega)) ?_
          refine rn ?_;refine u4 (fun hg24_2=> ?_) (fun hg24_2=> ?_)
          ·refine rn ?_;refine z8 rfl (fun hc98=> ?_) (fun hc98=> ?_)
           ·refine rn ?_;have hd:y5 s=(65533,1):=by
             unfold y5
             rw [if_neg (by omega)]
             simp only [hx]
             rw [if_neg (by decide),if_neg (show ¬(s.size:Int) < (4:Int) % 8 from oF hc45),if_neg (show ¬(bt s 1 < zb0 ((4:Int) / 16).toNat∨zb1 ((4:Int) / 16).toNat < bt s 1) from fun q=>q.elim (oF hg14_4) (oF hc57)),if_neg (by decide),if_neg (show ¬(bt s 2 < 128∨191 < bt s 2) from fun q=>q.elim (oF hg19_2) (oF hc75)),if_neg (by decide),if_pos (show bt s 3 < 128∨191 < bt s 3 from by first|exact .inl (oT hg24_2)|exact .inr (oT hc98))]
            exact zbs rfl rfl (.drop1 _ _ _) ⟨rfl,by rw [hd];rfl⟩
           ·first|cases hc98|exact absurd hc98 (by decide)|(exfalso;simp_all;done)
          ·refine rn ?_;refine z8 rfl (fun hc98=> ?_) (fun hc98=> ?_)
           ·refine rn ?_;have hd:y5 s=(65533,1):=by
             unfold y5
             rw [if_neg (by omega)]
             simp only [hx]
             rw [if_neg (by decide),if_neg (show ¬(s.size:Int) < (4:Int) % 8 from oF hc45),if_neg (show ¬(bt s 1 < zb0 ((4:Int) / 16).toNat∨zb1 ((4:Int) / 16).toNat < bt s 1) from fun q=>q.elim (oF hg14_4) (oF hc57)),if_neg (by decide),if_neg (show ¬(bt s 2 < 128∨191 < bt s 2) from fun q=>q.elim (oF hg19_2) (oF hc75)),if_neg (by decide),if_pos (show bt s 3 < 128∨191 < bt s 3 from by first|exact .inl (oT hg24_2)|exact .inr (oT hc98))]
            exact zbs rfl rfl (.drop1 _ _ _) ⟨rfl,by rw [hd];rfl⟩
           ·refine rn ?_;have hd:y5 s=(bI .or .i32 (bI .or .i32 (bI .or .i32 (zcl (bt s 0) 7 18) (zcl (bt s 1) 63 12)) (zcl (bt s 2) 63 6)) (zcl (bt s 3) 63 0),4):=by
             unfold y5
             rw [if_neg (by omega)]
             simp only [hx]
             rw [if_neg (by decide),if_neg (show ¬(s.size:Int) < (4:Int) % 8 from oF hc45),if_neg (show ¬(bt s 1 < zb0 ((4:Int) / 16).toNat∨zb1 ((4:Int) / 16).toNat < bt s 1) from fun q=>q.elim (oF hg14_4) (oF hc57)),if_neg (by decide),if_neg (show ¬(bt s 2 < 128∨191 < bt s 2) from fun q=>q.elim (oF hg19_2) (oF hc75)),if_neg (by decide),if_neg (show ¬(bt s 3 < 128∨191 < bt s 3) from fun q=>q.elim (oF hg24_2) (oF hc98))]
            exact zbs rfl rfl (.drop1 _ _ _) ⟨rfl,by rw [hd];rfl⟩
theorem zqi (s:ByteArray) (hx:zcg (bt s 0).toNat=68):y8 Tryz.prog 284 [.v (.string s)] [.glob 4 305 y3,.glob 5 308 y1] (fun r h'=>h'= [.glob 4 305 y3,.glob 5 308 y1]∧r= .tup [.v (.int .i32 (y5 s).1),iv (y5 s).2]):=by
 refine z6 Tryz.func284 rfl rfl rfl ?_
 refine rn ?_;refine z8 rfl (fun hc16=> ?_) (fun hc16=> ?_)
 ·refine rn ?_;have hd:y5 s=(65533,0):=by
   unfold y5
   rw [if_pos (by simp at hc16;omega)]
  exact zbs rfl rfl (.refl _ _) ⟨rfl,by rw [hd];rfl⟩
 ·have h1:0 < s.size:=by simp at hc16;omega
  refine rn ?_;refine qq rfl rfl (u7 0 rfl rfl (by omega)) ?_
  refine rn ?_;refine qq rfl rfl (j7 rfl rfl (zfl _ _) (zfk _ _)) ?_
  refine qq rfl rfl (zae rfl (show _=some (.v (.int .u8 68)) from by rw [zci (zfl s 0) (zfk s 0),hx])) ?_
  refine rn ?_;refine z8 rfl (fun hc23=> ?_) (fun hc23=> ?_)
  ·first|cases hc23|exact absurd hc23 (by decide)|(exfalso;simp_all;done)
  ·refine rn ?_;refine qq rfl rfl (j7 rfl rfl (by decide) (by decide)) ?_
   refine rn ?_;refine z7 rfl (y6 rfl fun b9=> ?_)
   refine rn ?_;refine z8 rfl (fun hc45=> ?_) (fun hc45=> ?_)
   ·refine rn ?_;have hd:y5 s=(65533,1):=by
     unfold y5
     rw [if_neg (by omega)]
     simp only [hx]
     rw [if_neg (by decide),if_pos (show (s.size:Int) < (68:Int) % 8 from oT hc45)]
    exact zbs rfl rfl (.drop1 _ _ _) ⟨rfl,by rw [hd];rfl⟩
   ·have h2:4≤s.size:=by
     have:¬((s.size:Int) < 4):=oF hc45
     omega
    refine rn ?_;refine qq rfl rfl (u7 1 rfl rfl (by omega)) ?_
    refine rn ?_;refine u4 (fun hg14_4=> ?_) (fun hg14_4=> ?_)
    ·refine rn ?_;refine z8 rfl (fun hc57=> ?_) (fun hc57=> ?_)
     ·refine rn ?_;have hd:y5 s=(65533,1):=by
       unfold y5
       rw [if_neg (by omega)]
       simp only [hx]
       rw [if_neg (by decide),if_neg (show ¬(s.size:Int) < (68:Int) % 8 from oF hc45),if_pos (show bt s 1 < zb0 ((68:Int) / 16).toNat∨zb1 ((68:Int) / 16).toNat < bt s 1 from by first|exact .inl (oT hg14_4)|exact .inr (oT hc57))]
      exact zbs rfl rfl (.drop1 _ _ _) ⟨rfl,by rw [hd];rfl⟩
     ·first|cases hc57|exact absurd hc57 (by decide)|(exfalso;simp_all;done)
    ·refine rn ?_;refine z8 rfl (fun hc57=> ?_) (fun hc57=> ?_)
     ·refine rn ?_;have hd:y5 s=(65533,1):=by
       unfold y5
       rw [if_neg (by omega)]
       simp only [hx]
       rw [if_neg (by decide),if_neg (show ¬(s.size:Int) < (68:Int) % 8 from oF hc45),if_pos (show bt s 1 < zb0 ((68:Int) / 16).toNat∨zb1 ((68:Int) / 16).toNat < bt s 1 from by first|exact .inl (oT hg14_4)|exact .inr (oT hc57))]
      exact zbs rfl rfl (.drop1 _ _ _) ⟨rfl,by rw [hd];rfl⟩
     ·refine rn ?_;refine z8 rfl (fun hc59=> ?_) (fun hc59=> ?_)
      ·first|cases hc59|exact absurd hc59 (by decide)|(exfalso;simp_all;done)
      ·refine rn ?_;refine qq rfl rfl (u7 2 rfl rfl (by omega)) ?_
       refine rn ?_;refine u4 (fun hg19_2=> ?_) (fun hg19_2=> ?_)
       ·refine rn ?_;refine z8 rfl (fun hc75=> ?_) (fun hc75=> ?_)
        ·refine rn ?_;have hd:y5 s=(65533,1):=by
          unfold y5
          rw [if_neg (by omega)]
          simp only [hx]
          rw [if_neg (by decide),if_neg (show ¬(s.size:Int) < (68:Int) % 8 from oF hc45),if_neg (show ¬(bt s 1 < zb0 ((68:Int) / 16).toNat∨zb1 ((68:Int) / 16).toNat < bt s 1) from fun q=>q.elim (oF hg14_4) (oF hc57)),if_neg (by decide),if_pos (show bt s 2 < 128∨191 < bt s 2 from by first|exact .inl (oT hg19_2)|exact .inr (oT hc75))]
         exact zbs rfl rfl (.drop1 _ _ _) ⟨rfl,by rw [hd];rfl⟩
        ·first|cases hc75|exact absurd hc75 (by decide)|(exfalso;simp_all;done)
       ·refine rn ?_;refine z8 rfl (fun hc75=> ?_) (fun hc75=> ?_)
        ·refine rn ?_;have hd:y5 s=(65533,1):=by
          unfold y5
          rw [if_neg (by omega)]
          simp only [hx]
          rw [if_neg (by decide),if_neg (show ¬(s.size:Int) < (68:Int) % 8 from oF hc45),if_neg (show ¬(bt s 1 < zb0 ((68:Int) / 16).toNat∨zb1 ((68:Int) / 16).toNat < bt s 1) from fun q=>q.elim (oF hg14_4) (oF hc57)),if_neg (by decide),if_pos (show bt s 2 < 128∨191 < bt s 2 from by first|exact .inl (oT hg19_2)|exact .inr (oT hc75))]
         exact zbs rfl rfl (.drop1 _ _ _) ⟨rfl,by rw [hd];rfl⟩
        ·refine rn ?_;refine z8 rfl (fun hc77=> ?_) (fun hc77=> ?_)
         ·first|cases hc77|exact absurd hc77 (by decide)|(exfalso;simp_all;done)
         ·refine rn ?_;refine qq rfl rfl (u7 3 rfl rfl (by omega)) ?_
          refine rn ?_;refine u4 (fun hg24_2=> ?_) (fun hg24_2=> ?_)
          ·refine rn ?_;refine z8 rfl (fun hc98=> ?_) (fun hc98=> ?_)
           ·refine rn ?_;have hd:y5 s=(65533,1):=by
             unfold y5
             rw [if_neg (by omega)]
             simp only [hx]
             rw [if_neg (by decide),if_neg (show ¬(s.size:Int) < (68:Int) % 8 from oF hc45),if_neg (show ¬(bt s 1 < zb0 ((68:Int) / 16).toNat∨zb1 ((68:Int) / 16).toNat < bt s 1) from fun q=>q.elim (oF hg14_4) (oF hc57)),if_neg (by decide),if_neg (show ¬(bt s 2 < 128∨191 < bt s 2) from fun q=>q.elim (oF hg19_2) (oF hc75)),if_neg (by decide),if_pos (show bt s 3 < 128∨191 < bt s 3 from by first|exact .inl (oT hg24_2)|exact .inr (oT hc98))]
            exact zbs rfl rfl (.drop1 _ _ _) ⟨rfl,by rw [hd];rfl⟩
           ·first|cases hc98|exact absurd hc98 (by decide)|(exfalso;simp_all;done)
          ·refine rn ?_;refine z8 rfl (fun hc98=> ?_) (fun hc98=> ?_)
           ·refine rn ?_;have hd:y5 s=(65533,1):=by
             unfold y5
             rw [if_neg (by omega)]
             simp only [hx]
             rw [if_neg (by decide),if_neg (show ¬(s.size:Int) < (68:Int) % 8 from oF hc45),if_neg (show ¬(bt s 1 < zb0 ((68:Int) / 16).toNat∨zb1 ((68:Int) / 16).toNat < bt s 1) from fun q=>q.elim (oF hg14_4) (oF hc57)),if_neg (by decide),if_neg (show ¬(bt s 2 < 128∨191 < bt s 2) from fun q=>q.elim (oF hg19_2) (oF hc75)),if_neg (by decide),if_pos (show bt s 3 < 128∨191 < bt s 3 from by first|exact .inl (oT hg24_2)|exact .inr (oT hc98))]
            exact zbs rfl rfl (.drop1 _ _ _) ⟨rfl,by rw [hd];rfl⟩
           ·refine rn ?_;have hd:y5 s=(bI .or .i32 (bI .or .i32 (bI .or .i32 (zcl (bt s 0) 7 18) (zcl (bt s 1) 63 12)) (zcl (bt s 2) 63 6)) (zcl (bt s 3) 63 0),4):=by
             unfold y5
             rw [if_neg (by omega)]
             simp only [hx]
             rw [if_neg (by decide),if_neg (show ¬(s.size:Int) < (68:Int) % 8 from oF hc45),if_neg (show ¬(bt s 1 < zb0 ((68:Int) / 16).toNat∨zb1 ((68:Int) / 16).toNat < bt s 1) from fun q=>q.elim (oF hg14_4) (oF hc57)),if_neg (by decide),if_neg (show ¬(bt s 2 < 128∨191 < bt s 2) from fun q=>q.elim (oF hg19_2) (oF hc75)),if_neg (by decide),if_neg (show ¬(bt s 3 < 128∨191 < bt s 3) from fun q=>q.elim (oF hg24_2) (oF hc98))]
            exact zbs rfl rfl (.drop1 _ _ _) ⟨rfl,by rw [hd];rfl⟩
theorem znb (s:ByteArray):y8 Tryz.prog 284 [.v (.string s)] [.glob 4 305 y3,.glob 5 308 y1] (fun r h'=>h'= [.glob 4 305 y3,.glob 5 308 y1]∧r= .tup [.v (.int .i32 (y5 s).1),iv (y5 s).2]):=by
 rcases zqe (bt s 0).toNat with hx|hx|hx|hx|hx|hx|hx|hx|hx
 ·exact zoq s hx
 ·exact zop s hx
 ·exact zss s hx
 ·exact zql s hx
 ·exact zsr s hx
 ·exact zqk s hx
 ·exact zqj s hx
 ·exact zsq s hx
 ·exact zqi s hx
theorem zv1 (s:ByteArray):y8 Tryz.prog 281 [.v (.string s)] [.glob 4 305 y3,.glob 5 308 y1] (fun r h'=>h'= [.glob 4 305 y3,.glob 5 308 y1]∧r= .tup [.v (.int .i32 (zie s).1),iv (zie s).2]):=by
 refine z6 Tryz.func281 rfl rfl rfl ?_
 refine rn ?_;refine u4 (fun hg1_2=> ?_) (fun hg1_2=> ?_)
 ·refine rn ?_;have h1:0 < s.size:=zwv hg1_2
  refine qq rfl rfl (u7 0 rfl rfl (by omega)) ?_
  refine rn ?_;refine z8 rfl (fun hc10=> ?_) (fun hc10=> ?_)
  ·refine rn ?_;refine qq rfl rfl (u7 0 rfl rfl (by omega)) ?_
   refine rn ?_;have hd:zie s=(bt s 0,1):=by
    unfold zie
    exact if_pos ⟨zwv hg1_2,oT hc10⟩
   exact zbs rfl rfl (.refl _ _) ⟨rfl,by rw [hd];exact congrArg (fun c=>AV.tup [.v (.int .i32 c),iv 1]) (zz0 s 0)⟩
  ·refine rn ?_;refine qv rfl rfl (y4 rfl rfl (y0.of_fun (znb s))) ?_
   refine rn ?_;have hd:zie s=y5 s:=by
    unfold zie
    exact if_neg fun q=>by first|exact yd8 hg1_2 q.1|exact absurd q.2 (oF hc10)
   exact zbs rfl rfl (.refl _ _) ⟨rfl,by rw [hd];rfl⟩
 ·refine rn ?_;refine zq5 rfl ?_;refine rn ?_;refine qv rfl rfl (y4 rfl rfl (y0.of_fun (znb s))) ?_
  refine rn ?_;have hd:zie s=y5 s:=by
   unfold zie
   exact if_neg fun q=>by first|exact yd8 hg1_2 q.1|exact absurd q.2 (oF hc10)
  exact zbs rfl rfl (.refl _ _) ⟨rfl,by rw [hd];rfl⟩
theorem zzi {f g:Bool} (l m:List Seen) (hl:l.length≤4611686018427387904) (hm:m.length≤4611686018427387904):y8 Tryz.prog 271 [.list f 3 (l.map za2),.list g 3 (m.map za2)] [] (fun r h'=>h'= []∧r=bv (eqF zjh l m)):=by
 refine z6 Tryz.func271 rfl rfl rfl ?_
 refine rn ?_;refine z8 rfl (fun hc10=> ?_) (fun hc10=> ?_)
 ·refine rn ?_;have hne:(l.length==m.length)=false:=beq_eq_false_iff_ne.2 fun q=>by simp [q] at hc10
  exact zal rfl (.refl _ _) ⟨rfl,by rw [eqF,hne,Bool.false_and];rfl⟩
 ·have hlm:l.length=m.length:=by simp at hc10;omega
  refine rn ?_;refine zaj (fun k:Nat=>k≤l.length∧zuu zjh l m=zuu zjh (l.drop k) (m.drop k)) (fun k=>⟨[(13,iv k),(12,iv (l.map za2).length),(0,.list f 3 (l.map za2)),(1,.list g 3 (m.map za2))],[],[]⟩) (fun k=>l.length - k) 0 ⟨Nat.zero_le _,by simp⟩
   (u0 (.cons _ _ _ rfl (.cons _ _ _ rfl (.cons _ _ _ rfl (.cons _ _ _ rfl (.nil)))))) ?_
  rintro k ⟨hk,hz⟩
  refine rn ?_;refine z8 rfl (fun hc14=> ?_) (fun hc14=> ?_)
  ·have hk2:k < l.length:=by simpa using hc14
   have hk3:k < m.length:=by omega
   have hrow1:(l.map za2)[k]? =some (za2 l[k]):=by simp [hk2]
   have hrow2:(m.map za2)[k]? =some (za2 m[k]):=by simp [hk3]
   have hd1:=List.drop_eq_getElem_cons hk2
   have hd2:=List.drop_eq_getElem_cons hk3
   refine rn ?_;refine zaf 8 rfl ?_
   refine rn ?_;refine z8 rfl (fun hc24=> ?_) (fun hc24=> ?_)
   ·refine rn ?_;exact zal rfl (.refl _ _) ⟨rfl,by rw [eqF,hz,hd1,hd2,zuu,show zjh l[k] m[k]=false from ycm hc24,Bool.false_and,Bool.and_false];rfl⟩
   ·refine rn ?_;exact ⟨k+1,⟨by omega,by rw [hz,hd1,hd2,zuu,show zjh l[k] m[k]=true from ycn hc24,Bool.true_and]⟩,(u0 (.cons _ _ _ rfl (.cons _ _ _ rfl (.cons _ _ _ rfl (.cons _ _ _ rfl (.nil)))))),by omega⟩
  ·have hk3:k=l.length:=by
    have:l.length≤k:=by simpa using hc14
    omega
   refine rn ?_;exact zal rfl (.refl _ _) ⟨rfl,by rw [eqF,hz,hk3,List.drop_length,zs1,hlm,beq_self_eq_true];rfl⟩
theorem zvq (l:Int):y8 Tryz.prog 232 [iv l] [] (fun r h'=>h'= []∧r=iv (ylh l)):=by
 refine z6 Tryz.func232 rfl rfl rfl ?_
 refine rn ?_;refine u4 (fun hg1_2=> ?_) (fun hg1_2=> ?_)
 ·refine rn ?_;refine zq4 rfl ?_;refine rn ?_;exact zal rfl (.refl _ _) ⟨rfl,congrArg iv (by simp_all [ylh])⟩
 ·refine rn ?_;refine z8 rfl (fun hc8=> ?_) (fun hc8=> ?_)
  ·refine rn ?_;exact zal rfl (.refl _ _) ⟨rfl,congrArg iv (by simp_all [ylh])⟩
  ·refine rn ?_;exact zal rfl (.refl _ _) ⟨rfl,congrArg iv (by simp_all [ylh])⟩
theorem zp6 (c:Int):y8 Tryz.prog 224 [.v (.int .i32 c)] [] (fun r h'=>h'= []∧r=bv (zx8 c)):=by
 refine z6 Tryz.func224 rfl rfl rfl ?_
 refine rn ?_;refine u4 (fun hg1_2=> ?_) (fun hg1_2=> ?_)
 ·refine rn ?_;exact zal rfl (.refl _ _) ⟨rfl,congrArg bv (by first|(simp only [zx8, *,Bool.true_and,Bool.false_and,Bool.and_false,Bool.and_true,Bool.true_or,Bool.or_false,Bool.false_or,Bool.or_true,if_true,if_false,Bool.false_eq_true,Bool.not_true,Bool.not_false];done)|(simp_all [zx8];done)|(simp_all [zx8] <;> omega))⟩
 ·refine rn ?_;exact zal rfl (.refl _ _) ⟨rfl,congrArg bv (by first|(simp only [zx8, *,Bool.true_and,Bool.false_and,Bool.and_false,Bool.and_true,Bool.true_or,Bool.or_false,Bool.false_or,Bool.or_true,if_true,if_false,Bool.false_eq_true,Bool.not_true,Bool.not_false];done)|(simp_all [zx8];done)|(simp_all [zx8] <;> omega))⟩
theorem bvz0_9417 {a b:Bool} (h:a=b:=by first|(simp only [yhr, *,Bool.true_and,Bool.false_and,Bool.and_false,Bool.and_true,Bool.true_or,Bool.or_false,Bool.false_or,Bool.or_true,if_true,if_false,Bool.false_eq_true,Bool.not_true,Bool.not_false];done)|(simp_all [yhr];done)|(simp_all [yhr] <;> omega)):bv a=bv b:=congrArg bv h
theorem zyq (c:Int):y8 Tryz.prog 267 [.v (.int .i32 c)] [] (fun r h'=>h'= []∧r=bv (yhr c)):=by
 refine z6 Tryz.func267 rfl rfl rfl ?_
 refine rn ?_;refine u4 (fun hg1_2=> ?_) (fun hg1_2=> ?_)
 ·refine rn ?_;exact zal rfl (.refl _ _) ⟨rfl,bvz0_9417⟩
 ·refine rn ?_;refine u4 (fun hg1_5=> ?_) (fun hg1_5=> ?_)
  ·refine rn ?_;refine u4 (fun hg1_10=> ?_) (fun hg1_10=> ?_)
   ·refine rn ?_;exact zal rfl (.refl _ _) ⟨rfl,bvz0_9417⟩
   ·refine rn ?_;refine u4 (fun hg1_13=> ?_) (fun hg1_13=> ?_)
    ·refine rn ?_;refine u4 (fun hg1_18=> ?_) (fun hg1_18=> ?_)
     ·refine rn ?_;exact zal rfl (.refl _ _) ⟨rfl,bvz0_9417⟩
     ·refine rn ?_;exact zal rfl (.refl _ _) ⟨rfl,bvz0_9417⟩
    ·refine rn ?_;exact zal rfl (.refl _ _) ⟨rfl,bvz0_9417⟩
  ·refine rn ?_;refine u4 (fun hg1_13=> ?_) (fun hg1_13=> ?_)
   ·refine rn ?_;refine u4 (fun hg1_18=> ?_) (fun hg1_18=> ?_)
    ·refine rn ?_;exact zal rfl (.refl _ _) ⟨rfl,bvz0_9417⟩
    ·refine rn ?_;exact zal rfl (.refl _ _) ⟨rfl,bvz0_9417⟩
   ·refine rn ?_;exact zal rfl (.refl _ _) ⟨rfl,bvz0_9417⟩
theorem zyr (c:Int):y8 Tryz.prog 226 [.v (.int .i32 c)] [] (fun r h'=>h'= []∧r=bv (yhr c||zx8 c)):=by
 refine z6 Tryz.func226 rfl rfl rfl ?_
 refine rn ?_;refine qv rfl rfl (y4 rfl rfl (zbl (zyq _) (Sbs.refl _))) ?_
 refine rn ?_;refine u4 (fun hg1_2=> ?_) (fun hg1_2=> ?_)
 ·refine rn ?_;exact zal rfl (.refl _ _) ⟨rfl,congrArg bv (by first|(simp only [*,Bool.true_and,Bool.false_and,Bool.and_false,Bool.and_true,Bool.true_or,Bool.or_false,Bool.false_or,Bool.or_true,if_true,if_false,Bool.false_eq_true,Bool.not_true,Bool.not_false];done)|(simp_all;done)|(simp_all <;> omega))⟩
 ·refine rn ?_;refine qv rfl rfl (y4 rfl rfl (zbl (zp6 _) (Sbs.refl _))) ?_
  refine rn ?_;exact zal rfl (.refl _ _) ⟨rfl,congrArg bv (by first|(simp only [*,Bool.true_and,Bool.false_and,Bool.and_false,Bool.and_true,Bool.true_or,Bool.or_false,Bool.false_or,Bool.or_true,if_true,if_false,Bool.false_eq_true,Bool.not_true,Bool.not_false];done)|(simp_all;done)|(simp_all <;> omega))⟩
theorem yhc (h:Hist):y8 Tryz.prog 142 [.agg (y9 h)] [] (fun r h'=>h'= []∧r= .agg (zjn h)):=by
 refine z6 Tryz.func142 rfl rfl rfl ?_
 refine rn ?_;refine z7 rfl (w7 rfl rfl rfl fun b1=> ?_)
 refine z7 rfl (y6 rfl fun b2=> ?_)
 refine rn ?_;exact zd0 (.cons _ _ _ _ (.agg _ _ _ _ _ _ _ rfl inferInstance inferInstance inferInstance rfl) .nil) (.drop [_,_] _ _) ⟨rfl,rfl⟩
theorem zwf (h:Hist) (sort:Nat) (n:Int) (l:List ByteArray) (hs:(zjn h)[sort]? =some (zcv l)) (hs4:sort < 4):y8 Tryz.prog 191 [.agg (y9 h),iv sort,iv n] [] (fun r h'=>h'= []∧r=bv (zd9 l n)):=by
 refine z6 Tryz.func191 rfl rfl rfl ?_
 refine rn ?_;refine z7 rfl (w7 rfl rfl rfl fun b3=> ?_)
 refine rn ?_;refine u4 (fun hg1_2=> ?_) (fun hg1_2=> ?_)
 ·refine rn ?_;refine qv rfl rfl (y4 rfl rfl (zbl (yhc _) (Sbs.refl _))) ?_
  refine q1 ?_;refine qq rfl rfl (zcs rfl rfl (by omega) (by simpa using hs)) ?_
  refine rn ?_;exact zal rfl (.drop1 _ _ _) ⟨rfl,congrArg bv (by first|(simp only [zd9, *,Bool.true_and,Bool.false_and,Bool.and_false,Bool.and_true,Bool.true_or,Bool.or_false,Bool.false_or,Bool.or_true,if_true,if_false,Bool.false_eq_true,Bool.not_true,Bool.not_false];done)|(simp_all [zd9];done)|(simp_all [zd9] <;> omega))⟩
 ·refine rn ?_;exact zal rfl (.drop1 _ _ _) ⟨rfl,congrArg bv (by first|(simp only [zd9, *,Bool.true_and,Bool.false_and,Bool.and_false,Bool.and_true,Bool.true_or,Bool.or_false,Bool.false_or,Bool.or_true,if_true,if_false,Bool.false_eq_true,Bool.not_true,Bool.not_false];done)|(simp_all [zd9];done)|(simp_all [zd9] <;> omega))⟩
theorem bvz1_9904 {a b:Bool} (h:a=b:=by first|(simp only [zwq, *,Bool.true_and,Bool.false_and,Bool.and_false,Bool.and_true,Bool.true_or,Bool.or_false,Bool.false_or,Bool.or_true,if_true,if_false,Bool.false_eq_true,Bool.not_true,Bool.not_false];done)|(simp_all [zwq];done)|(simp_all [zwq] <;> omega)):bv a=bv b:=congrArg bv h
theorem zri (h:Hist) (v:Ver):y8 Tryz.prog 234 [.agg (y9 h),.agg (yav v)] [] (fun r h'=>h'= []∧r=bv (zwq h.ts v)):=by
 refine z6 Tryz.func234 rfl rfl rfl ?_
 refine rn ?_;refine z7 rfl (w7 rfl rfl rfl fun b2=> ?_)
 refine z7 rfl (w7 rfl rfl rfl fun b3=> ?_)
 refine rn ?_;refine z8 rfl (fun hc7=> ?_) (fun hc7=> ?_)
 ·refine rn ?_;exact zal rfl (.drop [_,_] _ _) ⟨rfl,bvz1_9904⟩
 ·refine rn ?_;refine qv rfl rfl (y4 rfl rfl (zbl (zwf _ 0 _ _ rfl (by decide)) (Sbs.refl _))) ?_
  refine rn ?_;refine u4 (fun hg3_4=> ?_) (fun hg3_4=> ?_)
  ·refine rn ?_;refine u4 (fun hg3_9=> ?_) (fun hg3_9=> ?_)
   ·refine rn ?_;exact zal rfl (.drop [_,_] _ _) ⟨rfl,bvz1_9904⟩
   ·refine rn ?_;exact zal rfl (.drop [_,_] _ _) ⟨rfl,bvz1_9904⟩
  ·refine rn ?_;exact zal rfl (.drop [_,_] _ _) ⟨rfl,bvz1_9904⟩
theorem bvz2_2721 {a b:Bool} (h:a=b:=by first|(simp only [yig, *,Bool.true_and,Bool.false_and,Bool.and_false,Bool.and_true,Bool.true_or,Bool.or_false,Bool.false_or,Bool.or_true,if_true,if_false,Bool.false_eq_true,Bool.not_true,Bool.not_false];done)|(simp_all [yig];done)|(simp_all [yig] <;> omega)):bv a=bv b:=congrArg bv h
theorem zxb (a b:Ev) (ha:a.scan.length≤4611686018427387904) (hb:b.scan.length≤4611686018427387904):y8 Tryz.prog 241 [.agg (evR a),.agg (evR b)] [] (fun r h'=>h'= []∧r=bv (yig a b)):=by
 refine z6 Tryz.func241 rfl rfl rfl ?_
 refine rn ?_;refine z7 rfl (w7 rfl rfl rfl fun b2=> ?_)
 refine z7 rfl (w7 rfl rfl rfl fun b3=> ?_)
 refine rn ?_;refine u4 (fun hg1_5=> ?_) (fun hg1_5=> ?_)
 ·refine rn ?_;refine u4 (fun hg1_12=> ?_) (fun hg1_12=> ?_)
  ·refine rn ?_;refine u4 (fun hg1_19=> ?_) (fun hg1_19=> ?_)
   ·refine rn ?_;refine u4 (fun hg2_1=> ?_) (fun hg2_1=> ?_)
    ·refine rn ?_;refine u4 (fun hg2_8=> ?_) (fun hg2_8=> ?_)
     ·refine rn ?_;refine u4 (fun hg2_15=> ?_) (fun hg2_15=> ?_)
      ·refine rn ?_;refine u4 (fun hg2_22=> ?_) (fun hg2_22=> ?_)
       ·refine rn ?_;refine qv rfl rfl (y4 rfl rfl (zbl (zzi _ _ ha hb) (Sbs.refl _))) ?_
        refine rn ?_;exact zal rfl (.drop [_,_] _ _) ⟨rfl,bvz2_2721⟩
       ·refine rn ?_;exact zal rfl (.drop [_,_] _ _) ⟨rfl,bvz2_2721⟩
      ·refine rn ?_;exact zal rfl (.drop [_,_] _ _) ⟨rfl,bvz2_2721⟩
     ·refine rn ?_;exact zal rfl (.drop [_,_] _ _) ⟨rfl,bvz2_2721⟩
    ·refine rn ?_;exact zal rfl (.drop [_,_] _ _) ⟨rfl,bvz2_2721⟩
   ·refine rn ?_;exact zal rfl (.drop [_,_] _ _) ⟨rfl,bvz2_2721⟩
  ·refine rn ?_;exact zal rfl (.drop [_,_] _ _) ⟨rfl,bvz2_2721⟩
 ·refine rn ?_;exact zal rfl (.drop [_,_] _ _) ⟨rfl,bvz2_2721⟩
theorem ybn (s:ByteArray) (i:Nat) (c:Int) (bs bi bc:Nat) (hi:i≤s.size):y8 Tryz.prog 280 [pZ bs,pZ bi,pZ bc] [.box bs 9 [sv s],.box bi 3 [iv (i:Nat)],.box bc 21 [.v (.int .i32 c)],.glob 4 305 y3,.glob 5 308 y1] (fun r h'=>h'= [.box bs 9 [sv s],.box bi 3 [iv (i:Nat)],.box bc 21 [.v (.int .i32 c)],.glob 4 305 y3,.glob 5 308 y1]∧r= .tup [.v (.int .i32 c),bv (zrk s i c)]):=by
 refine z6 Tryz.func280 rfl rfl rfl ?_
 refine w8 (y7 ?_)
 refine q1 ?_;refine q1 ?_;refine j6 (zan ?_)
 refine w8 (y7 ?_)
 refine q1 ?_;refine q1 ?_;refine qq rfl rfl (ze2 rfl rfl hi) ?_
 refine qv rfl rfl (y4 rfl rfl (y0.quiet (R:=fun x=>x=_) (h2:= [_,_,_]) (List.perm_append_comm (l₁:= [_,_,_])) (y0.of_fun (zv1 (s.extract i s.size))))) ?_
 refine rn ?_;refine u4 (fun hg2_3=> ?_) (fun hg2_3=> ?_)
 ·refine rn ?_;exact zbs rfl rfl (.refl _ _) ⟨rfl,congrArg (fun b=>AV.tup [.v (.int .i32 c),bv b]) (by first|(simp only [zrk, *,Bool.true_and,Bool.false_and,Bool.and_false,Bool.and_true,Bool.true_or,Bool.or_false,Bool.false_or,Bool.or_true,if_true,if_false,Bool.false_eq_true,Bool.not_true,Bool.not_false];done)|(simp_all [zrk];done))⟩
 ·refine rn ?_;exact zbs rfl rfl (.refl _ _) ⟨rfl,congrArg (fun b=>AV.tup [.v (.int .i32 c),bv b]) (by first|(simp only [zrk, *,Bool.true_and,Bool.false_and,Bool.and_false,Bool.and_true,Bool.true_or,Bool.or_false,Bool.false_or,Bool.or_true,if_true,if_false,Bool.false_eq_true,Bool.not_true,Bool.not_false];done)|(simp_all [zrk];done))⟩
theorem zxi (s:ByteArray) (bs:Nat) (y:AV) (p:Nat→Int→Bool) (I:List Res→Prop) (J:Nat→List Res→Prop) (hy:∀(i bi bc it:Nat) (L:List Res),i < s.size→I L→y0 Tryz.prog y [iv i,.fn (.func 280) [] [pZ bs,pZ bi,pZ bc]] (.box bc 21 [.v (.int .i32 (Utf8.decode s i).1)]:: .box bi 3 [iv (i:Nat)]:: .obj it (.stringIter s (i+(Utf8.decode s i).2)):: .box bs 9 [sv s]::L) (fun r h'=>∃L',h'= .box bc 21 [.v (.int .i32 (Utf8.decode s i).1)]:: .box bi 3 [iv (i:Nat)]:: .obj it (.stringIter s (i+(Utf8.decode s i).2)):: .box bs 9 [sv s]::L'∧((p i (Utf8.decode s i).1=true∧r=bv true∧I L')∨(p i (Utf8.decode s i).1=false∧r=bv false∧J i L')))) (L0:List Res) (h0:I L0):y8 Tryz.prog 279 [y,pZ bs] (.box bs 9 [sv s]::L0) (fun r h'=>∃L',h'= .box bs 9 [sv s]::L'∧((zdv s p 0=s.size∧I L')∨(zdv s p 0 < s.size∧J (zdv s p 0) L'))):=by
 refine z6 Tryz.func279 rfl rfl rfl ?_
 refine rn ?_;refine z7 rfl (zpy rfl rfl fun b7=> ?_)
 refine rn ?_;refine zaj (fun x:Nat×List Res=>zdv s p 0=zdv s p x.1∧I x.2) (fun x=>⟨[(7,pZ b7),(0,y),(1,pZ bs)],.obj b7 (.stringIter s x.1):: .box bs 9 [sv s]::x.2,[]⟩) (fun x=>s.size - x.1) (0,L0) ⟨rfl,h0⟩
  (u0 (.cons _ _ _ rfl (.cons _ _ _ rfl (.cons _ _ _ rfl (.nil))))) ?_
 rintro ⟨k,L⟩ ⟨hw,hI⟩
 simp only at hw hI
 refine w8 (y7 ?_)
 refine z7 rfl (zr6 rfl rfl (fun hp=> ?_) (fun hp=> ?_))
 ·refine rn ?_;refine z8 rfl (fun hc9=> ?_) (fun hc9=> ?_)
  ·first|cases hc9|exact absurd hc9 (by decide)|(exfalso;simp_all;done)
  ·refine rn ?_;exact zeq .nil (.drop1 _ _ _) ⟨_,rfl,.inl ⟨by rw [hw,zmo hp],hI⟩⟩
 ·refine rn ?_;refine z8 rfl (fun hc9=> ?_) (fun hc9=> ?_)
  ·refine rn ?_;refine z7 rfl (y6 rfl fun b3=> ?_)
   refine z7 rfl (y6 rfl fun b4=> ?_)
   first|refine z7 rfl (j8 rfl rfl rfl ?_)|refine z7 rfl (zap rfl rfl rfl rfl (Nat.le_of_ble_eq_true rfl) ?_)
   first|refine z7 rfl (j8 rfl rfl rfl ?_)|refine z7 rfl (zap rfl rfl rfl rfl (Nat.le_of_ble_eq_true rfl) ?_)
   refine j6 (zan ?_)
   refine w8 (y7 ?_)
   refine q1 ?_;refine q1 ?_;refine j6 (zan ?_)
   refine w8 (y7 ?_)
   refine q1 ?_;refine q1 ?_;refine q1 ?_;refine z7 rfl (v6 rfl rfl (hy k b3 b4 b7 L hp hI) rfl ?_)
   rintro av h' ⟨L',rfl,⟨hp1,rfl,hI2⟩|⟨hp1,rfl,hJ⟩⟩
   ·refine rn ?_;refine z8 rfl (fun hc17=> ?_) (fun hc17=> ?_)
    ·first|cases hc17|exact absurd hc17 (by decide)|(exfalso;simp_all;done)
    ·refine rn ?_;exact ⟨(k+(Utf8.decode s k).2,L'),⟨hw.trans (zo8 hp hp1),hI2⟩,(v8 (zed (h1:= [_,_])) (u0 (.cons _ _ _ rfl (.cons _ _ _ rfl (.cons _ _ _ rfl (.nil)))))),by have:=zo7 s k;simp only at hp ⊢;omega⟩
   ·refine rn ?_;refine z8 rfl (fun hc17=> ?_) (fun hc17=> ?_)
    ·refine rn ?_;exact zd0 .nil (.drop [_,_,_] _ _) ⟨_,rfl,.inr (by rw [hw,zrg hp hp1];exact ⟨hp,hJ⟩)⟩
    ·first|cases hc17|exact absurd hc17 (by decide)|(exfalso;simp_all;done)
  ·first|cases hc9|exact absurd hc9 (by decide)|(exfalso;simp_all;done)
theorem yjy (s:ByteArray) (h:List Res):y8 Tryz.prog 266 [sv s] h (fun r h'=>∃bs,h'= .box bs 9 [sv s]::h∧r= .fn (.func 279) [] [pZ bs]):=by
 refine z6 Tryz.func266 rfl rfl rfl ?_
 refine rn ?_;refine z7 rfl (w7 rfl rfl rfl fun b1=> ?_)
 refine rn ?_;exact zal rfl (.refl _ _) ⟨_,rfl,rfl⟩
theorem yc4 (s:ByteArray) (fv:AV) (g:Int→Bool) (hone:fv.cellsOf=some [fv]) (hgo:∀c h,y0 Tryz.prog fv [.v (.int .i32 c)] h (fun r h'=>h'=h∧r=bv (g c))):y8 Tryz.prog 225 [sv s,fv] [.glob 4 305 y3,.glob 5 308 y1] (fun r h'=>h'= [.glob 4 305 y3,.glob 5 308 y1]∧r=iv (zdv s (zfn s g) 0:Nat)):=by
 refine z6 Tryz.func225 rfl rfl rfl ?_
 refine rn ?_;refine z7 rfl (w7 rfl hone rfl fun b3=> ?_)
 refine rn ?_;refine zil ?_;refine rn ?_;refine z7 rfl (y6 rfl fun b5=> ?_)
 refine rn ?_;refine z7 rfl (v6 rfl rfl (y0.of_fun (yjy s _)) rfl ?_)
 rintro _ _ ⟨bs,rfl,rfl⟩
 refine rn ?_;refine zl7 (fun pend h''=>(pend=none∨pend=some (.exit 0))∧h''= .box bs 9 [sv s]:: .box b5 3 [iv (zdv s (zfn s g) 0:Nat)]:: .box b3 270 [fv]:: [.glob 4 305 y3,.glob 5 308 y1]) rfl (fun fn l q lp hlp=> ?_) (fun q h'' hK=> ?_) (fun q h'' c hK=> ?_)
 ·suffices hy:∀(i bi bc it:Nat) (L:List Res),i < s.size→L=lp .ready none:: .defs q:: .box b5 3 [iv s.size]:: .box b3 270 [fv]:: [.glob 4 305 y3,.glob 5 308 y1]→y0 Tryz.prog (yv l) [iv i,.fn (.func 280) [] [pZ bs,pZ bi,pZ bc]] (.box bc 21 [.v (.int .i32 (Utf8.decode s i).1)]:: .box bi 3 [iv (i:Nat)]:: .obj it (.stringIter s (i+(Utf8.decode s i).2)):: .box bs 9 [sv s]::L)
   (fun r h'=>∃L',h'= .box bc 21 [.v (.int .i32 (Utf8.decode s i).1)]:: .box bi 3 [iv (i:Nat)]:: .obj it (.stringIter s (i+(Utf8.decode s i).2)):: .box bs 9 [sv s]::L'∧((zfn s g i (Utf8.decode s i).1=true∧r=bv true∧L'=lp .ready none:: .defs q:: .box b5 3 [iv s.size]:: .box b3 270 [fv]:: [.glob 4 305 y3,.glob 5 308 y1])∨(zfn s g i (Utf8.decode s i).1=false∧r=bv false∧L'=lp .done (some (.exit 0)):: .defs q:: .box b5 3 [iv (i:Nat)]:: .box b3 270 [fv]:: [.glob 4 305 y3,.glob 5 308 y1]))) by
   refine y8.mono (y8.perm (pt2 _ _ _ _) (zxi s bs (yv l) (zfn s g) _ (fun i L=>L=lp .done (some (.exit 0)):: .defs q:: .box b5 3 [iv (i:Nat)]:: .box b3 270 [fv]:: [.glob 4 305 y3,.glob 5 308 y1]) hy _ rfl)) ?_
   rintro _ _ ⟨L',rfl,⟨hw,rfl⟩|⟨hw,rfl⟩⟩
   ·exact ⟨_,_,_,(pt2 _ _ _ _).symm,by simp,.inl rfl,by rw [hw]⟩
   ·exact ⟨_,_,_,(pt2 _ _ _ _).symm,by simp,.inr rfl,rfl⟩
  rintro i bi bc it _ hi rfl
  refine y0.perm (pt4 _ _ _ _ _ _) (y0.permR (zt8 hlp rfl rfl ?_))
  refine rn ?_;refine ⟨[(6,iv (i:Nat)),(7,.fn (.func 280) [] [pZ bs,pZ bi,pZ bc]),(5,pZ b5),(3,pZ b3)],u0 (.cons _ _ _ rfl (.cons _ _ _ rfl (.cons _ _ _ rfl (.cons _ _ _ rfl .nil)))),?_⟩
  refine rn ?_;refine qv rfl rfl (y4 rfl rfl (y0.qt (y0.of_acall (fs:= []) (cs:= [pZ bs,pZ bi,pZ bc]) (ybn s i (Utf8.decode s i).1 bs bi bc (by omega))) ((pt4 _ _ _ _ _ _).trans (.cons _ ((pt2 _ _ _ _).trans (.cons _ ((pt1 _ _ _).trans (.cons _ ((pt5 _ _ _ _ _ _ _).trans (.cons _ (pt5 _ _ _ _ _ _ _))))))))))) ?_
  refine rn ?_;refine u4 (fun hg6_2=> ?_) (fun hg6_2=> ?_)
  ·refine rn ?_;refine zq4 rfl ?_;refine rn ?_;exact zxl (.refl _) ⟨_,((pt1 _ _ _).trans (.cons _ ((pt1 _ _ _).trans (.cons _ ((pt1 _ _ _).trans (.cons _ (pt1 _ _ _))))))),_,rfl,.inr ⟨by simp_all [zfn],rfl,rfl⟩⟩
  ·refine rn ?_;refine qv rfl rfl (y4 rfl rfl (hgo _ _)) ?_
   refine rn ?_;refine z8 rfl (fun hc28=> ?_) (fun hc28=> ?_)
   ·refine rn ?_;exact zxl (.refl _) ⟨_,((pt1 _ _ _).trans (.cons _ ((pt1 _ _ _).trans (.cons _ ((pt1 _ _ _).trans (.cons _ (pt1 _ _ _))))))),_,rfl,.inr ⟨by simp_all [zfn],rfl,rfl⟩⟩
   ·refine rn ?_;exact zcy (.refl _) ⟨_,((pt1 _ _ _).trans (.cons _ ((pt1 _ _ _).trans (.cons _ ((pt1 _ _ _).trans (.cons _ (pt1 _ _ _))))))),_,rfl,.inl ⟨by simp_all [zfn],rfl,rfl⟩⟩
 ·obtain ⟨_,rfl⟩:=hK
  refine rn ?_;refine ⟨fun l h=>(by cases h),?_⟩
  exact zgx (.refl _) (.cons _ _ _ _ (.tmp _ _ rfl) .nil) (.drop [_,_,_] _ _) ⟨rfl,rfl⟩
 ·obtain ⟨hc,rfl⟩:=hK
  obtain rfl:c= .exit 0:=by simpa using hc
  refine rn ?_;refine ⟨fun l h=>(by cases h),?_⟩
  exact zgx (.refl _) (.cons _ _ _ _ (.tmp _ _ rfl) .nil) (.drop [_,_,_] _ _) ⟨rfl,rfl⟩
theorem bvz3_4342 {a b:Bool} (h:a=b:=by first|(simp only [ziq, *,Bool.true_and,Bool.false_and,Bool.and_false,Bool.and_true,Bool.true_or,Bool.or_false,Bool.false_or,Bool.or_true,if_true,if_false,Bool.false_eq_true,Bool.not_true,Bool.not_false];done)|(simp_all [ziq,zz0];done)):bv a=bv b:=congrArg bv h
theorem ypi (s:ByteArray):y8 Tryz.prog 187 [sv s] [.glob 4 305 y3,.glob 5 308 y1] (fun r h'=>h'= [.glob 4 305 y3,.glob 5 308 y1]∧r=bv (ziq s)):=by
 refine z6 Tryz.func187 rfl rfl rfl ?_
 refine rn ?_;refine u4 (fun hg1_2=> ?_) (fun hg1_2=> ?_)
 ·refine rn ?_;refine u4 (fun hg1_7=> ?_) (fun hg1_7=> ?_)
  ·refine rn ?_;have h1:0 < s.size:=zwv hg1_2
   refine qq rfl rfl (u7 0 rfl rfl (by omega)) ?_
   refine rn ?_;refine qv rfl rfl (y4 rfl rfl (zbl (zp6 _) (Sbs.refl _))) ?_
   refine rn ?_;refine u4 (fun hg1_14=> ?_) (fun hg1_14=> ?_)
   ·refine rn ?_;refine qv rfl rfl (y4 rfl rfl (y0.of_fun (yc4 s (.fn (.func 226) [] []) zln rfl (fun c h=>(zbl (zyr c) (Sbs.refl _)))))) ?_
    refine rn ?_;exact zal rfl (.refl _ _) ⟨rfl,bvz3_4342⟩
   ·refine rn ?_;exact zal rfl (.refl _ _) ⟨rfl,bvz3_4342⟩
  ·refine rn ?_;exact zal rfl (.refl _ _) ⟨rfl,bvz3_4342⟩
 ·refine rn ?_;exact zal rfl (.refl _ _) ⟨rfl,bvz3_4342⟩
theorem ymc (e:Ev) (h:Hist) (be bh:Nat):y8 Tryz.prog 231 [pZ be,pZ bh] [.box be 60 (evR e),.box bh 28 (y9 h)] (fun r h'=>h'= [.box be 60 (evR e),.box bh 28 (y9 h)]∧r= .tup [.agg (evR ⟨0,0,e.s,e.l,0,⟨0,0⟩,0,[]⟩),bv (zdu h e)]):=by
 refine z6 Tryz.func231 rfl rfl rfl ?_
 refine rn ?_;refine z7 rfl (y6 rfl fun b2=> ?_)
 refine rn ?_;refine zeu 16 [(b2,60,_)] rfl (List.perm_append_comm (l₁:= [_])) ?_
 refine rn ?_;refine dv rfl rfl (by exact y4 rfl rfl (zbl (zwf _ 1 _ _ rfl (by decide)) (Sbs.refl _))) ?_
 refine rn ?_;refine zco (fun hg1_9=> ?_) (fun hg1_9=> ?_)
 ·refine rn ?_;refine dv rfl rfl (by exact y4 rfl rfl (zbl (zvq _) (Sbs.refl _))) ?_
  refine rn ?_;refine dw 0 rfl rfl rfl rfl rfl (Nat.le_of_ble_eq_true rfl) ?_
  refine rn2 ?_;show zb7 _ _ _ _ _ _ ⟨_,.box b2 60 _::_,_⟩
  refine rn ?_;exact zd0 (.cons _ _ _ _ (.agg _ _ _ _ _ _ _ rfl inferInstance inferInstance inferInstance rfl) (.cons _ _ _ _ (.tmp _ _ rfl) .nil)) (.trans (.drop1 _ _ _) (zbw (by exact Sb.aggs (by exact ⟨.refl _,.refl _,.refl _,.refl _,.refl _,.refl _,.refl _,.refl _,.nil _ _,trivial⟩)) (by exact .refl _))) ⟨rfl,congrArg (fun b=>AV.tup [.agg (evR ⟨0,0,e.s,e.l,0,⟨0,0⟩,0,[]⟩),bv b]) (by first|(simp only [zdu, *,Bool.true_and,Bool.false_and,Bool.and_false,Bool.and_true,Bool.true_or,Bool.or_false,Bool.false_or,Bool.or_true,if_true,if_false,Bool.false_eq_true,Bool.not_true,Bool.not_false];done)|(simp_all [zdu];done)|(simp_all [zdu] <;> omega))⟩
 ·refine rn ?_;refine dw 0 rfl rfl rfl rfl rfl (Nat.le_of_ble_eq_true rfl) ?_
  refine rn2 ?_;show zb7 _ _ _ _ _ _ ⟨_,.box b2 60 _::_,_⟩
  refine rn ?_;exact zd0 (.cons _ _ _ _ (.agg _ _ _ _ _ _ _ rfl inferInstance inferInstance inferInstance rfl) (.cons _ _ _ _ (.tmp _ _ rfl) .nil)) (.trans (.drop1 _ _ _) (zbw (by exact Sb.aggs (by exact ⟨.refl _,.refl _,.refl _,.refl _,.refl _,.refl _,.refl _,.refl _,.nil _ _,trivial⟩)) (by exact .refl _))) ⟨rfl,congrArg (fun b=>AV.tup [.agg (evR ⟨0,0,e.s,e.l,0,⟨0,0⟩,0,[]⟩),bv b]) (by first|(simp only [zdu, *,Bool.true_and,Bool.false_and,Bool.and_false,Bool.and_true,Bool.true_or,Bool.or_false,Bool.false_or,Bool.or_true,if_true,if_false,Bool.false_eq_true,Bool.not_true,Bool.not_false];done)|(simp_all [zdu];done)|(simp_all [zdu] <;> omega))⟩
theorem ymb (e:Ev) (h:Hist) (be bh:Nat):y8 Tryz.prog 233 [pZ be,pZ bh] [.box be 60 (evR e),.box bh 28 (y9 h)] (fun r h'=>h'= [.box be 60 (evR e),.box bh 28 (y9 h)]∧r= .tup [.agg (evR ⟨0,0,0,0,e.o,e.v,0,[]⟩),bv (zbm h e)]):=by
 refine z6 Tryz.func233 rfl rfl rfl ?_
 refine rn ?_;refine z7 rfl (y6 rfl fun b2=> ?_)
 refine rn ?_;refine zeu 30 [(b2,60,_)] rfl (List.perm_append_comm (l₁:= [_])) ?_
 refine rn ?_;refine dv rfl rfl (by exact y4 rfl rfl (zbl (zwf _ 2 _ _ rfl (by decide)) (Sbs.refl _))) ?_
 refine rn ?_;refine zco (fun hg1_9=> ?_) (fun hg1_9=> ?_)
 ·refine rn ?_;refine dv rfl rfl (by exact y4 rfl rfl (zbl (zri h e.v) (Sbs.refl _))) ?_
  refine rn ?_;refine zco (fun hg1_15=> ?_) (fun hg1_15=> ?_)
  ·refine rn ?_;refine zco (fun hg1_23=> ?_) (fun hg1_23=> ?_)
   ·refine rn ?_;refine dw 0 rfl rfl rfl rfl rfl (Nat.le_of_ble_eq_true rfl) ?_
    refine rn2 ?_;show zb7 _ _ _ _ _ _ ⟨_,.box b2 60 _::_,_⟩
    refine rn ?_;exact zd0 (.cons _ _ _ _ (.agg _ _ _ _ _ _ _ rfl inferInstance inferInstance inferInstance rfl) (.cons _ _ _ _ (.tmp _ _ rfl) .nil)) (.trans (.drop1 _ _ _) (zbw (by exact Sb.aggs (by exact ⟨.refl _,.refl _,.refl _,.refl _,.refl _,.refl _,.refl _,.refl _,.nil _ _,trivial⟩)) (by exact .refl _))) ⟨rfl,congrArg (fun b=>AV.tup [.agg (evR ⟨0,0,0,0,e.o,e.v,0,[]⟩),bv b]) (by first|(simp only [zbm, *,Bool.true_and,Bool.false_and,Bool.and_false,Bool.and_true,Bool.true_or,Bool.or_false,Bool.false_or,Bool.or_true,if_true,if_false,Bool.false_eq_true,Bool.not_true,Bool.not_false];done)|(simp_all [zbm];done)|(simp_all [zbm] <;> omega))⟩
   ·refine rn ?_;refine dw 0 rfl rfl rfl rfl rfl (Nat.le_of_ble_eq_true rfl) ?_
    refine rn2 ?_;show zb7 _ _ _ _ _ _ ⟨_,.box b2 60 _::_,_⟩
    refine rn ?_;exact zd0 (.cons _ _ _ _ (.agg _ _ _ _ _ _ _ rfl inferInstance inferInstance inferInstance rfl) (.cons _ _ _ _ (.tmp _ _ rfl) .nil)) (.trans (.drop1 _ _ _) (zbw (by exact Sb.aggs (by exact ⟨.refl _,.refl _,.refl _,.refl _,.refl _,.refl _,.refl _,.refl _,.nil _ _,trivial⟩)) (by exact .refl _))) ⟨rfl,congrArg (fun b=>AV.tup [.agg (evR ⟨0,0,0,0,e.o,e.v,0,[]⟩),bv b]) (by first|(simp only [zbm, *,Bool.true_and,Bool.false_and,Bool.and_false,Bool.and_true,Bool.true_or,Bool.or_false,Bool.false_or,Bool.or_true,if_true,if_false,Bool.false_eq_true,Bool.not_true,Bool.not_false];done)|(simp_all [zbm];done)|(simp_all [zbm] <;> omega))⟩
  ·refine rn ?_;refine dw 0 rfl rfl rfl rfl rfl (Nat.le_of_ble_eq_true rfl) ?_
   refine rn2 ?_;show zb7 _ _ _ _ _ _ ⟨_,.box b2 60 _::_,_⟩
   refine rn ?_;exact zd0 (.cons _ _ _ _ (.agg _ _ _ _ _ _ _ rfl inferInstance inferInstance inferInstance rfl) (.cons _ _ _ _ (.tmp _ _ rfl) .nil)) (.trans (.drop1 _ _ _) (zbw (by exact Sb.aggs (by exact ⟨.refl _,.refl _,.refl _,.refl _,.refl _,.refl _,.refl _,.refl _,.nil _ _,trivial⟩)) (by exact .refl _))) ⟨rfl,congrArg (fun b=>AV.tup [.agg (evR ⟨0,0,0,0,e.o,e.v,0,[]⟩),bv b]) (by first|(simp only [zbm, *,Bool.true_and,Bool.false_and,Bool.and_false,Bool.and_true,Bool.true_or,Bool.or_false,Bool.false_or,Bool.or_true,if_true,if_false,Bool.false_eq_true,Bool.not_true,Bool.not_false];done)|(simp_all [zbm];done)|(simp_all [zbm] <;> omega))⟩
 ·refine rn ?_;refine dw 0 rfl rfl rfl rfl rfl (Nat.le_of_ble_eq_true rfl) ?_
  refine rn2 ?_;show zb7 _ _ _ _ _ _ ⟨_,.box b2 60 _::_,_⟩
  refine rn ?_;exact zd0 (.cons _ _ _ _ (.agg _ _ _ _ _ _ _ rfl inferInstance inferInstance inferInstance rfl) (.cons _ _ _ _ (.tmp _ _ rfl) .nil)) (.trans (.drop1 _ _ _) (zbw (by exact Sb.aggs (by exact ⟨.refl _,.refl _,.refl _,.refl _,.refl _,.refl _,.refl _,.refl _,.nil _ _,trivial⟩)) (by exact .refl _))) ⟨rfl,congrArg (fun b=>AV.tup [.agg (evR ⟨0,0,0,0,e.o,e.v,0,[]⟩),bv b]) (by first|(simp only [zbm, *,Bool.true_and,Bool.false_and,Bool.and_false,Bool.and_true,Bool.true_or,Bool.or_false,Bool.false_or,Bool.or_true,if_true,if_false,Bool.false_eq_true,Bool.not_true,Bool.not_false];done)|(simp_all [zbm];done)|(simp_all [zbm] <;> omega))⟩
theorem yma (e:Ev) (h:Hist) (be bh:Nat):y8 Tryz.prog 235 [pZ be,pZ bh] [.box be 60 (evR e),.box bh 28 (y9 h)] (fun r h'=>h'= [.box be 60 (evR e),.box bh 28 (y9 h)]∧r= .tup [.agg (evR ⟨0,0,0,0,e.o,e.v,0,[]⟩),bv (zd1 h e)]):=by
 refine z6 Tryz.func235 rfl rfl rfl ?_
 refine rn ?_;refine z7 rfl (y6 rfl fun b2=> ?_)
 refine rn ?_;refine zeu 16 [(b2,60,_)] rfl (List.perm_append_comm (l₁:= [_])) ?_
 refine rn ?_;refine dv rfl rfl (by exact y4 rfl rfl (zbl (zwf _ 2 _ _ rfl (by decide)) (Sbs.refl _))) ?_
 refine rn ?_;refine zco (fun hg1_9=> ?_) (fun hg1_9=> ?_)
 ·refine rn ?_;refine dv rfl rfl (by exact y4 rfl rfl (zbl (zri h e.v) (Sbs.refl _))) ?_
  refine rn ?_;refine dw 0 rfl rfl rfl rfl rfl (Nat.le_of_ble_eq_true rfl) ?_
  refine rn2 ?_;show zb7 _ _ _ _ _ _ ⟨_,.box b2 60 _::_,_⟩
  refine rn ?_;exact zd0 (.cons _ _ _ _ (.agg _ _ _ _ _ _ _ rfl inferInstance inferInstance inferInstance rfl) (.cons _ _ _ _ (.tmp _ _ rfl) .nil)) (.trans (.drop1 _ _ _) (zbw (by exact Sb.aggs (by exact ⟨.refl _,.refl _,.refl _,.refl _,.refl _,.refl _,.refl _,.refl _,.nil _ _,trivial⟩)) (by exact .refl _))) ⟨rfl,congrArg (fun b=>AV.tup [.agg (evR ⟨0,0,0,0,e.o,e.v,0,[]⟩),bv b]) (by first|(simp only [zd1, *,Bool.true_and,Bool.false_and,Bool.and_false,Bool.and_true,Bool.true_or,Bool.or_false,Bool.false_or,Bool.or_true,if_true,if_false,Bool.false_eq_true,Bool.not_true,Bool.not_false];done)|(simp_all [zd1];done)|(simp_all [zd1] <;> omega))⟩
 ·refine rn ?_;refine dw 0 rfl rfl rfl rfl rfl (Nat.le_of_ble_eq_true rfl) ?_
  refine rn2 ?_;show zb7 _ _ _ _ _ _ ⟨_,.box b2 60 _::_,_⟩
  refine rn ?_;exact zd0 (.cons _ _ _ _ (.agg _ _ _ _ _ _ _ rfl inferInstance inferInstance inferInstance rfl) (.cons _ _ _ _ (.tmp _ _ rfl) .nil)) (.trans (.drop1 _ _ _) (zbw (by exact Sb.aggs (by exact ⟨.refl _,.refl _,.refl _,.refl _,.refl _,.refl _,.refl _,.refl _,.nil _ _,trivial⟩)) (by exact .refl _))) ⟨rfl,congrArg (fun b=>AV.tup [.agg (evR ⟨0,0,0,0,e.o,e.v,0,[]⟩),bv b]) (by first|(simp only [zd1, *,Bool.true_and,Bool.false_and,Bool.and_false,Bool.and_true,Bool.true_or,Bool.or_false,Bool.false_or,Bool.or_true,if_true,if_false,Bool.false_eq_true,Bool.not_true,Bool.not_false];done)|(simp_all [zd1];done)|(simp_all [zd1] <;> omega))⟩
theorem yie (s:Seen) (h:Hist) (bh:Nat):y8 Tryz.prog 237 [.agg (za2 s),pZ bh] [.box bh 28 (y9 h)] (fun r h'=>h'= [.box bh 28 (y9 h)]∧r=bv (zis h s)):=by
 refine z6 Tryz.func237 rfl rfl rfl ?_
 refine rn ?_;refine z7 rfl (w7 rfl rfl rfl fun b2=> ?_)
 refine rn ?_;refine qv rfl rfl (y4 rfl rfl (zbl (zwf _ 2 _ _ rfl (by decide)) (Sbs.refl _))) ?_
 refine rn ?_;refine u4 (fun hg1_4=> ?_) (fun hg1_4=> ?_)
 ·refine rn ?_;refine qv rfl rfl (y4 rfl rfl (zbl (zri h s.v) (Sbs.refl _))) ?_
  refine rn ?_;exact zal rfl (.drop1 _ _ _) ⟨rfl,congrArg bv (by first|(simp only [zis, *,Bool.true_and,Bool.false_and,Bool.and_false,Bool.and_true,Bool.true_or,Bool.or_false,Bool.false_or,Bool.or_true,if_true,if_false,Bool.false_eq_true,Bool.not_true,Bool.not_false];done)|(simp_all [zis];done)|(simp_all [zis] <;> omega))⟩
 ·refine rn ?_;exact zal rfl (.drop1 _ _ _) ⟨rfl,congrArg bv (by first|(simp only [zis, *,Bool.true_and,Bool.false_and,Bool.and_false,Bool.and_true,Bool.true_or,Bool.or_false,Bool.false_or,Bool.or_true,if_true,if_false,Bool.false_eq_true,Bool.not_true,Bool.not_false];done)|(simp_all [zis];done)|(simp_all [zis] <;> omega))⟩
theorem yl9 (e:Ev) (h:Hist) (be bh:Nat) (hl:e.scan.length≤4611686018427387904):y8 Tryz.prog 236 [pZ bh,pZ be] [.box be 60 (evR e),.box bh 28 (y9 h)] (fun r h'=>h'= [.box be 60 (evR e),.box bh 28 (y9 h)]∧r= .tup [.agg (evR ⟨0,0,0,0,0,⟨0,0⟩,e.p,e.scan⟩),bv (zcj h e)]):=by
 refine z6 Tryz.func236 rfl rfl rfl ?_
 refine rn ?_;refine z7 rfl (y6 rfl fun b2=> ?_)
 refine rn ?_;refine zeu 22 [(b2,60,_)] rfl (List.perm_append_comm (l₁:= [_])) ?_
 refine rn ?_;refine dv rfl rfl (by exact y4 rfl rfl (zbl (zwf _ 3 _ _ rfl (by decide)) (Sbs.refl _))) ?_
 refine rn ?_;refine zco (fun hg2_9=> ?_) (fun hg2_9=> ?_)
 ·refine rn ?_;refine zco (fun hg2_15=> ?_) (fun hg2_15=> ?_)
  ·refine rn ?_;refine dv rfl rfl (by exact y4 rfl rfl (y0.of_fun (yiv e.scan (.fn (.func 237) [] [pZ bh]) (zis h) [.box be 60 (evR e),.box bh 28 (y9 h)] rfl (fun s hs=>y0.quiet (R:=fun x=>x=bv (zis h s)) (h2:= [_]) (List.perm_append_comm (l₁:= [_])) (y0.of_acall (fs:= []) (cs:= [pZ bh]) (yie s h bh))) hl))) ?_
   refine rn ?_;refine dw 0 rfl rfl rfl rfl rfl (Nat.le_of_ble_eq_true rfl) ?_
   refine rn2 ?_;show zb7 _ _ _ _ _ _ ⟨_,.box b2 60 _::_,_⟩
   refine rn ?_;exact zd0 (.cons _ _ _ _ (.agg _ _ _ _ _ _ _ rfl inferInstance inferInstance inferInstance rfl) (.cons _ _ _ _ (.tmp _ _ rfl) .nil)) (.trans (.drop1 _ _ _) (zbw (by exact Sb.aggs (by exact ⟨.refl _,.refl _,.refl _,.refl _,.refl _,.refl _,.refl _,.refl _,.refl _,trivial⟩)) (by exact .refl _))) ⟨rfl,congrArg (fun b=>AV.tup [.agg (evR ⟨0,0,0,0,0,⟨0,0⟩,e.p,e.scan⟩),bv b]) (by first|(simp only [zcj, *,Bool.true_and,Bool.false_and,Bool.and_false,Bool.and_true,Bool.true_or,Bool.or_false,Bool.false_or,Bool.or_true,if_true,if_false,Bool.false_eq_true,Bool.not_true,Bool.not_false];done)|(simp_all [zcj];done)|(simp_all [zcj] <;> omega))⟩
  ·refine rn ?_;refine dw 0 rfl rfl rfl rfl rfl (Nat.le_of_ble_eq_true rfl) ?_
   refine rn2 ?_;show zb7 _ _ _ _ _ _ ⟨_,.box b2 60 _::_,_⟩
   refine rn ?_;exact zd0 (.cons _ _ _ _ (.agg _ _ _ _ _ _ _ rfl inferInstance inferInstance inferInstance rfl) (.cons _ _ _ _ (.tmp _ _ rfl) .nil)) (.trans (.drop1 _ _ _) (zbw (by exact Sb.aggs (by exact ⟨.refl _,.refl _,.refl _,.refl _,.refl _,.refl _,.refl _,.refl _,.refl _,trivial⟩)) (by exact .refl _))) ⟨rfl,congrArg (fun b=>AV.tup [.agg (evR ⟨0,0,0,0,0,⟨0,0⟩,e.p,e.scan⟩),bv b]) (by first|(simp only [zcj, *,Bool.true_and,Bool.false_and,Bool.and_false,Bool.and_true,Bool.true_or,Bool.or_false,Bool.false_or,Bool.or_true,if_true,if_false,Bool.false_eq_true,Bool.not_true,Bool.not_false];done)|(simp_all [zcj];done)|(simp_all [zcj] <;> omega))⟩
 ·refine rn ?_;refine dw 0 rfl rfl rfl rfl rfl (Nat.le_of_ble_eq_true rfl) ?_
  refine rn2 ?_;show zb7 _ _ _ _ _ _ ⟨_,.box b2 60 _::_,_⟩
  refine rn ?_;exact zd0 (.cons _ _ _ _ (.agg _ _ _ _ _ _ _ rfl inferInstance inferInstance inferInstance rfl) (.cons _ _ _ _ (.tmp _ _ rfl) .nil)) (.trans (.drop1 _ _ _) (zbw (by exact Sb.aggs (by exact ⟨.refl _,.refl _,.refl _,.refl _,.refl _,.refl _,.refl _,.refl _,.refl _,trivial⟩)) (by exact .refl _))) ⟨rfl,congrArg (fun b=>AV.tup [.agg (evR ⟨0,0,0,0,0,⟨0,0⟩,e.p,e.scan⟩),bv b]) (by first|(simp only [zcj, *,Bool.true_and,Bool.false_and,Bool.and_false,Bool.and_true,Bool.true_or,Bool.or_false,Bool.false_or,Bool.or_true,if_true,if_false,Bool.false_eq_true,Bool.not_true,Bool.not_false];done)|(simp_all [zcj];done)|(simp_all [zcj] <;> omega))⟩
theorem yl8  :y8 Tryz.prog 239 [] [] (fun r h'=>h'= []∧r= .tup [.agg (evR ⟨0,0,0,0,0,⟨0,0⟩,0,[]⟩),bv true]):=by
 refine z6 Tryz.func239 rfl rfl rfl ?_
 refine rn ?_;refine z7 rfl (y6 rfl fun b0=> ?_)
 refine rn ?_;exact zd0 (.cons _ _ _ _ (.agg _ _ _ _ _ _ _ rfl inferInstance inferInstance inferInstance rfl) (.cons _ _ _ _ (.tmp _ _ rfl) .nil)) (.trans (.drop1 _ _ _) (zbw (by exact Sb.aggs (by exact ⟨.refl _,.refl _,.refl _,.refl _,.refl _,.refl _,.refl _,.refl _,.nil _ _,trivial⟩)) (by exact .refl _))) ⟨rfl,congrArg (fun b=>AV.tup [.agg (evR ⟨0,0,0,0,0,⟨0,0⟩,0,[]⟩),bv b]) (by rfl)⟩
theorem yl7  :y8 Tryz.prog 240 [] [] (fun r h'=>h'= []∧r= .tup [.agg (evR ⟨0,0,0,0,0,⟨0,0⟩,0,[]⟩),bv true]):=by
 refine z6 Tryz.func240 rfl rfl rfl ?_
 refine rn ?_;refine z7 rfl (y6 rfl fun b0=> ?_)
 refine rn ?_;exact zd0 (.cons _ _ _ _ (.agg _ _ _ _ _ _ _ rfl inferInstance inferInstance inferInstance rfl) (.cons _ _ _ _ (.tmp _ _ rfl) .nil)) (.trans (.drop1 _ _ _) (zbw (by exact Sb.aggs (by exact ⟨.refl _,.refl _,.refl _,.refl _,.refl _,.refl _,.refl _,.refl _,.nil _ _,trivial⟩)) (by exact .refl _))) ⟨rfl,congrArg (fun b=>AV.tup [.agg (evR ⟨0,0,0,0,0,⟨0,0⟩,0,[]⟩),bv b]) (by rfl)⟩
theorem ydl (h:Hist) (e:Ev) (b2 b3 k:Nat) (hl:e.scan.length≤4611686018427387904) (hk:e.kind=k) (h1:1≤k) (h7:k < 7):
 ∃av,(([.v .nilFunc,.fn (.func 231) [] [pZ b3,pZ b2],.fn (.func 233) [] [pZ b3,pZ b2],.fn (.func 235) [] [pZ b3,pZ b2],.fn (.func 236) [] [pZ b2,pZ b3],.fn (.func 239) [] [],.fn (.func 240) [] []]):List AV)[k * 1]? =some av∧y0 Tryz.prog av [] [.box b3 60 (evR e),.box b2 28 (y9 h)] (fun r h'=>h'= [.box b3 60 (evR e),.box b2 28 (y9 h)]∧r= .tup [.agg (evR (zhb h e).1),bv (zhb h e).2]):=by
 rcases (by omega:k=1∨k=2∨k=3∨k=4∨k=5∨k=6) with rfl|rfl|rfl|rfl|rfl|rfl
 ·refine ⟨_,rfl,?_⟩
  have hc:zhb h e=(⟨0,0,e.s,e.l,0,⟨0,0⟩,0,[]⟩,zdu h e):=by unfold zhb;rw [hk];rfl
  rw [hc]
  exact y0.of_acall (fs:= []) (cs:= [pZ b3,pZ b2]) (ymc e h b3 b2)
 ·refine ⟨_,rfl,?_⟩
  have hc:zhb h e=(⟨0,0,0,0,e.o,e.v,0,[]⟩,zbm h e):=by unfold zhb;rw [hk];rfl
  rw [hc]
  exact y0.of_acall (fs:= []) (cs:= [pZ b3,pZ b2]) (ymb e h b3 b2)
 ·refine ⟨_,rfl,?_⟩
  have hc:zhb h e=(⟨0,0,0,0,e.o,e.v,0,[]⟩,zd1 h e):=by unfold zhb;rw [hk];rfl
  rw [hc]
  exact y0.of_acall (fs:= []) (cs:= [pZ b3,pZ b2]) (yma e h b3 b2)
 ·refine ⟨_,rfl,?_⟩
  have hc:zhb h e=(⟨0,0,0,0,0,⟨0,0⟩,e.p,e.scan⟩,zcj h e):=by unfold zhb;rw [hk];rfl
  rw [hc]
  exact y0.of_acall (fs:= []) (cs:= [pZ b2,pZ b3]) (yl9 e h b3 b2 hl)
 ·refine ⟨_,rfl,?_⟩
  have hc:zhb h e=(⟨0,0,0,0,0,⟨0,0⟩,0,[]⟩,true):=by unfold zhb;rw [hk];rfl
  rw [hc]
  exact y0.pure (R:=fun x=>x=_) (y0.of_acall (fs:= []) (cs:= []) yl8)
 ·refine ⟨_,rfl,?_⟩
  have hc:zhb h e=(⟨0,0,0,0,0,⟨0,0⟩,0,[]⟩,true):=by unfold zhb;rw [hk];rfl
  rw [hc]
  exact y0.pure (R:=fun x=>x=_) (y0.of_acall (fs:= []) (cs:= []) yl7)
theorem bvz4_6381 {a b:Bool} (h:a=b:=by first|(simp only [zdy, *,Bool.true_and,Bool.false_and,Bool.and_false,Bool.and_true,Bool.true_or,Bool.or_false,Bool.false_or,Bool.or_true,if_true,if_false,Bool.false_eq_true,Bool.not_true,Bool.not_false];done)|(simp_all [zdy];done)|(simp_all [zdy] <;> omega)):bv a=bv b:=congrArg bv h
theorem yop (h:Hist) (e:Ev) (hl:e.scan.length≤4611686018427387904):y8 Tryz.prog 194 [.agg (y9 h),.agg (evR e)] [] (fun r h'=>h'= []∧r=bv (zdy h e)):=by
 refine z6 Tryz.func194 rfl rfl rfl ?_
 refine rn ?_;refine z7 rfl (w7 rfl rfl rfl fun b2=> ?_)
 refine z7 rfl (w7 rfl rfl rfl fun b3=> ?_)
 refine rn ?_;refine z7 rfl (y6 rfl fun b5=> ?_)
 refine rn ?_;refine u4 (fun hg2_3=> ?_) (fun hg2_3=> ?_)
 ·refine rn ?_;refine zq4 rfl ?_;refine rn ?_;exact zal rfl (.drop [_,_,_] _ _) ⟨rfl,bvz4_6381⟩
 ·refine rn ?_;refine u4 (fun hg2_8=> ?_) (fun hg2_8=> ?_)
  ·refine rn ?_;refine zq4 rfl ?_;refine rn ?_;exact zal rfl (.drop [_,_,_] _ _) ⟨rfl,bvz4_6381⟩
  ·refine rn ?_;refine qv rfl rfl (y4 rfl rfl (zbl (zwf h 0 e.t _ rfl (by decide)) (Sbs.refl _))) ?_
   refine rn ?_;refine z8 rfl (fun hc27=> ?_) (fun hc27=> ?_)
   ·refine rn ?_;exact zal rfl (.drop [_,_,_] _ _) ⟨rfl,bvz4_6381⟩
   ·have hlo:1≤e.kind:=by simpa using hg2_3
    have hhi:e.kind < 7:=by simpa using hg2_8
    obtain ⟨k,hk⟩:=Int.eq_ofNat_of_zero_le (show 0≤e.kind by omega)
    obtain ⟨av,hav,hfc⟩:=ydl h e b2 b3 k hl hk (by omega) (by omega)
    refine za0 ?_;refine zan ?_;refine w8 (y7 ?_)
    refine q1 ?_;refine q1 ?_;refine qq rfl rfl (zai rfl (by rw [←hk];rfl) (by omega)) ?_
    refine qq rfl rfl (zae rfl (by simpa using hav)) ?_
    refine qv rfl rfl (y4 rfl rfl (y0.quiet (R:=fun x=>x=_) (h2:= [_]) (List.perm_append_comm (l₁:= [_])) hfc)) ?_
    refine rn ?_;refine z7 rfl (y6 rfl fun b6=> ?_)
    refine rn ?_;refine zeu 6 [(b6,60,_)] rfl (List.perm_append_comm (l₁:= [_])) ?_
    refine rn ?_;refine dw 0 rfl rfl rfl rfl rfl (Nat.le_of_ble_eq_true rfl) ?_
    refine rn2 ?_;show zb7 _ _ _ _ _ _ ⟨_,[.box b6 60 _,.box b5 _ _,.box b3 60 (evR e),.box b2 28 (y9 h)],_⟩
    refine rn ?_;refine u4 (fun hg6_1=> ?_) (fun hg6_1=> ?_)
    ·refine rn ?_;refine qv rfl rfl (y4 rfl rfl (zbl (zxb {(zhb h e).1 with kind:=e.kind,t:=e.t} e (zzz h e hl) hl) (by exact Sbs.refl _))) ?_
     refine rn ?_;exact zal rfl (.drop [_,_,_,_] _ _) ⟨rfl,bvz4_6381⟩
    ·refine rn ?_;exact zal rfl (.drop [_,_,_,_] _ _) ⟨rfl,bvz4_6381⟩
theorem ybd (h:Hist) (b:Nat) (t:Int):y8 Tryz.prog 190 [iv t,pZ b] [.box b 28 (y9 h)] (fun r h'=>h'= [.box b 28 (y9 h)]∧r=bv (zd9 h.ts t)):=by
 refine z6 Tryz.func190 rfl rfl rfl ?_
 refine rn ?_;refine qv rfl rfl (y4 rfl rfl (zbl (zwf h 0 _ _ rfl (by decide)) (Sbs.refl _))) ?_
 refine rn ?_;exact zal rfl (.refl _ _) ⟨rfl,congrArg bv (by rfl)⟩
theorem zw4 {full:Bool} (h:Hist) (b:Nat) (ts:List Int) (hl:ts.length≤4611686018427387904):y8 Tryz.prog 188 [.list full 1 (ts.map zbo),pZ b] [.box b 28 (y9 h)] (fun r h'=>h'= [.box b 28 (y9 h)]∧r=bv (tsB h ts)):=by
 refine z6 Tryz.func188 rfl rfl rfl ?_
 refine rn ?_;refine u4 (fun hg1_3=> ?_) (fun hg1_3=> ?_)
 ·refine rn ?_;refine qv rfl rfl (y4 rfl rfl (y0.of_fun (ymv ts (.fn (.func 190) [] [pZ b]) (zd9 h.ts) [.box b 28 (y9 h)] rfl (fun t _=>y0.of_acall (fs:= []) (cs:= [pZ b]) (ybd h b t)) hl))) ?_
  refine rn ?_;exact zal rfl (.refl _ _) ⟨rfl,congrArg bv (by first|(simp only [tsB, *,Bool.true_and,Bool.false_and,Bool.and_false,Bool.and_true,Bool.true_or,Bool.or_false,Bool.false_or,Bool.or_true,if_true,if_false,Bool.false_eq_true,Bool.not_true,Bool.not_false];done)|(simp_all [tsB];done)|(simp_all [tsB] <;> omega))⟩
 ·refine rn ?_;exact zal rfl (.refl _ _) ⟨rfl,congrArg bv (by first|(simp only [tsB, *,Bool.true_and,Bool.false_and,Bool.and_false,Bool.and_true,Bool.true_or,Bool.or_false,Bool.false_or,Bool.or_true,if_true,if_false,Bool.false_eq_true,Bool.not_true,Bool.not_false];done)|(simp_all [tsB];done)|(simp_all [tsB] <;> omega))⟩
theorem yf1 (h:Hist) (b:Nat) (e:Ev) (hl:e.scan.length≤4611686018427387904):y8 Tryz.prog 193 [.agg (evR e),pZ b] [.box b 28 (y9 h)] (fun r h'=>h'= [.box b 28 (y9 h)]∧r=bv (zdy h e)):=by
 refine z6 Tryz.func193 rfl rfl rfl ?_
 refine rn ?_;refine z7 rfl (w7 rfl rfl rfl fun b2=> ?_)
 refine rn ?_;refine qv rfl rfl (y4 rfl rfl (zbl (yop h e hl) (Sbs.refl _))) ?_
 refine rn ?_;exact zal rfl (.drop1 _ _ _) ⟨rfl,congrArg bv (by rfl)⟩
theorem yf0 (h:Hist) (b c:Nat) (m:H.Ord) (hl:m.ts.length≤4611686018427387904):y8 Tryz.prog 196 [.agg (zew m),pZ b,pZ c] [.box b 28 (y9 h),.box c 231 [.fn (.func 188) [] [pZ b]]] (fun r h'=>h'= [.box b 28 (y9 h),.box c 231 [.fn (.func 188) [] [pZ b]]]∧r=bv (zwh h m)):=by
 refine z6 Tryz.func196 rfl rfl rfl ?_
 refine rn ?_;refine z7 rfl (w7 rfl rfl rfl fun b3=> ?_)
 refine rn ?_;refine qv rfl rfl (y4 rfl rfl (zbl (zwf h 2 _ _ rfl (by decide)) (Sbs.refl _))) ?_
 refine rn ?_;refine u4 (fun hg1_4=> ?_) (fun hg1_4=> ?_)
 ·refine rn ?_;refine qv rfl rfl (y4 rfl rfl (y0.quiet (R:=fun x=>x=bv (tsB h m.ts)) (h2:= [_,_]) (List.Perm.swap _ _ _) (y0.of_acall (fs:= []) (cs:= [pZ b]) (zw4 h b m.ts hl)))) ?_
  refine rn ?_;exact zal rfl (.drop1 _ _ _) ⟨rfl,congrArg bv (by first|(simp only [zwh, *,Bool.true_and,Bool.false_and,Bool.and_false,Bool.and_true,Bool.true_or,Bool.or_false,Bool.false_or,Bool.or_true,if_true,if_false,Bool.false_eq_true,Bool.not_true,Bool.not_false];done)|(simp_all [zwh];done)|(simp_all [zwh] <;> omega))⟩
 ·refine rn ?_;exact zal rfl (.drop1 _ _ _) ⟨rfl,congrArg bv (by first|(simp only [zwh, *,Bool.true_and,Bool.false_and,Bool.and_false,Bool.and_true,Bool.true_or,Bool.or_false,Bool.false_or,Bool.or_true,if_true,if_false,Bool.false_eq_true,Bool.not_true,Bool.not_false];done)|(simp_all [zwh];done)|(simp_all [zwh] <;> omega))⟩
theorem bvz5_3291 {a b:Bool} (h:a=b:=by first|(simp only [yc0, *,Bool.true_and,Bool.false_and,Bool.and_false,Bool.and_true,Bool.true_or,Bool.or_false,Bool.false_or,Bool.or_true,if_true,if_false,Bool.false_eq_true,Bool.not_true,Bool.not_false];done)|(simp_all [yc0];done)|(simp_all [yc0] <;> omega)):bv a=bv b:=congrArg bv h
theorem yfz (h:Hist) (b c:Nat) (m:Mat) (hl:m.ts.length≤4611686018427387904):y8 Tryz.prog 198 [.agg (zei m),pZ b,pZ c] [.box b 28 (y9 h),.box c 231 [.fn (.func 188) [] [pZ b]]] (fun r h'=>h'= [.box b 28 (y9 h),.box c 231 [.fn (.func 188) [] [pZ b]]]∧r=bv (yc0 h m)):=by
 refine z6 Tryz.func198 rfl rfl rfl ?_
 refine rn ?_;refine z7 rfl (w7 rfl rfl rfl fun b3=> ?_)
 refine rn ?_;refine qv rfl rfl (y4 rfl rfl (zbl (zwf h 3 _ _ rfl (by decide)) (Sbs.refl _))) ?_
 refine rn ?_;refine u4 (fun hg1_4=> ?_) (fun hg1_4=> ?_)
 ·refine rn ?_;refine qv rfl rfl (y4 rfl rfl (zbl (zwf h 2 _ _ rfl (by decide)) (Sbs.refl _))) ?_
  refine rn ?_;refine u4 (fun hg1_10=> ?_) (fun hg1_10=> ?_)
  ·refine rn ?_;refine qv rfl rfl (y4 rfl rfl (y0.quiet (R:=fun x=>x=bv (tsB h m.ts)) (h2:= [_,_]) (List.Perm.swap _ _ _) (y0.of_acall (fs:= []) (cs:= [pZ b]) (zw4 h b m.ts hl)))) ?_
   refine rn ?_;exact zal rfl (.drop1 _ _ _) ⟨rfl,bvz5_3291⟩
  ·refine rn ?_;exact zal rfl (.drop1 _ _ _) ⟨rfl,bvz5_3291⟩
 ·refine rn ?_;exact zal rfl (.drop1 _ _ _) ⟨rfl,bvz5_3291⟩
theorem bvz6_7750 {a b:Bool} (h:a=b:=by first|(simp only [yd4, *,Bool.true_and,Bool.false_and,Bool.and_false,Bool.and_true,Bool.true_or,Bool.or_false,Bool.false_or,Bool.or_true,if_true,if_false,Bool.false_eq_true,Bool.not_true,Bool.not_false];done)|(simp_all [yd4];done)|(simp_all [yd4] <;> omega)):bv a=bv b:=congrArg bv h
theorem yfy (h:Hist) (b:Nat) (w:Wan):y8 Tryz.prog 200 [.agg (zgk w),pZ b] [.box b 28 (y9 h)] (fun r h'=>h'= [.box b 28 (y9 h)]∧r=bv (yd4 h w)):=by
 refine z6 Tryz.func200 rfl rfl rfl ?_
 refine rn ?_;refine z7 rfl (w7 rfl rfl rfl fun b2=> ?_)
 refine rn ?_;refine qv rfl rfl (y4 rfl rfl (zbl (zwf h 1 _ _ rfl (by decide)) (Sbs.refl _))) ?_
 refine rn ?_;refine u4 (fun hg1_4=> ?_) (fun hg1_4=> ?_)
 ·refine rn ?_;refine u4 (fun hg1_9=> ?_) (fun hg1_9=> ?_)
  ·refine rn ?_;exact zal rfl (.drop1 _ _ _) ⟨rfl,bvz6_7750⟩
  ·refine rn ?_;exact zal rfl (.drop1 _ _ _) ⟨rfl,bvz6_7750⟩
 ·refine rn ?_;exact zal rfl (.drop1 _ _ _) ⟨rfl,bvz6_7750⟩
theorem bvz7_7883 {a b:Bool} (h:a=b:=by first|(simp only [za5, *,Bool.true_and,Bool.false_and,Bool.and_false,Bool.and_true,Bool.true_or,Bool.or_false,Bool.false_or,Bool.or_true,if_true,if_false,Bool.false_eq_true,Bool.not_true,Bool.not_false];done)|(simp_all [za5];done)):bv a=bv b:=congrArg bv h
theorem yjp (h:Hist) (la:Lim 4611686018427387904 h):y8 Tryz.prog 140 [.agg (y9 h)] [.glob 2 156 y2,.glob 4 305 y3,.glob 5 308 y1] (fun r h'=>h'= [.glob 2 156 y2,.glob 4 305 y3,.glob 5 308 y1]∧r=bv (za5 h)):=by
 refine z6 Tryz.func140 rfl rfl rfl ?_
 refine rn ?_;refine z7 rfl (w7 rfl rfl rfl fun b1=> ?_)
 refine rn ?_;refine zil ?_;refine znl (⟨[(1,pZ b1),(3,bv (okK h 0))],.box b1 28 (y9 h):: [.glob 2 156 y2,.glob 4 305 y3,.glob 5 308 y1],[]⟩) ?_ ?_
 ·refine rn ?_;refine u4 (fun hg1_4=> ?_) (fun hg1_4=> ?_)
  ·refine rn ?_;rw [show okK h 0=_ from zte h,hg1_4]
   exact (u0 (.cons _ _ _ rfl (.cons _ _ _ rfl (.nil))))
  ·refine rn ?_;rw [show okK h 0=_ from zte h,hg1_4]
   exact (u0 (.cons _ _ _ rfl (.cons _ _ _ rfl (.nil))))
 ·refine w8 ?_;refine zun ?_;refine rn0 ?_;refine znl (⟨[(3,bv (okK h 4)),(1,pZ b1)],.box b1 28 (y9 h):: [.glob 2 156 y2,.glob 4 305 y3,.glob 5 308 y1],[]⟩) ?_ ?_
  ·refine rn ?_;refine qv rfl rfl (y4 rfl rfl (zbl (yhc _) (Sbs.refl _))) ?_
   refine rn ?_;refine zaj (fun k:Nat=>k≤4) (fun k=>⟨[(29,iv k),(28,.agg (zjn h)),(1,pZ b1),(3,bv (okK h k))],.box b1 28 (y9 h):: [.glob 2 156 y2,.glob 4 305 y3,.glob 5 308 y1],[]⟩) (fun k=>4 - k) 0 (by omega)
    (u0 (.cons _ _ _ rfl (.cons _ _ _ rfl (.cons _ _ _ rfl (.cons _ _ _ rfl (.nil)))))) ?_
   rintro k hk
   refine rn ?_;refine z8 rfl (fun hc30=> ?_) (fun hc30=> ?_)
   ·have hk4:k < 4:=by simp at hc30;omega
    refine za0 ?_;refine zan ?_;refine w8 ?_;refine zdl ?_;refine w8 (y7 ?_)
    refine q1 ?_;refine qq rfl rfl (zcs rfl rfl (by omega) (by have:=zx9 h hk4;simpa using this)) ?_
    refine rn ?_;refine z7 rfl (zas (enc:=zww) rfl fun b33=> ?_)
    refine rn0 ?_;refine znl (⟨[(5,zcv (nmK h k)),(3,bv (okj h k 0)),(6,.v (.map (some b33))),(29,iv k),(28,.agg (zjn h)),(1,pZ b1)],.map b33 (zag zww []):: .box b1 28 (y9 h):: [.glob 2 156 y2,.glob 4 305 y3,.glob 5 308 y1],[]⟩) ?_ ?_
    ·refine rn ?_;refine u4 (fun hg6_1=> ?_) (fun hg6_1=> ?_)
     ·refine q1 ?_;refine q1 ?_;refine q1 ?_;refine qq rfl rfl (zai rfl rfl (by omega)) ?_
      refine qq rfl rfl (zae rfl (zsd hk4)) ?_
      refine rn ?_;rw [yej h k,hg6_1]
      first|exact (u0 (.cons _ _ _ rfl (.cons _ _ _ rfl (.cons _ _ _ rfl (.cons _ _ _ rfl (.cons _ _ _ rfl (.cons _ _ _ rfl (.nil))))))))|(rw [Bool.true_and];exact (u0 (.cons _ _ _ rfl (.cons _ _ _ rfl (.cons _ _ _ rfl (.cons _ _ _ rfl (.cons _ _ _ rfl (.cons _ _ _ rfl (.nil)))))))))
     ·refine rn ?_;rw [yej h k,hg6_1]
      first|exact (u0 (.cons _ _ _ rfl (.cons _ _ _ rfl (.cons _ _ _ rfl (.cons _ _ _ rfl (.cons _ _ _ rfl (.cons _ _ _ rfl (.nil))))))))|(rw [Bool.true_and];exact (u0 (.cons _ _ _ rfl (.cons _ _ _ rfl (.cons _ _ _ rfl (.cons _ _ _ rfl (.cons _ _ _ rfl (.cons _ _ _ rfl (.nil)))))))))
    ·refine rn ?_;refine zaj (fun j:Nat=>j≤(nmK h k).length∧(0 < j→okj h k 0=true)∧zes [] (nmK h k)=zes ((nmK h k).take j) ((nmK h k).drop j)) (fun j=>⟨[(45,iv j),(43,zcv (nmK h k)),(44,iv ((nmK h k).map zmc).length),(3,bv (okj h k 0)),(6,.v (.map (some b33))),(29,iv k),(28,.agg (zjn h)),(1,pZ b1)],.map b33 (zag zww (yem ((nmK h k).take j))):: .box b1 28 (y9 h):: [.glob 2 156 y2,.glob 4 305 y3,.glob 5 308 y1],[]⟩) (fun j=>(nmK h k).length - j) 0 ⟨by omega,by omega,by simp⟩
      (u0 (.cons _ _ _ rfl (.cons _ _ _ rfl (.cons _ _ _ rfl (.cons _ _ _ rfl (.cons _ _ _ rfl (.cons _ _ _ rfl (.cons _ _ _ rfl (.cons _ _ _ rfl (.nil)))))))))) ?_
     rintro j ⟨hj,hok,hf⟩
     have hlk:=la.nm k
     refine rn ?_;refine z8 rfl (fun hc46=> ?_) (fun hc46=> ?_)
     ·have hj2:j < (nmK h k).length:=by simpa using hc46
      have hrow:(zcv (nmK h k))= .list false 1 ((nmK h k).map zmc):=rfl
      have hrow2:((nmK h k).map zmc)[j]? =some (zmc (nmK h k)[j]):=by simp [hj2]
      have hd:=List.drop_eq_getElem_cons hj2
      refine za0 ?_;refine rn0 ?_;refine w8 ?_;refine zdl ?_;refine w8 (y7 ?_)
      refine rn0 ?_;refine w8 ?_;refine znl (⟨[(3,bv (okj h k 0 && ziq (nmK h k)[j] && !ycs (nmK h k)[j] ((nmK h k).take j))),(8,sv (nmK h k)[j]),(45,iv j),(43,zcv (nmK h k)),(44,iv ((nmK h k).map zmc).length),(6,.v (.map (some b33))),(29,iv k),(28,.agg (zjn h)),(1,pZ b1)],.map b33 (zag zww (yem ((nmK h k).take j))):: .box b1 28 (y9 h):: [.glob 2 156 y2,.glob 4 305 y3,.glob 5 308 y1],[]⟩) ?_ ?_
      ·refine rn ?_;refine u4 (fun hg10_1=> ?_) (fun hg10_1=> ?_)
       ·refine rn ?_;refine qv rfl rfl (y4 rfl rfl (y0.qt (y0.of_fun (ypi ((nmK h k)[j]))) ((pt3 _ _ _ _ _).trans (.cons _ (pt3 _ _ _ _ _))))) ?_
        refine rn ?_;refine u4 (fun hg10_5=> ?_) (fun hg10_5=> ?_)
        ·refine rn ?_;refine qq rfl rfl (zps (enc:=zww) (k:=(nmK h k)[j]) rfl rfl (zvp _ _)) ?_
         refine rn ?_;first|(rw [hg10_1,hg10_5];exact (u0 (.cons _ _ _ rfl (.cons _ _ _ rfl (.cons _ _ _ rfl (.cons _ _ _ rfl (.cons _ _ _ rfl (.cons _ _ _ rfl (.cons _ _ _ rfl (.cons _ _ _ rfl (.cons _ _ _ rfl (.nil))))))))))))|(rw [hg10_1];exact (u0 (.cons _ _ _ rfl (.cons _ _ _ rfl (.cons _ _ _ rfl (.cons _ _ _ rfl (.cons _ _ _ rfl (.cons _ _ _ rfl (.cons _ _ _ rfl (.cons _ _ _ rfl (.cons _ _ _ rfl (.nil))))))))))))
        ·refine rn ?_;first|(rw [hg10_1,hg10_5];exact (u0 (.cons _ _ _ rfl (.cons _ _ _ rfl (.cons _ _ _ rfl (.cons _ _ _ rfl (.cons _ _ _ rfl (.cons _ _ _ rfl (.cons _ _ _ rfl (.cons _ _ _ rfl (.cons _ _ _ rfl (.nil))))))))))))|(rw [hg10_1];exact (u0 (.cons _ _ _ rfl (.cons _ _ _ rfl (.cons _ _ _ rfl (.cons _ _ _ rfl (.cons _ _ _ rfl (.cons _ _ _ rfl (.cons _ _ _ rfl (.cons _ _ _ rfl (.cons _ _ _ rfl (.nil))))))))))))
       ·refine rn ?_;first|(rw [hg10_1,hg10_5];exact (u0 (.cons _ _ _ rfl (.cons _ _ _ rfl (.cons _ _ _ rfl (.cons _ _ _ rfl (.cons _ _ _ rfl (.cons _ _ _ rfl (.cons _ _ _ rfl (.cons _ _ _ rfl (.cons _ _ _ rfl (.nil))))))))))))|(rw [hg10_1];exact (u0 (.cons _ _ _ rfl (.cons _ _ _ rfl (.cons _ _ _ rfl (.cons _ _ _ rfl (.cons _ _ _ rfl (.cons _ _ _ rfl (.cons _ _ _ rfl (.cons _ _ _ rfl (.cons _ _ _ rfl (.nil))))))))))))
      ·refine rn ?_;refine z8 rfl (fun hc61=> ?_) (fun hc61=> ?_)
       ·have hfl:(okj h k 0 && ziq (nmK h k)[j] && !ycs (nmK h k)[j] ((nmK h k).take j))=false:=ycm hc61
        have hbad:okK h 4=false:=yk0 hk4 (yn3 (hf.trans (by rw [hd])) hfl)
        refine rn ?_;first
         |exact (u0 (.cons _ _ _ rfl (.cons _ _ _ rfl (.nil))))
         |(rw [hbad,←hfl];exact (v8 (zed (h1:= [_])) (u0 (.cons _ _ _ rfl (.cons _ _ _ rfl (.nil))))))
       ·obtain ⟨hok2,hw,hfresh⟩:=yk1 (ycn hc61)
        refine rn ?_;refine z7 rfl (zjl (enc:=zww) (k:=(nmK h k)[j]) rfl rfl rfl ?_)
        refine rn ?_;have hu:=zs6 ((nmK h k)[j]) ((nmK h k).take j) (yk6.1 hfresh)
        rw [←List.take_succ_eq_append_getElem hj2] at hu
        exact ⟨j+1,⟨by omega,fun _=>hok2,by rw [hf,hd,zes,hw,List.take_succ_eq_append_getElem hj2];simp [hfresh]⟩,by simp only [hu,hok2,hw,hfresh,Bool.true_and,Bool.not_false];exact (u0 (.cons _ _ _ rfl (.cons _ _ _ rfl (.cons _ _ _ rfl (.cons _ _ _ rfl (.cons _ _ _ rfl (.cons _ _ _ rfl (.cons _ _ _ rfl (.cons _ _ _ rfl (.nil)))))))))),by omega⟩
     ·have hj3:j=(nmK h k).length:=by
       have:(nmK h k).length≤j:=by simpa using hc46
       omega
      refine rn ?_;have hend:=ykz (h:=h) (k:=k) (by rw [hf,hj3,List.drop_length];rfl)
      exact ⟨k+1,by omega,by rw [←hend];exact (v8 (zed (h1:= [_])) (u0 (.cons _ _ _ rfl (.cons _ _ _ rfl (.cons _ _ _ rfl (.cons _ _ _ rfl (.nil))))))),by omega⟩
   ·have hk4:k=4:=by simp at hc30;omega
    subst hk4
    refine rn ?_;first
     |exact (u0 (.cons _ _ _ rfl (.cons _ _ _ rfl (.nil))))
     |(rw [hbad,←hfl];exact (v8 (zed (h1:= [_])) (u0 (.cons _ _ _ rfl (.cons _ _ _ rfl (.nil))))))
  ·refine rn ?_;refine z7 rfl (y6 rfl fun b9=> ?_)
   refine rn ?_;refine u4 (fun hg16_1=> ?_) (fun hg16_1=> ?_)
   ·refine rn ?_;refine qv rfl rfl (y4 rfl rfl (y0.of_fun (yoy h.evs (.fn (.func 193) [] [pZ b1]) (zdy h) (.box b9 231 [.fn (.func 188) [] [pZ b1]]:: .box b1 28 (y9 h):: [.glob 2 156 y2,.glob 4 305 y3,.glob 5 308 y1]) rfl (fun e he=>y0.qt (y0.of_acall (fs:= []) (cs:= [pZ b1]) (yf1 h b1 e (la.scans e he))) (pt1 _ _ _)) la.evs))) ?_
    refine rn ?_;refine u4 (fun hg16_7=> ?_) (fun hg16_7=> ?_)
    ·refine rn ?_;refine qv rfl rfl (y4 rfl rfl (y0.of_fun (ymt h.ords (.fn (.func 196) [] [pZ b1,pZ b9]) (zwh h) (.box b9 231 [.fn (.func 188) [] [pZ b1]]:: .box b1 28 (y9 h):: [.glob 2 156 y2,.glob 4 305 y3,.glob 5 308 y1]) rfl (fun e he=>y0.qt (y0.of_acall (fs:= []) (cs:= [pZ b1,pZ b9]) (yf0 h b1 b9 e (la.ordts e he))) (pt1 _ _ _)) la.ords))) ?_
     refine rn ?_;refine u4 (fun hg16_13=> ?_) (fun hg16_13=> ?_)
     ·refine rn ?_;refine qv rfl rfl (y4 rfl rfl (y0.of_fun (ymu h.mats (.fn (.func 198) [] [pZ b1,pZ b9]) (yc0 h) (.box b9 231 [.fn (.func 188) [] [pZ b1]]:: .box b1 28 (y9 h):: [.glob 2 156 y2,.glob 4 305 y3,.glob 5 308 y1]) rfl (fun e he=>y0.qt (y0.of_acall (fs:= []) (cs:= [pZ b1,pZ b9]) (yfz h b1 b9 e (la.matts e he))) (pt1 _ _ _)) la.mats))) ?_
      refine rn ?_;refine u4 (fun hg16_19=> ?_) (fun hg16_19=> ?_)
      ·refine rn ?_;refine qv rfl rfl (y4 rfl rfl (y0.of_fun (yms h.wants (.fn (.func 200) [] [pZ b1]) (yd4 h) (.box b9 231 [.fn (.func 188) [] [pZ b1]]:: .box b1 28 (y9 h):: [.glob 2 156 y2,.glob 4 305 y3,.glob 5 308 y1]) rfl (fun e he=>y0.qt (y0.of_acall (fs:= []) (cs:= [pZ b1]) (yfy h b1 e)) (pt1 _ _ _)) la.wants))) ?_
       refine rn ?_;refine ⟨fun l h=>(by cases h),?_⟩
       exact zal rfl (.drop [_,_] _ _) ⟨rfl,bvz7_7883⟩
      ·refine rn ?_;refine ⟨fun l h=>(by cases h),?_⟩
       exact zal rfl (.drop [_,_] _ _) ⟨rfl,bvz7_7883⟩
     ·refine rn ?_;refine ⟨fun l h=>(by cases h),?_⟩
      exact zal rfl (.drop [_,_] _ _) ⟨rfl,bvz7_7883⟩
    ·refine rn ?_;refine ⟨fun l h=>(by cases h),?_⟩
     exact zal rfl (.drop [_,_] _ _) ⟨rfl,bvz7_7883⟩
   ·refine rn ?_;refine ⟨fun l h=>(by cases h),?_⟩
    exact zal rfl (.drop [_,_] _ _) ⟨rfl,bvz7_7883⟩
theorem zu3 {σ:Type} (step:σ→Nat×Int→Option σ) (ok:Nat×Int→Prop) (IJ:Option σ→List Res→Prop) (y:AV) (hy:∀(s:σ) (L:List Res) (sort:Nat) (n:Int) (cells:List AV),ok (sort,n)→IJ (some s) L→y0 Tryz.prog y [iv sort,.pp (iv n::cells)] L (fun r h'=>r=bv (step s (sort,n)).isSome∧IJ (step s (sort,n)) h')) (sort:Nat) (n:Int) (hs:ok (sort,n)) (cells:List AV) (bm by_:Nat) (st:Option σ) (L:List Res) (hI:IJ st L):y8 Tryz.prog 202 [iv sort,.pp (iv n::cells),pZ bm,pZ by_] (.box bm 4 [bv (st).isSome]:: .box by_ 239 [y]::L) (fun r h'=>∃L',IJ (goes step st [(sort,n)]) L'∧h'= .box bm 4 [bv (goes step st [(sort,n)]).isSome]:: .box by_ 239 [y]::L'):=by
 refine z6 Tryz.func202 rfl rfl rfl ?_
 refine rn ?_;refine u4 (fun hg0_1=> ?_) (fun hg0_1=> ?_)
 ·refine rn ?_;obtain ⟨s,rfl⟩:=Option.isSome_iff_exists.1 hg0_1
  refine z7 rfl (v6 rfl rfl (y0.fr2 (hy s L sort n cells hs hI)) rfl ?_)
  rintro _ _ ⟨L2,rfl,rfl,hI2⟩
  refine rn ?_;first
   |exact zeq .nil (.refl _ _) ⟨L2,hI2,rfl⟩
   |(obtain rfl:=Option.not_isSome_iff_eq_none.1 (show ¬st.isSome=true by simp [hg0_1])
     exact zeq .nil (.refl _ _) ⟨L,hI,rfl⟩)
 ·refine rn ?_;first
   |exact zeq .nil (.refl _ _) ⟨L2,hI2,rfl⟩
   |(obtain rfl:=Option.not_isSome_iff_eq_none.1 (show ¬st.isSome=true by simp [hg0_1])
     exact zeq .nil (.refl _ _) ⟨L,hI,rfl⟩)
theorem yhq {σ:Type} (step:σ→Nat×Int→Option σ) (ok:Nat×Int→Prop) (IJ:Option σ→List Res→Prop) (y:AV) (hy:∀(s:σ) (L:List Res) (sort:Nat) (n:Int) (cells:List AV),ok (sort,n)→IJ (some s) L→y0 Tryz.prog y [iv sort,.pp (iv n::cells)] L (fun r h'=>r=bv (step s (sort,n)).isSome∧IJ (step s (sort,n)) h')) (v:Ver) (hv:∀x∈zf3 v,ok x) (cells:List AV) (bs bm by_:Nat) (st:Option σ) (L:List Res) (hI:IJ st L):y8 Tryz.prog 203 [.pp (iv v.t::iv v.k::cells),pZ bs] (.box bs 240 [.fn (.func 202) [] [pZ bm,pZ by_]]:: .box bm 4 [bv (st).isSome]:: .box by_ 239 [y]::L) (fun r h'=>∃L',IJ (goes step st (zf3 v)) L'∧h'= .box bs 240 [.fn (.func 202) [] [pZ bm,pZ by_]]:: .box bm 4 [bv (goes step st (zf3 v)).isSome]:: .box by_ 239 [y]::L'):=by
 refine z6 Tryz.func203 rfl rfl rfl ?_
 refine rn ?_;refine z8 rfl (fun hc7=> ?_) (fun hc7=> ?_)
 ·refine zaf 4 rfl ?_
  refine rn ?_;refine z7 rfl (v6 rfl rfl (y0.fr1 (y0.of_acall (fs:= []) (cs:= [pZ bm,pZ by_]) (zu3 step ok IJ y hy 0 v.t (hv _ (by rw [zf3,if_pos hc7];simp)) (iv v.k::cells) bm by_ _ _ hI))) rfl ?_)
  rintro _ _ ⟨_,rfl,L2,hI2,rfl⟩
  refine rn ?_;first
   |(have hm:zf3 v= [(0,v.t)]:=by rw [zf3,if_pos hc7]
     rw [hm];exact zeq .nil (.refl _ _) ⟨L2,hI2,rfl⟩)
   |(have hm:zf3 v= []:=by rw [zf3,if_neg (by rw [hc7];decide)]
     rw [hm];exact zeq .nil (.refl _ _) ⟨L,hI,rfl⟩)
 ·refine rn ?_;first
   |(have hm:zf3 v= [(0,v.t)]:=by rw [zf3,if_pos hc7]
     rw [hm];exact zeq .nil (.refl _ _) ⟨L2,hI2,rfl⟩)
   |(have hm:zf3 v= []:=by rw [zf3,if_neg (by rw [hc7];decide)]
     rw [hm];exact zeq .nil (.refl _ _) ⟨L,hI,rfl⟩)
theorem yfs {σ:Type} (step:σ→Nat×Int→Option σ) (ok:Nat×Int→Prop) (IJ:Option σ→List Res→Prop) (y:AV) (hone:y.cellsOf=some [y]) (hy:∀(s:σ) (L:List Res) (sort:Nat) (n:Int) (cells:List AV),ok (sort,n)→IJ (some s) L→y0 Tryz.prog y [iv sort,.pp (iv n::cells)] L (fun r h'=>r=bv (step s (sort,n)).isSome∧IJ (step s (sort,n)) h')) (h:Hist) (la:Lim 4611686018427387904 h) (b1 bh:Nat) (hok:∀x∈zda h,ok x) (s0:σ) (L0:List Res) (h0:IJ (some s0) L0):y8 Tryz.prog 201 [y,pZ b1] (.box b1 184 [pZ bh]:: .box bh 28 (y9 h)::L0) (fun r h'=>∃L',IJ (goes step (some s0) (zda h)) L'∧h'= .box b1 184 [pZ bh]:: .box bh 28 (y9 h)::L'):=by
 refine z6 Tryz.func201 rfl rfl rfl ?_
 refine rn ?_;refine z7 rfl (w7 rfl hone rfl fun by_=> ?_)
 refine rn ?_;refine z7 rfl (y6 rfl fun bm=> ?_)
 refine rn ?_;refine z7 rfl (y6 rfl fun bs=> ?_)
 refine rn ?_;refine zaj (fun x:Nat×Option σ×List Res=>x.1≤h.evs.length∧IJ x.2.1 x.2.2∧Rem step ok x.2.1 (((h.evs.drop x.1).flatMap evL)++(h.ords.flatMap yg5++(h.mats.flatMap ycx++h.wants.flatMap yak))) (goes step (some s0) (zda h))) (fun x=>⟨[(22,iv x.1),(21,iv (h.evs.map evR).length),(1,pZ b1),(4,pZ bs),(5,.fn (.func 203) [] [pZ bs])],.box b1 184 [pZ bh]:: .box bh 28 (y9 h):: .box bs 240 [.fn (.func 202) [] [pZ bm,pZ by_]]:: .box bm 4 [bv (x.2.1).isSome]:: .box by_ 239 [y]::x.2.2,[]⟩) (fun x=>h.evs.length - x.1) (0,some s0,L0) ⟨by omega,h0,rfl,hok⟩
  (v8 (zah ((pt3 _ _ _ _ _).trans (.cons _ (pt3 _ _ _ _ _)))) (u0 (.cons _ _ _ rfl (.cons _ _ _ rfl (.cons _ _ _ rfl (.cons _ _ _ rfl (.cons _ _ _ rfl (.nil)))))))) ?_
 rintro ⟨k,st,L⟩ ⟨hk,hI,hF⟩
 simp only at hk hI hF
 refine rn ?_;refine z8 rfl (fun hc23=> ?_) (fun hc23=> ?_)
 ·have k2:k < h.evs.length:=by simpa using hc23
  obtain ⟨e,he⟩:∃e,e=h.evs[k]:=⟨_,rfl⟩
  have hrowe:(h.evs.map evR)[k]? =some (evR e):=by rw [he];simp [k2]
  have hde:=List.drop_eq_getElem_cons k2
  rw [hde,←he] at hF
  simp only [List.flatMap_cons,evL,List.cons_append,List.append_assoc] at hF
  obtain ⟨hx,hF⟩:=hF.cons
  obtain ⟨hkx,hF⟩:=hF.app
  have hle:=la.evs
  have hls:=la.scans e (by rw [he];simp)
  refine rn ?_;refine zaf 4 rfl ?_
  refine rn ?_;refine z7 rfl (v6 rfl rfl (y0.fr3 (y0.of_acall (fs:= []) (cs:= [pZ bm,pZ by_]) (zu3 step ok IJ y hy 0 e.t hx _ bm by_ _ _ hI))) rfl ?_)
  rintro _ _ ⟨_,rfl,L,hI,rfl⟩
  refine rn0 ?_;refine yir (fun L=>IJ (goes step (goes step st [(0,e.t)]) (zf6 e)) L) (fun L=>⟨[(7,.pp (evR e)),(22,iv k),(21,iv (h.evs.map evR).length),(1,pZ b1),(4,pZ bs),(5,.fn (.func 203) [] [pZ bs])],.box b1 184 [pZ bh]:: .box bh 28 (y9 h):: .box bs 240 [.fn (.func 202) [] [pZ bm,pZ by_]]:: .box bm 4 [bv (goes step (goes step st [(0,e.t)]) (zf6 e)).isSome]:: .box by_ 239 [y]::L,[]⟩) ?_ ?_
  ·refine rn ?_;refine z8 rfl (fun hc40=> ?_) (fun hc40=> ?_)
   ·have hkl:=zyt (e:=e) (by simpa using hc40)
    refine zaf 4 rfl ?_
    refine rn ?_;refine z7 rfl (v6 rfl rfl (y0.fr3 (y0.of_acall (fs:= []) (cs:= [pZ bm,pZ by_]) (zu3 step ok IJ y hy 1 e.s (hkx _ (by rw [hkl];simp)) _ bm by_ _ _ hI))) rfl ?_)
    rintro _ _ ⟨_,rfl,L,hI,rfl⟩
    refine rn ?_;refine ⟨L,?_,?_⟩
    ·show IJ (goes step _ (zf6 e)) L
     rw [hkl];exact hI
    ·rw [hkl];exact (u0 (.cons _ _ _ rfl (.cons _ _ _ rfl (.cons _ _ _ rfl (.cons _ _ _ rfl (.cons _ _ _ rfl (.cons _ _ _ rfl (.nil))))))))
   ·have hn1:e.kind≠1:=by simpa using hc40
    refine rn ?_;refine z8 rfl (fun hc47=> ?_) (fun hc47=> ?_)
    ·have hk23:e.kind=2∨e.kind=3:=by simp at hc47;omega
     have hkl:=zlg hk23
     refine rn ?_;refine z8 rfl (fun hc47=> ?_) (fun hc47=> ?_)
     ·have hk23:e.kind=2∨e.kind=3:=by simp at hc47;omega
      have hkl:=zlg hk23
      refine rn ?_;refine zaf 4 rfl ?_
      refine rn ?_;refine z7 rfl (v6 rfl rfl (y0.fr3 (y0.of_acall (fs:= []) (cs:= [pZ bm,pZ by_]) (zu3 step ok IJ y hy 2 e.o (hkx _ (by rw [hkl];simp)) _ bm by_ _ _ hI))) rfl ?_)
      rintro _ _ ⟨_,rfl,L,hI,rfl⟩
      refine rn ?_;refine z7 rfl (v6 rfl rfl (y0.fr2 (y0.of_acall (fs:= []) (cs:= [pZ bs]) (yhq step ok IJ y hy e.v (fun x hx=>hkx x (by rw [hkl];simp [hx])) _ bs bm by_ _ _ hI))) rfl ?_)
      rintro _ _ ⟨_,rfl,L,hI,rfl⟩
      refine rn ?_;refine ⟨L,?_,?_⟩
      ·show IJ (goes step _ (zf6 e)) L
       rw [hkl];exact hI
      ·rw [hkl];exact (u0 (.cons _ _ _ rfl (.cons _ _ _ rfl (.cons _ _ _ rfl (.cons _ _ _ rfl (.cons _ _ _ rfl (.cons _ _ _ rfl (.nil))))))))
     ·first|cases hc47|exact absurd hc47 (by decide)|(exfalso;simp_all;done)
    ·have hn23:=hc47
     simp at hn23
     refine rn ?_;refine z8 rfl (fun hc47=> ?_) (fun hc47=> ?_)
     ·have hk23:e.kind=2∨e.kind=3:=by simp at hc47;omega
      have hkl:=zlg hk23
      refine rn ?_;refine zaf 4 rfl ?_
      refine rn ?_;refine z7 rfl (v6 rfl rfl (y0.fr3 (y0.of_acall (fs:= []) (cs:= [pZ bm,pZ by_]) (zu3 step ok IJ y hy 2 e.o (hkx _ (by rw [hkl];simp)) _ bm by_ _ _ hI))) rfl ?_)
      rintro _ _ ⟨_,rfl,L,hI,rfl⟩
      refine rn ?_;refine z7 rfl (v6 rfl rfl (y0.fr2 (y0.of_acall (fs:= []) (cs:= [pZ bs]) (yhq step ok IJ y hy e.v (fun x hx=>hkx x (by rw [hkl];simp [hx])) _ bs bm by_ _ _ hI))) rfl ?_)
      rintro _ _ ⟨_,rfl,L,hI,rfl⟩
      refine rn ?_;refine ⟨L,?_,?_⟩
      ·show IJ (goes step _ (zf6 e)) L
       rw [hkl];exact hI
      ·rw [hkl];exact (u0 (.cons _ _ _ rfl (.cons _ _ _ rfl (.cons _ _ _ rfl (.cons _ _ _ rfl (.cons _ _ _ rfl (.cons _ _ _ rfl (.nil))))))))
     ·have hn23:=hc47
      simp at hn23
      refine rn ?_;refine z8 rfl (fun hc60=> ?_) (fun hc60=> ?_)
      ·have hkl:=zys (e:=e) (by simpa using hc60)
       refine zaf 4 rfl ?_
       refine rn ?_;refine z7 rfl (v6 rfl rfl (y0.fr3 (y0.of_acall (fs:= []) (cs:= [pZ bm,pZ by_]) (zu3 step ok IJ y hy 3 e.p (hkx _ (by rw [hkl];simp)) _ bm by_ _ _ hI))) rfl ?_)
       rintro _ _ ⟨_,rfl,L,hI,rfl⟩
       refine rn ?_;refine ⟨L,?_,?_⟩
       ·show IJ (goes step _ (zf6 e)) L
        rw [hkl];exact hI
       ·rw [hkl];exact (u0 (.cons _ _ _ rfl (.cons _ _ _ rfl (.cons _ _ _ rfl (.cons _ _ _ rfl (.cons _ _ _ rfl (.cons _ _ _ rfl (.nil))))))))
      ·have hn4:e.kind≠4:=by simpa using hc60
       have hkl:=zyu (e:=e) hn1 (by omega) (by omega) hn4
       refine rn ?_;refine ⟨L,?_,?_⟩
       ·show IJ (goes step _ (zf6 e)) L
        rw [hkl];exact hI
       ·rw [hkl];exact (u0 (.cons _ _ _ rfl (.cons _ _ _ rfl (.cons _ _ _ rfl (.cons _ _ _ rfl (.cons _ _ _ rfl (.cons _ _ _ rfl (.nil))))))))
  ·rintro L hI
   revert hI hF
   generalize goes step (goes step st [(0,e.t)]) (zf6 e)=st2
   intro hF hI
   refine rn ?_;refine zaj (fun x:Nat×Option σ×List Res=>x.1≤e.scan.length∧IJ x.2.1 x.2.2∧Rem step ok x.2.1 (((e.scan.drop x.1).flatMap zw7)++(((h.evs.drop (k+1)).flatMap evL)++(h.ords.flatMap yg5++(h.mats.flatMap ycx++h.wants.flatMap yak)))) (goes step (some s0) (zda h))) (fun x=>⟨[(72,iv x.1),(71,iv (e.scan.map za2).length),(7,.pp (evR e)),(22,iv k),(21,iv (h.evs.map evR).length),(1,pZ b1),(4,pZ bs),(5,.fn (.func 203) [] [pZ bs])],.box b1 184 [pZ bh]:: .box bh 28 (y9 h):: .box bs 240 [.fn (.func 202) [] [pZ bm,pZ by_]]:: .box bm 4 [bv (x.2.1).isSome]:: .box by_ 239 [y]::x.2.2,[]⟩) (fun x=>e.scan.length - x.1) (0,st2,L) ⟨by omega,hI,hF⟩
    (u0 (.cons _ _ _ rfl (.cons _ _ _ rfl (.cons _ _ _ rfl (.cons _ _ _ rfl (.cons _ _ _ rfl (.cons _ _ _ rfl (.cons _ _ _ rfl (.cons _ _ _ rfl (.nil)))))))))) ?_
   rintro ⟨j,st,L⟩ ⟨hj,hI,hF⟩
   simp only at hj hI hF
   refine rn ?_;refine z8 rfl (fun hc73=> ?_) (fun hc73=> ?_)
   ·have j2:j < e.scan.length:=by simpa using hc73
    obtain ⟨x,hx⟩:∃x,x=e.scan[j]:=⟨_,rfl⟩
    have hrowx:(e.scan.map za2)[j]? =some (za2 x):=by rw [hx];simp [j2]
    have hdx:=List.drop_eq_getElem_cons j2
    rw [hdx,←hx] at hF
    simp only [List.flatMap_cons,zw7,List.cons_append,List.append_assoc] at hF
    obtain ⟨hx,hF⟩:=hF.cons
    obtain ⟨hkx,hF⟩:=hF.app
    refine rn ?_;refine zaf 8 rfl ?_
    refine rn ?_;refine z7 rfl (v6 rfl rfl (y0.fr3 (y0.of_acall (fs:= []) (cs:= [pZ bm,pZ by_]) (zu3 step ok IJ y hy 2 x.o hx _ bm by_ _ _ hI))) rfl ?_)
    rintro _ _ ⟨_,rfl,L,hI,rfl⟩
    refine rn ?_;refine z7 rfl (v6 rfl rfl (y0.fr2 (y0.of_acall (fs:= []) (cs:= [pZ bs]) (yhq step ok IJ y hy x.v hkx _ bs bm by_ _ _ hI))) rfl ?_)
    rintro _ _ ⟨_,rfl,L,hI,rfl⟩
    refine rn ?_;exact ⟨(j+1,_,L),⟨by omega,hI,hF⟩,(u0 (.cons _ _ _ rfl (.cons _ _ _ rfl (.cons _ _ _ rfl (.cons _ _ _ rfl (.cons _ _ _ rfl (.cons _ _ _ rfl (.cons _ _ _ rfl (.cons _ _ _ rfl (.nil)))))))))),by simp only;omega⟩
   ·obtain rfl:j=e.scan.length:=by
     have:e.scan.length≤j:=by simpa using hc73
     omega
    rw [List.drop_length,List.flatMap_nil,List.nil_append] at hF
    refine rn ?_;exact ⟨(k+1,_,L),⟨by omega,hI,hF⟩,(u0 (.cons _ _ _ rfl (.cons _ _ _ rfl (.cons _ _ _ rfl (.cons _ _ _ rfl (.cons _ _ _ rfl (.nil))))))),by simp only;omega⟩
 ·obtain rfl:k=h.evs.length:=by
   have:h.evs.length≤k:=by simpa using hc23
   omega
  rw [List.drop_length,List.flatMap_nil,List.nil_append] at hF
  refine rn ?_;refine zaj (fun x:Nat×Option σ×List Res=>x.1≤h.ords.length∧IJ x.2.1 x.2.2∧Rem step ok x.2.1 (((h.ords.drop x.1).flatMap yg5)++(h.mats.flatMap ycx++h.wants.flatMap yak)) (goes step (some s0) (zda h))) (fun x=>⟨[(100,iv x.1),(99,iv (h.ords.map zew).length),(1,pZ b1),(4,pZ bs),(5,.fn (.func 203) [] [pZ bs])],.box b1 184 [pZ bh]:: .box bh 28 (y9 h):: .box bs 240 [.fn (.func 202) [] [pZ bm,pZ by_]]:: .box bm 4 [bv (x.2.1).isSome]:: .box by_ 239 [y]::x.2.2,[]⟩) (fun x=>h.ords.length - x.1) (0,st,L) ⟨by omega,hI,hF⟩
   (u0 (.cons _ _ _ rfl (.cons _ _ _ rfl (.cons _ _ _ rfl (.cons _ _ _ rfl (.cons _ _ _ rfl (.nil))))))) ?_
  rintro ⟨k,st,L⟩ ⟨hk,hI,hF⟩
  simp only at hk hI hF
  refine rn ?_;refine z8 rfl (fun hc101=> ?_) (fun hc101=> ?_)
  ·have k2:k < h.ords.length:=by simpa using hc101
   obtain ⟨r,hr⟩:∃r,r=h.ords[k]:=⟨_,rfl⟩
   have hrowr:(h.ords.map zew)[k]? =some (zew r):=by rw [hr];simp [k2]
   have hdr:=List.drop_eq_getElem_cons k2
   rw [hdr,←hr] at hF
   simp only [List.flatMap_cons,yg5,List.cons_append,List.append_assoc] at hF
   obtain ⟨hx,hF⟩:=hF.cons
   have hle:=la.ords
   have hls:=la.ordts r (by rw [hr];simp)
   refine rn ?_;refine zaf 8 rfl ?_
   refine rn ?_;refine z7 rfl (v6 rfl rfl (y0.fr3 (y0.of_acall (fs:= []) (cs:= [pZ bm,pZ by_]) (zu3 step ok IJ y hy 2 r.o hx _ bm by_ _ _ hI))) rfl ?_)
   rintro _ _ ⟨_,rfl,L,hI,rfl⟩
   refine rn ?_;refine zaj (fun x:Nat×Option σ×List Res=>x.1≤r.ts.length∧IJ x.2.1 x.2.2∧Rem step ok x.2.1 (((r.ts.drop x.1).map fun t=>((0:Nat),t))++(((h.ords.drop (k+1)).flatMap yg5)++(h.mats.flatMap ycx++h.wants.flatMap yak))) (goes step (some s0) (zda h))) (fun x=>⟨[(121,iv x.1),(120,iv (r.ts.map zbo).length),(9,iv k),(100,iv k),(99,iv (h.ords.map zew).length),(1,pZ b1),(4,pZ bs),(5,.fn (.func 203) [] [pZ bs])],.box b1 184 [pZ bh]:: .box bh 28 (y9 h):: .box bs 240 [.fn (.func 202) [] [pZ bm,pZ by_]]:: .box bm 4 [bv (x.2.1).isSome]:: .box by_ 239 [y]::x.2.2,[]⟩) (fun x=>r.ts.length - x.1) (0,_,L) ⟨by omega,hI,hF⟩
    (u0 (.cons _ _ _ rfl (.cons _ _ _ rfl (.cons _ _ _ rfl (.cons _ _ _ rfl (.cons _ _ _ rfl (.cons _ _ _ rfl (.cons _ _ _ rfl (.cons _ _ _ rfl (.nil)))))))))) ?_
   rintro ⟨j,st,L⟩ ⟨hj,hI,hF⟩
   simp only at hj hI hF
   refine rn ?_;refine z8 rfl (fun hc122=> ?_) (fun hc122=> ?_)
   ·have j2:j < r.ts.length:=by simpa using hc122
    obtain ⟨t,ht⟩:∃t,t=r.ts[j]:=⟨_,rfl⟩
    have hrowt:(r.ts.map zbo)[j]? =some (zbo t):=by rw [ht];simp [j2]
    have hdt:=List.drop_eq_getElem_cons j2
    rw [hdt,←ht] at hF
    simp only [List.map_cons,List.cons_append] at hF
    obtain ⟨hx,hF⟩:=hF.cons
    refine rn ?_;refine zaf 11 rfl ?_
    refine rn ?_;refine z7 rfl (v6 rfl rfl (y0.fr3 (y0.of_acall (fs:= []) (cs:= [pZ bm,pZ by_]) (zu3 step ok IJ y hy 0 t hx _ bm by_ _ _ hI))) rfl ?_)
    rintro _ _ ⟨_,rfl,L,hI,rfl⟩
    refine rn ?_;exact ⟨(j+1,_,L),⟨by omega,hI,hF⟩,(u0 (.cons _ _ _ rfl (.cons _ _ _ rfl (.cons _ _ _ rfl (.cons _ _ _ rfl (.cons _ _ _ rfl (.cons _ _ _ rfl (.cons _ _ _ rfl (.cons _ _ _ rfl (.nil)))))))))),by simp only;omega⟩
   ·obtain rfl:j=r.ts.length:=by
     have:r.ts.length≤j:=by simpa using hc122
     omega
    rw [List.drop_length,List.map_nil,List.nil_append] at hF
    refine rn ?_;exact ⟨(k+1,_,L),⟨by omega,hI,hF⟩,(u0 (.cons _ _ _ rfl (.cons _ _ _ rfl (.cons _ _ _ rfl (.cons _ _ _ rfl (.cons _ _ _ rfl (.nil))))))),by simp only;omega⟩
  ·obtain rfl:k=h.ords.length:=by
    have:h.ords.length≤k:=by simpa using hc101
    omega
   rw [List.drop_length,List.flatMap_nil,List.nil_append] at hF
   refine rn ?_;refine zaj (fun x:Nat×Option σ×List Res=>x.1≤h.mats.length∧IJ x.2.1 x.2.2∧Rem step ok x.2.1 (((h.mats.drop x.1).flatMap ycx)++h.wants.flatMap yak) (goes step (some s0) (zda h))) (fun x=>⟨[(143,iv x.1),(142,iv (h.mats.map zei).length),(1,pZ b1),(4,pZ bs),(5,.fn (.func 203) [] [pZ bs])],.box b1 184 [pZ bh]:: .box bh 28 (y9 h):: .box bs 240 [.fn (.func 202) [] [pZ bm,pZ by_]]:: .box bm 4 [bv (x.2.1).isSome]:: .box by_ 239 [y]::x.2.2,[]⟩) (fun x=>h.mats.length - x.1) (0,st,L) ⟨by omega,hI,hF⟩
    (u0 (.cons _ _ _ rfl (.cons _ _ _ rfl (.cons _ _ _ rfl (.cons _ _ _ rfl (.cons _ _ _ rfl (.nil))))))) ?_
   rintro ⟨k,st,L⟩ ⟨hk,hI,hF⟩
   simp only at hk hI hF
   refine rn ?_;refine z8 rfl (fun hc144=> ?_) (fun hc144=> ?_)
   ·have k2:k < h.mats.length:=by simpa using hc144
    obtain ⟨r,hr⟩:∃r,r=h.mats[k]:=⟨_,rfl⟩
    have hrowr:(h.mats.map zei)[k]? =some (zei r):=by rw [hr];simp [k2]
    have hdr:=List.drop_eq_getElem_cons k2
    rw [hdr,←hr] at hF
    simp only [List.flatMap_cons,ycx,List.cons_append,List.append_assoc] at hF
    obtain ⟨hx,hF⟩:=hF.cons
    obtain ⟨hx2,hF⟩:=hF.cons
    have hle:=la.mats
    have hls:=la.matts r (by rw [hr];simp)
    refine rn ?_;refine zaf 4 rfl ?_
    refine rn ?_;refine z7 rfl (v6 rfl rfl (y0.fr3 (y0.of_acall (fs:= []) (cs:= [pZ bm,pZ by_]) (zu3 step ok IJ y hy 3 r.p hx _ bm by_ _ _ hI))) rfl ?_)
    rintro _ _ ⟨_,rfl,L,hI,rfl⟩
    refine rn ?_;refine zaf 4 rfl ?_
    refine rn ?_;refine z7 rfl (v6 rfl rfl (y0.fr3 (y0.of_acall (fs:= []) (cs:= [pZ bm,pZ by_]) (zu3 step ok IJ y hy 2 r.o hx2 _ bm by_ _ _ hI))) rfl ?_)
    rintro _ _ ⟨_,rfl,L,hI,rfl⟩
    refine rn ?_;refine zaj (fun x:Nat×Option σ×List Res=>x.1≤r.ts.length∧IJ x.2.1 x.2.2∧Rem step ok x.2.1 (((r.ts.drop x.1).map fun t=>((0:Nat),t))++(((h.mats.drop (k+1)).flatMap ycx)++h.wants.flatMap yak)) (goes step (some s0) (zda h))) (fun x=>⟨[(167,iv x.1),(166,iv (r.ts.map zbo).length),(12,.pp (zei r)),(143,iv k),(142,iv (h.mats.map zei).length),(1,pZ b1),(4,pZ bs),(5,.fn (.func 203) [] [pZ bs])],.box b1 184 [pZ bh]:: .box bh 28 (y9 h):: .box bs 240 [.fn (.func 202) [] [pZ bm,pZ by_]]:: .box bm 4 [bv (x.2.1).isSome]:: .box by_ 239 [y]::x.2.2,[]⟩) (fun x=>r.ts.length - x.1) (0,_,L) ⟨by omega,hI,hF⟩
     (u0 (.cons _ _ _ rfl (.cons _ _ _ rfl (.cons _ _ _ rfl (.cons _ _ _ rfl (.cons _ _ _ rfl (.cons _ _ _ rfl (.cons _ _ _ rfl (.cons _ _ _ rfl (.nil)))))))))) ?_
    rintro ⟨j,st,L⟩ ⟨hj,hI,hF⟩
    simp only at hj hI hF
    refine rn ?_;refine z8 rfl (fun hc168=> ?_) (fun hc168=> ?_)
    ·have j2:j < r.ts.length:=by simpa using hc168
     obtain ⟨t,ht⟩:∃t,t=r.ts[j]:=⟨_,rfl⟩
     have hrowt:(r.ts.map zbo)[j]? =some (zbo t):=by rw [ht];simp [j2]
     have hdt:=List.drop_eq_getElem_cons j2
     rw [hdt,←ht] at hF
     simp only [List.map_cons,List.cons_append] at hF
     obtain ⟨hx,hF⟩:=hF.cons
     refine rn ?_;refine zaf 7 rfl ?_
     refine rn ?_;refine z7 rfl (v6 rfl rfl (y0.fr3 (y0.of_acall (fs:= []) (cs:= [pZ bm,pZ by_]) (zu3 step ok IJ y hy 0 t hx _ bm by_ _ _ hI))) rfl ?_)
     rintro _ _ ⟨_,rfl,L,hI,rfl⟩
     refine rn ?_;exact ⟨(j+1,_,L),⟨by omega,hI,hF⟩,(u0 (.cons _ _ _ rfl (.cons _ _ _ rfl (.cons _ _ _ rfl (.cons _ _ _ rfl (.cons _ _ _ rfl (.cons _ _ _ rfl (.cons _ _ _ rfl (.cons _ _ _ rfl (.nil)))))))))),by simp only;omega⟩
    ·obtain rfl:j=r.ts.length:=by
      have:r.ts.length≤j:=by simpa using hc168
      omega
     rw [List.drop_length,List.map_nil,List.nil_append] at hF
     refine rn ?_;exact ⟨(k+1,_,L),⟨by omega,hI,hF⟩,(u0 (.cons _ _ _ rfl (.cons _ _ _ rfl (.cons _ _ _ rfl (.cons _ _ _ rfl (.cons _ _ _ rfl (.nil))))))),by simp only;omega⟩
   ·obtain rfl:k=h.mats.length:=by
     have:h.mats.length≤k:=by simpa using hc144
     omega
    rw [List.drop_length,List.flatMap_nil,List.nil_append] at hF
    refine rn ?_;refine zaj (fun x:Nat×Option σ×List Res=>x.1≤h.wants.length∧IJ x.2.1 x.2.2∧Rem step ok x.2.1 (((h.wants.drop x.1).flatMap yak)++ []) (goes step (some s0) (zda h))) (fun x=>⟨[(185,iv x.1),(184,iv (h.wants.map zgk).length),(1,pZ b1),(4,pZ bs),(5,.fn (.func 203) [] [pZ bs])],.box b1 184 [pZ bh]:: .box bh 28 (y9 h):: .box bs 240 [.fn (.func 202) [] [pZ bm,pZ by_]]:: .box bm 4 [bv (x.2.1).isSome]:: .box by_ 239 [y]::x.2.2,[]⟩) (fun x=>h.wants.length - x.1) (0,st,L) ⟨by omega,hI,by rw [List.append_nil];exact hF⟩
     (u0 (.cons _ _ _ rfl (.cons _ _ _ rfl (.cons _ _ _ rfl (.cons _ _ _ rfl (.cons _ _ _ rfl (.nil))))))) ?_
    rintro ⟨k,st,L⟩ ⟨hk,hI,hF⟩
    simp only at hk hI hF
    refine rn ?_;refine z8 rfl (fun hc186=> ?_) (fun hc186=> ?_)
    ·have k2:k < h.wants.length:=by simpa using hc186
     obtain ⟨r,hr⟩:∃r,r=h.wants[k]:=⟨_,rfl⟩
     have hrowr:(h.wants.map zgk)[k]? =some (zgk r):=by rw [hr];simp [k2]
     have hdr:=List.drop_eq_getElem_cons k2
     rw [hdr,←hr] at hF
     simp only [List.flatMap_cons,yak,List.cons_append,List.append_assoc,List.nil_append] at hF
     obtain ⟨hx,hF⟩:=hF.cons
     have hle:=la.wants
     refine rn ?_;refine zaf 8 rfl ?_
     refine rn ?_;refine z7 rfl (v6 rfl rfl (y0.fr3 (y0.of_acall (fs:= []) (cs:= [pZ bm,pZ by_]) (zu3 step ok IJ y hy 1 r.s hx _ bm by_ _ _ hI))) rfl ?_)
     rintro _ _ ⟨_,rfl,L,hI,rfl⟩
     refine rn ?_;exact ⟨(k+1,_,L),⟨by omega,hI,hF⟩,(u0 (.cons _ _ _ rfl (.cons _ _ _ rfl (.cons _ _ _ rfl (.cons _ _ _ rfl (.cons _ _ _ rfl (.nil))))))),by simp only;omega⟩
    ·obtain rfl:k=h.wants.length:=by
      have:h.wants.length≤k:=by simpa using hc186
      omega
     rw [List.drop_length,List.flatMap_nil,List.nil_append] at hF
     refine rn ?_;have hF':st=goes step (some s0) (zda h):=hF.fin
     exact zeq .nil (.trans (.perm ((pt2 _ _ _ _).trans (.cons _ ((pt2 _ _ _ _).trans (.cons _ (pt2 _ _ _ _))))) _) (.drop [_,_,_] _ _)) ⟨L,hF' ▸ hI,rfl⟩
theorem yjn (bh:Nat) (h:List Res):y8 Tryz.prog 141 [pZ bh] h (fun r h'=>∃b1,h'= .box b1 184 [pZ bh]::h∧r= .fn (.func 201) [] [pZ b1]):=by
 refine z6 Tryz.func141 rfl rfl rfl ?_
 refine rn ?_;refine z7 rfl (w7 rfl rfl rfl fun b1=> ?_)
 refine rn ?_;exact zal rfl (.refl _ _) ⟨_,rfl,rfl⟩
def IJC (lp:LP) (q b2 b3:Nat):Option (List Int)→List Res→Prop
 |some m,L=>L=lp .ready none:: .defs q:: .box b3 156 ((m).map iv):: .box b2 33 [iv 0]:: [.glob 2 156 y2,.glob 4 305 y3,.glob 5 308 y1]∧m.length=4
 |none,L=>∃m:List Int,L=lp .done (some .ret):: .defs q:: .box b3 156 ((m).map iv):: .box b2 33 [iv 210]:: [.glob 2 156 y2,.glob 4 305 y3,.glob 5 308 y1]
theorem ymn (h:Hist) (la:Lim 4611686018427387904 h):y8 Tryz.prog 93 [.agg (y9 h)] [.glob 2 156 y2,.glob 4 305 y3,.glob 5 308 y1] (fun r h'=>h'= [.glob 2 156 y2,.glob 4 305 y3,.glob 5 308 y1]∧r=iv (zdk h)):=by
 refine z6 Tryz.func93 rfl rfl rfl ?_
 refine rn ?_;refine z7 rfl (w7 rfl rfl rfl fun b1=> ?_)
 refine z7 rfl (y6 rfl fun b2=> ?_)
 refine rn ?_;refine qv rfl rfl (y4 rfl rfl (y0.qt (y0.of_fun (yjp h la)) ((pt2 _ _ _ _).trans (.cons _ ((pt2 _ _ _ _).trans (.cons _ (pt2 _ _ _ _))))))) ?_
 refine rn ?_;refine z8 rfl (fun hc10=> ?_) (fun hc10=> ?_)
 ·have hs:za5 h=false:=ycm hc10
  refine rn ?_;exact zd0 (.cons _ _ _ _ (.one _ _ _ _ _ _ _ rfl inferInstance inferInstance rfl) .nil) (.drop [_,_] _ _) ⟨rfl,congrArg iv (yds hs).symm⟩
 ·have hs:za5 h=true:=ycn hc10
  refine rn ?_;refine z7 rfl (y6 rfl fun b3=> ?_)
  refine rn ?_;refine z7 rfl (v6 rfl rfl (y0.of_fun (yjn b1 _)) rfl ?_)
  rintro _ _ ⟨b1',rfl,rfl⟩
  refine rn ?_;refine zl7 (fun pend h''=>(pend=none∧∃m:List Int,zp2 h=some m∧m.length=4∧h''= .box b1' 184 [pZ b1]:: .box b1 28 (y9 h):: .box b3 156 ((m).map iv):: .box b2 33 [iv 0]:: [.glob 2 156 y2,.glob 4 305 y3,.glob 5 308 y1])∨(pend=some .ret∧zp2 h=none∧∃m:List Int,h''= .box b1' 184 [pZ b1]:: .box b1 28 (y9 h):: .box b3 156 ((m).map iv):: .box b2 33 [iv 210]:: [.glob 2 156 y2,.glob 4 305 y3,.glob 5 308 y1])) rfl (fun fn l q lp hlp=> ?_) (fun q h'' hK=> ?_) (fun q h'' c hK=> ?_)
  ·suffices hy:∀(s:List Int) (L:List Res) (sort:Nat) (n:Int) (cells:List AV),OkN h (sort,n)→IJC lp q b2 b3 (some s) L→y0 Tryz.prog (yv l) [iv sort,.pp (iv n::cells)] L (fun r h'=>r=bv (zeb s (sort,n)).isSome∧IJC lp q b2 b3 (zeb s (sort,n)) h') by
    refine y8.mono (y8.perm ((pt2 _ _ _ _).trans (.cons _ (pt4 _ _ _ _ _ _))) (yfs zeb (OkN h) (IJC lp q b2 b3) (yv l) rfl hy h la b1' b1 (zw3 hs) [0,0,0,0] _ ⟨rfl,rfl⟩)) ?_
    rintro _ _ ⟨L',hI,rfl⟩
    cases hm:goes zeb (some [0,0,0,0]) (zda h) with
    |some m=>
     rw [hm] at hI
     obtain ⟨rfl,hl⟩:=hI
     exact ⟨_,_,_,((pt2 _ _ _ _).trans (.cons _ (pt2 _ _ _ _))),by simp,.inl ⟨rfl,m,hm,hl,rfl⟩⟩
    |none=>
     rw [hm] at hI
     obtain ⟨m,rfl⟩:=hI
     exact ⟨_,_,_,((pt2 _ _ _ _).trans (.cons _ (pt2 _ _ _ _))),by simp,.inr ⟨rfl,hm,m,rfl⟩⟩
   rintro m _ sort n cells ⟨hs4,hn0,hn1⟩ ⟨rfl,hl⟩
   simp only at hs4 hn0 hn1
   have hnm:=la.nm sort
   refine zt8 hlp rfl rfl ?_
   refine rn ?_;refine ⟨[(4,iv sort),(5,.pp (iv n::cells)),(3,pZ b3),(2,pZ b2)],(u0 (.cons _ _ _ rfl (.cons _ _ _ rfl (.cons _ _ _ rfl (.cons _ _ _ rfl (.nil)))))),?_⟩
   refine rn ?_;refine zaf 6 rfl ?_
   refine dq rfl rfl qrA ?_;refine dq rfl rfl qrA ?_;refine dq rfl rfl qrA ?_;refine dq rfl rfl qrA ?_;refine dq rfl rfl (zai rfl rfl hs4) ?_
   refine dq rfl rfl (zae rfl (yoh hl hs4)) ?_
   refine rn ?_;refine z8 rfl (fun hc20=> ?_) (fun hc20=> ?_)
   ·refine rn ?_;have hst:zeb m (sort,n)=none:=by rw [zeb];exact if_pos (by simpa using hc20)
    exact zrs (.refl _) (by rw [hst];exact ⟨rfl,_,rfl⟩)
   ·refine rn ?_;refine zaf 9 rfl ?_
    refine dq rfl rfl qrA ?_;refine dq rfl rfl qrA ?_;refine dq rfl rfl (zai rfl rfl hs4) ?_
    refine dq rfl rfl (zae rfl (yoh hl hs4)) ?_
    refine rn2 ?_;refine qq rfl rfl (zai rfl rfl hs4) ?_
    refine z7 rfl (zap rfl rfl rfl rfl (by simp [hl];omega) ?_)
    refine rn ?_;have hst:zeb m (sort,n)=some (m.set sort (max (m.getD sort 0) (n+1))):=by rw [zeb];exact if_neg (by simpa using hc20)
    exact zcy (.refl _) (by rw [hst];exact ⟨rfl,by rw [←ypq hl hs4];rfl,by simpa using hl⟩)
  ·obtain ⟨_,m,hm,hl,rfl⟩|⟨hc,_⟩:=hK
   rotate_left
   ·cases hc
   refine rn ?_;refine qv rfl rfl (y4 rfl rfl (zbl (yhc _) (Sbs.refl _))) ?_
   refine rn ?_;refine zaj (fun k:Nat=>k≤4∧∀j,j < k→m.getD j 0=(nmK h j).length) (fun k=>⟨[(33,iv k),(32,.agg (zjn h)),(3,pZ b3),(2,pZ b2)],.defs q:: .box b1' 184 [pZ b1]:: .box b1 28 (y9 h):: .box b3 156 ((m).map iv):: .box b2 33 [iv 0]:: [.glob 2 156 y2,.glob 4 305 y3,.glob 5 308 y1],[q]⟩) (fun k=>4 - k) 0 ⟨by omega,fun j hj=>absurd hj (Nat.not_lt_zero j)⟩
    (u0 (.cons _ _ _ rfl (.cons _ _ _ rfl (.cons _ _ _ rfl (.cons _ _ _ rfl (.nil)))))) ?_
   rintro k ⟨hk,hz⟩
   refine rn ?_;refine z8 rfl (fun hc34=> ?_) (fun hc34=> ?_)
   ·have hk4:k < 4:=by simp at hc34;omega
    refine za0 ?_;refine zan ?_;refine w8 ?_;refine zdl ?_;refine w8 (y7 ?_)
    refine q1 ?_;refine qq rfl rfl (zcs rfl rfl (by omega) (by have:=zx9 h hk4;simpa using this)) ?_
    refine q1 ?_;refine q1 ?_;refine j6 (zan ?_)
    refine w8 (y7 ?_)
    refine q1 ?_;refine qq rfl rfl (zai rfl rfl hk4) ?_
    refine qq rfl rfl (zae rfl (yoh hl hk4)) ?_
    refine rn ?_;refine z8 rfl (fun hc42=> ?_) (fun hc42=> ?_)
    ·refine rn ?_;exact zgx (.refl _) (.cons _ _ _ _ (.one _ _ _ _ _ _ _ rfl inferInstance inferInstance rfl) .nil) (.drop [_,_,_,_] _ _) ⟨rfl,congrArg iv (ydt hm hk4 (by simpa using hc42)).symm⟩
    ·refine rn ?_;exact ⟨k+1,⟨by omega,fun j hj=>by
      by_cases hjk:j=k
      ·subst hjk;simpa using hc42
      ·exact hz j (by omega)⟩,(u0 (.cons _ _ _ rfl (.cons _ _ _ rfl (.cons _ _ _ rfl (.cons _ _ _ rfl (.nil)))))),by omega⟩
   ·have hk4:k=4:=by simp at hc34;omega
    subst hk4
    refine rn ?_;exact zgx (.refl _) (.cons _ _ _ _ (.one _ _ _ _ _ _ _ rfl inferInstance inferInstance rfl) .nil) (.drop [_,_,_,_] _ _) ⟨rfl,congrArg iv (ydu hs hm hl hz).symm⟩
  ·obtain ⟨hc,_⟩|⟨hc,hm,m,rfl⟩:=hK
   ·cases hc
   obtain rfl:c= .ret:=by simpa using hc
   refine rn ?_;exact zgx (.refl _) (.cons _ _ _ _ (.one _ _ _ _ _ _ _ rfl inferInstance inferInstance rfl) .nil) (.drop [_,_,_,_] _ _) ⟨rfl,congrArg iv (zv7 hm).symm⟩
attribute [local irreducible] zc1 jch zeo
def w9:List AV:= [.any,.fn (.func 300) [] [],.fn (.func 307) [] [],.fn (.func 308) [] [],.fn (.func 309) [] [],.fn (.func 310) [] [],.fn (.func 311) [] [],.fn (.func 312) [] [],.fn (.func 313) [] [],.fn (.func 314) [] [],.fn (.func 315) [] []]
def ynf (k:Nat):AV:=w9.getD k .any
theorem yit {k:Nat} (h2:k≤10):w9[k]? =some (ynf k):=by
 have:k < w9.length:=by show k < 11;omega
 rw [ynf,List.getD_eq_getElem?_getD,List.getElem?_eq_getElem this];rfl
theorem yd0 (h:Hist) (la:Lim 3000 h) (b:Nat) (G:List Res) {k:Nat} (h1:1≤k) (h2:k≤10):y0 Tryz.prog (ynf k) [pZ b] (.box b 252 (zbx h)::G) (fun r h'=>h'=G∧r=zbd (zce h k)):=by
 match k,h1,h2 with
 |1,_,_=>exact y0.of_acall (fs:= []) (cs:= []) (ykj h la b G)
 |2,_,_=>exact y0.of_acall (fs:= []) (cs:= []) (yp1 h la b G)
 |3,_,_=>exact y0.of_acall (fs:= []) (cs:= []) (yki h la b G)
 |4,_,_=>exact y0.of_acall (fs:= []) (cs:= []) (ybt h la b G)
 |5,_,_=>exact y0.of_acall (fs:= []) (cs:= []) (ypx h la b G)
 |6,_,_=>exact y0.of_acall (fs:= []) (cs:= []) (yns h la b G)
 |7,_,_=>exact y0.of_acall (fs:= []) (cs:= []) (ykc h la b G)
 |8,_,_=>exact y0.of_acall (fs:= []) (cs:= []) (ybw h la b G)
 |9,_,_=>exact y0.of_acall (fs:= []) (cs:= []) (ykf h la b G)
 |10,_,_=>exact y0.of_acall (fs:= []) (cs:= []) (ynq h la b G)
 |k+11,_,h2=>omega
theorem ygz {o:Option Nat} {i:Int} {b:Bool} (h:zbd o= .tup [iv i,bv b]):i=yp3 o∧b=o.isSome:=by
 cases o with
 |none=>simp only [zbd,AV.tup.injEq,List.cons.injEq,AV.v.injEq,Value.int.injEq,Value.bool.injEq,true_and,and_true] at h;exact ⟨h.1.symm,h.2.symm⟩
 |some n=>simp only [zbd,AV.tup.injEq,List.cons.injEq,AV.v.injEq,Value.int.injEq,Value.bool.injEq,true_and,and_true] at h;exact ⟨h.1.symm,h.2.symm⟩
theorem zr9 {h:Hist} (hm:zfp h=true):Lim 3000 h:=by
 unfold zfp at hm;simp only [Bool.and_eq_true] at hm;exact zu1 hm.1
theorem ykh (h:Hist) (la:Lim 4611686018427387904 h):y8 Tryz.prog 143 [.agg (y9 h)] [.glob 2 156 y2,.glob 4 305 y3,.glob 5 308 y1,.glob 3 246 w9] (fun r h'=>h'= [.glob 2 156 y2,.glob 4 305 y3,.glob 5 308 y1,.glob 3 246 w9]∧r=zgt h):=by
 refine z6 Tryz.func143 rfl rfl rfl ?_
 refine rn ?_;refine z7 rfl (w7 rfl rfl rfl fun b1=> ?_)
 refine z7 rfl (y6 rfl fun b2=> ?_)
 refine rn ?_;refine qv rfl rfl (y4 rfl rfl (y0.qt (y0.of_fun (ymn h la)) ((pt2 _ _ _ _).trans (.cons _ ((pt2 _ _ _ _).trans (.cons _ (pt2 _ _ _ _))))))) ?_
 refine rn ?_;refine z8 rfl (fun hc12=> ?_) (fun hc12=> ?_)
 ·have hm:¬zfp h=true:=by intro q;rw [zdk,if_pos q] at hc12;cases hc12
  have he:zdk h=210:=by rw [zdk,if_neg hm]
  refine rn ?_;exact zd0 (.cons _ _ _ _ (.agg _ _ _ _ _ _ _ rfl inferInstance inferInstance inferInstance rfl) (.cons _ _ _ _ (.tmp _ _ rfl) (.cons _ _ _ _ (.tmp _ _ rfl) .nil))) (.drop [_,_] _ _) ⟨rfl,by rw [zgt,if_neg hm,he];rfl⟩
 ·have hm:zfp h=true:=zzx.1 (by simpa using hc12)
  have la3:=zr9 hm
  refine rn ?_;refine zow (fun k:Nat=>(1≤k∧k≤11)∧zbp (zce h) rules10=zbp (zce h) (rules10.drop (k - 1))) (fun k=>⟨[(6,iv k),(1,pZ b1),(2,pZ b2)],(.box b2 158 [iv 0,iv 0]:: .box b1 28 (y9 h):: .glob 2 156 y2:: .glob 4 305 y3:: .glob 5 308 y1:: .glob 3 246 w9:: []),[]⟩) (fun k=>11 - k) 1 ⟨by omega,rfl⟩ es ?_
  rintro k ⟨⟨k1,k3⟩,zk⟩
  obtain ⟨pi,pb,hpv⟩:∃i b,zbd (zce h k)= .tup [iv i,bv b]:=zdh _
  obtain ⟨ei,eb⟩:=ygz hpv
  refine rn ?_;refine z8 rfl (fun hc16=> ?_) (fun hc16=> ?_)
  ·have k2:k≤10:=by have:=oT hc16;omega
   refine za0 ?_;refine rn0 ?_;refine w8 ?_;refine zdl ?_;refine w8 ?_;refine zgu 11 [5,6] [7,8,9,10] (fun he=>he=(.box b2 158 [iv 0,iv 0]:: .box b1 28 (y9 h):: .glob 2 156 y2:: .glob 4 305 y3:: .glob 5 308 y1:: .glob 3 246 w9:: [])∨∃b,he= .box b 252 (zbx h)::(.box b2 158 [iv 0,iv 0]:: .box b1 28 (y9 h):: .glob 2 156 y2:: .glob 4 305 y3:: .glob 5 308 y1:: .glob 3 246 w9:: [])) rfl rfl (.inl rfl) ?_
   refine jq rfl (fun he hC=>by rcases hC with rfl|⟨b,rfl⟩ <;> exact qrA) ?_
   refine jq rfl (fun he hC=>by rcases hC with rfl|⟨b,rfl⟩ <;> exact (by exact zai rfl rfl (by show k < 11;omega))) ?_
   refine jq rfl (fun he hC=>by rcases hC with rfl|⟨b,rfl⟩ <;> exact (by exact zae rfl (show w9[0+k * 1]? =some (ynf k) by rw [Nat.zero_add,Nat.mul_one];exact yit k2))) ?_
   refine jq rfl (fun he hC=>by rcases hC with rfl|⟨b,rfl⟩ <;> exact qrA) ?_
   refine jq rfl (fun he hC=>by rcases hC with rfl|⟨b,rfl⟩ <;> exact (by exact zac (out:=zbx h) rfl (by rfl))) ?_
   refine je rfl ?_;refine je rfl ?_;refine je rfl ?_;refine je rfl ?_;refine je rfl ?_;refine je rfl ?_;refine yaq ?_;refine jce rfl fun u=> ?_
   refine w7 rfl rfl rfl fun b5=>⟨_,_,rfl,.inr ⟨_,rfl⟩,?_⟩
   refine jce rfl fun u=> ?_
   refine v6 rfl rfl (yd0 h la3 b5 _ k1 k2) rfl ?_
   rintro _ _ ⟨rfl,rfl⟩
   rw [hpv]
   refine ⟨_,_,rfl,.inl rfl,?_⟩
   refine jcn ?_;refine lq rfl rfl (by exact qrA) ?_
   refine lq rfl rfl (by exact qrA) ?_
   refine lq rfl rfl (by exact qrA) ?_
   refine lq rfl rfl (by exact qrA) ?_
   refine ln ?_;refine rn ?_;refine z8 rfl (fun hc29=> ?_) (fun hc29=> ?_)
   ·refine rn ?_;exact zd0 (.cons _ _ _ _ (.agg _ _ _ _ _ _ _ rfl inferInstance inferInstance inferInstance rfl) (.cons _ _ _ _ (.tmp _ _ rfl) (.cons _ _ _ _ (.tmp _ _ rfl) .nil))) (.drop [_,_] _ _) ⟨rfl,by
     cases hp:zce h k with
     |none=>rw [hp] at eb;rw [eb] at hc29;cases hc29
     |some n=>rw [hp] at ei;subst ei;rw [zgt,if_pos hm,zjw,zzb k1 k2 zk hp];rfl⟩
   ·refine rn ?_;exact ⟨k+1,⟨by omega,zvy k1 k2 zk (by cases hp:zce h k with|none=>rfl|some n=>rw [hp] at eb;rw [eb] at hc29;cases hc29)⟩,eA,by omega⟩
  ·have k2:11≤k:=by have:=oF hc16;omega
   refine rn ?_;exact zd0 (.cons _ _ _ _ (.agg _ _ _ _ _ _ _ rfl inferInstance inferInstance inferInstance rfl) (.cons _ _ _ _ (.tmp _ _ rfl) (.cons _ _ _ _ (.tmp _ _ rfl) .nil))) (.drop [_,_] _ _) ⟨rfl,by rw [zgt,if_pos hm,zjw,zvz k2 k3 zk];rfl⟩
theorem yj7 (h:Hist) (la:Lim 4611686018427387904 h):y8 Tryz.prog 94 [.agg (y9 h)] [.glob 2 156 y2,.glob 4 305 y3,.glob 5 308 y1,.glob 3 246 w9] (fun r h'=>h'= [.glob 2 156 y2,.glob 4 305 y3,.glob 5 308 y1,.glob 3 246 w9]∧r=bv (zaq h)):=by
 refine z6 Tryz.func94 rfl rfl rfl ?_
 refine rn ?_;refine z7 rfl (w7 rfl rfl rfl fun b1=> ?_)
 refine q1 ?_;refine j6 (zan ?_)
 refine w8 (y7 ?_)
 obtain ⟨fi,fj,fb,fe,hf,hfb⟩:=zqf h
 refine rn ?_;refine qv rfl rfl (y4 rfl rfl (y0.qt (y0.of_fun (ykh h la)) ((pt1 _ _ _).trans (.cons _ ((pt1 _ _ _).trans (.cons _ ((pt1 _ _ _).trans (.cons _ (pt1 _ _ _))))))))) ?_
 rw [hf]
 refine rn ?_;refine z7 rfl (y6 rfl fun b3=> ?_)
 refine rn ?_;refine u4 (fun hg2_2=> ?_) (fun hg2_2=> ?_)
 ·refine rn ?_;refine rq 2 ?_
  exact ⟨rfl,congrArg bv (by rw [hfb];simp_all)⟩
 ·refine rn ?_;refine rq 2 ?_
  exact ⟨rfl,congrArg bv (by rw [hfb];simp_all)⟩
end Go.Proofs
set_option maxRecDepth 100000
namespace Go.Proofs.YtfmcbdjnmlcacaaGreatDoor
open Go Go.Ab Go.H
def yis:DataW Unit:=match (Rows.laid_yardarm_rules_asks:DataW Unit) with| .iface _ d=>d|d=>d
def zye:List (List UInt8):=match yis with| .agg ds=>ds.map (fun d=>match d with| .iface _ (.lit (.string b))=>b|_=> [])|_=> []
def nm (k:Nat):List UInt8:=zye.getD (k+1) []
theorem zz5:yis.funcsOut= .agg (.nil::(zye.drop 1).map .held):=by kernel_rfl
theorem zoh {w:World} {c:Array Value} {T0:TypeId} {fr:Nat×Nat} {g:Nat} {T:TypeId} {vs:List AV} (hh:w.heap[g]? =some (.cells c T0 fr)) (hl:vs.length=c.size) (h:∀j (h1:j < vs.length) (h2:j < c.size),Rel w noX vs[j] c[j]):(Res.glob g T vs).holds w noX:=
 ⟨fun h=>h,(Array.getElem?_eq_some_iff.1 hh).1,c,T0,fr,hh,hl,fun j h1 h2=>h j h1 h2⟩
theorem yez (w:World) (f:Nat):Rel w noX (.fn (.func f) [] []) (.func (.func f) #[] #[]):= .fn _ _ _ _ _ rfl rfl (fun j h=>absurd h (Nat.not_lt_zero _)) (fun j h=>absurd h (Nat.not_lt_zero _))
def fnA:List Nat:= [300,307,308,309,310,311,312,313,314,315]
theorem ydz (k:Nat) (hk:k < 10):∃b r,zye[k+1]? =some (b::r)∧((List.range Tryz.prog.funcs.size).filter fun f=>(Tryz.prog.funcs[f]?).any (·.name.toUTF8.data.toList==b::r))= [fnA.getD k 0]∧w9[k+1]? =some (.fn (.func (fnA.getD k 0)) [] []):=by
 match k,hk with
 |0,_=>exact ⟨(nm 0).headD 0,(nm 0).tail,by kernel_rfl,by kernel_rfl,by kernel_rfl⟩
 |1,_=>exact ⟨(nm 1).headD 0,(nm 1).tail,by kernel_rfl,by kernel_rfl,by kernel_rfl⟩
 |2,_=>exact ⟨(nm 2).headD 0,(nm 2).tail,by kernel_rfl,by kernel_rfl,by kernel_rfl⟩
 |3,_=>exact ⟨(nm 3).headD 0,(nm 3).tail,by kernel_rfl,by kernel_rfl,by kernel_rfl⟩
 |4,_=>exact ⟨(nm 4).headD 0,(nm 4).tail,by kernel_rfl,by kernel_rfl,by kernel_rfl⟩
 |5,_=>exact ⟨(nm 5).headD 0,(nm 5).tail,by kernel_rfl,by kernel_rfl,by kernel_rfl⟩
 |6,_=>exact ⟨(nm 6).headD 0,(nm 6).tail,by kernel_rfl,by kernel_rfl,by kernel_rfl⟩
 |7,_=>exact ⟨(nm 7).headD 0,(nm 7).tail,by kernel_rfl,by kernel_rfl,by kernel_rfl⟩
 |8,_=>exact ⟨(nm 8).headD 0,(nm 8).tail,by kernel_rfl,by kernel_rfl,by kernel_rfl⟩
 |9,_=>exact ⟨(nm 9).headD 0,(nm 9).tail,by kernel_rfl,by kernel_rfl,by kernel_rfl⟩
end Go.Proofs.YtfmcbdjnmlcacaaGreatDoor
namespace Go.Proofs
open Go Go.Ab
open Go.H
def yi2 (l:List Int):List AV:= [zb5 l]
theorem ykm {P:Program} {h:List Res} {f:Operand→Option AV} {o:Oper} {b c:Bool} (hq:QR P h f o (.v (.bool b))) (e:b=c):QR P h f o (.v (.bool c)):=by subst e;exact hq
theorem nzT {a:Int} (h:(a !=0)=true):a≠0:=by simpa using h
theorem nzF {a:Int} (h:(a !=0)=false):a=0:=by simpa using h
theorem yij (l:List Ev):(zel l).length≤l.length:=by rw [zel,(zbr _).length_eq,oM];exact List.length_filter_le _ _
def dnM (l:List Int):List (Int×Bool):=zpg (fun _:Int=>true) (fun t:Int=>t) [] l
theorem yot {l:List Int} {k:Nat} (hk:k < l.length):dnM (l.take (k+1))=zdr l[k] true (dnM (l.take k)):=by
 rw [dnM,dnM,zpg,zpg,List.take_succ_eq_append_getElem hk,List.foldl_append];rfl
theorem zgb (l:List Ev) (t:Int):(za7 t (dnM (zel l))).getD false=zhs l t 5:=by
 rw [dnM,zfa]
 cases hq:zhs l t 5 with
 |true=>rw [if_pos (by rw [List.any_eq_true];exact ⟨t,zos.2 hq,by simp⟩)];rfl
 |false=>
  rw [if_neg (fun q=>by
   obtain ⟨x,hx,e⟩:=List.any_eq_true.1 q
   have e:x=t:=by simpa using e
   rw [e,zos,hq] at hx;cases hx)]
  rfl
def evD (l:List Ev) (n:Int):Ev:=(l[n.toNat]?).getD ⟨0,0,0,0,0,⟨0,0⟩,0,[]⟩
theorem zt9 {l:List Ev} {a:Nat} (ha:a < l.length):evD l (a:Int)=l[a]:=by rw [evD,Int.toNat_natCast,List.getElem?_eq_getElem ha];rfl
def zd7 (h:Hist) (n:Int):Int:=if u3 h=0 then (if 0≤n∧n < h.evs.length∧(evD h.evs n).kind=4 then 0 else 2) else u3 h
def zms (h:Hist) (n:Int):List Seen:=if zd7 h n=0 then yfx h (evD h.evs n) n.toNat else []
theorem ypp {h:Hist} {n:Int} (hc:u3 h≠0):zd7 h n=u3 h∧zms h n= []:=by
 have e:zd7 h n=u3 h:=by rw [zd7,if_neg hc]
 exact ⟨e,by rw [zms,e,if_neg hc]⟩
theorem ypo {h:Hist} {n:Int} (hc:u3 h=0) (hn:¬(0≤n∧n < h.evs.length∧(evD h.evs n).kind=4)):zd7 h n=2∧zms h n= []:=by
 have e:zd7 h n=2:=by rw [zd7,if_pos hc,if_neg hn]
 exact ⟨e,by rw [zms,e];rfl⟩
theorem ypn {h:Hist} {a:Nat} (hc:u3 h=0) (ha:a < h.evs.length) (h4:h.evs[a].kind=4):zd7 h a=0∧zms h a=(upR h.os.length).map (yd9 h.evs h.evs[a].t h.evs[a].scan a):=by
 have e:zd7 h a=0:=by rw [zd7,if_pos hc,if_pos ⟨by omega,by omega,by rw [zt9 ha];exact h4⟩]
 exact ⟨e,by rw [zms,e,if_pos rfl,zt9 ha,Int.toNat_natCast];rfl⟩
set_option maxRecDepth 10000
instance:EqInts Tryz.prog 41 7:=⟨by kernel_rfl,fun w xs ys h1 h2=>match xs,ys,h1,h2 with
 | [a0,a1,a2,a3,a4,a5,a6],[c0,c1,c2,c3,c4,c5,c6],_,_=>by
   rw [run_equalIn_struct w 9999 41 _ _ (by kernel_rfl) (by kernel_rfl)]
   simp only [Program.fieldsOf,Tryz.underlying41]
   simp [Op.eqFields,part,run_equalIn_int _ 9998 3 .i64 .i64 _ _ Tryz.underlying3]
   by_cases h0:a0=c0
   case neg=>simp [h0]
   subst h0
   by_cases h1:a1=c1
   case neg=>simp [h1]
   subst h1
   by_cases h2:a2=c2
   case neg=>simp [h2]
   subst h2
   by_cases h3:a3=c3
   case neg=>simp [h3]
   subst h3
   by_cases h4:a4=c4
   case neg=>simp [h4]
   subst h4
   by_cases h5:a5=c5
   case neg=>simp [h5]
   subst h5
   by_cases h6:a6=c6
   case neg=>simp [h6]
   subst h6
   simp⟩
end Go.Proofs
namespace Go.Ab
open Go
end Go.Ab
set_option maxRecDepth 10000
namespace Go.Proofs
open Go Go.Ab
attribute [local irreducible] QR QV OE zb7 aw zcp zb6 zbf zat thn zey zc1 jch zeo
open Go.H
theorem ylp (a:Int):y8 Tryz.prog 204 [iv a] [] (fun r h'=>h'= []∧r=bv false):=by
 refine z6 Tryz.func204 rfl rfl rfl ?_
 refine rn ?_;refine rq 0 ?_
 exact ⟨rfl,congrArg bv (bne_self_eq_false a)⟩
def ye3 (a b:Int):Int:=if a < b then -1 else if b < a then 1 else 0
theorem zqt (a b:Int) (l m:List Int):zfj (a::l) (b::m)=if ye3 a b=0 then zfj l m else ye3 a b:=by
 rw [zfj,ye3]
 by_cases h1:a < b
 ·rw [if_pos h1,if_pos h1];rfl
 ·rw [if_neg h1,if_neg h1]
  by_cases h2:b < a
  ·rw [if_pos h2,if_pos h2];rfl
  ·rw [if_neg h2,if_neg h2];rfl
theorem zv4:∀(l:List Int),l≠ []→zfj l []=1
 | [],h=>absurd rfl h
 |_::_,_=>rfl
theorem zv5:∀(l:List Int),l≠ []→zfj [] l= -1
 | [],h=>absurd rfl h
 |_::_,_=>rfl
theorem ymk (a b:Int):y8 Tryz.prog 144 [iv a,iv b] [] (fun r h'=>h'= []∧r=iv (ye3 a b)):=by
 refine z6 Tryz.func144 rfl rfl rfl ?_
 refine rn ?_;refine qv rfl rfl (y4 rfl rfl (zbl (ylp _) (Sbs.refl _))) ?_
 refine rn ?_;refine qv rfl rfl (y4 rfl rfl (zbl (ylp _) (Sbs.refl _))) ?_
 refine rn ?_;refine z8 rfl (fun hc11=> ?_) (fun hc11=> ?_)
 ·exact absurd hc11 (by decide)
 ·refine rn ?_;refine z8 rfl (fun hc13=> ?_) (fun hc13=> ?_)
  ·exact absurd hc13 (by decide)
  ·refine rn ?_;refine z8 rfl (fun hc16=> ?_) (fun hc16=> ?_)
   ·refine rn ?_;refine rq 0 ?_
    exact ⟨rfl,congrArg iv (by rw [ye3,if_pos (oT hc16)])⟩
   ·refine rn ?_;refine z8 rfl (fun hc19=> ?_) (fun hc19=> ?_)
    ·refine rn ?_;refine rq 0 ?_
     exact ⟨rfl,congrArg iv (by rw [ye3,if_neg (oF hc16),if_pos (oT hc19)])⟩
    ·refine rn ?_;refine rq 0 ?_
     exact ⟨rfl,congrArg iv (by rw [ye3,if_neg (oF hc16),if_neg (oF hc19)])⟩
theorem zw0 {f g:Bool} (l m:List Int) (hl:l.length≤4611686018427387904) (hm:m.length≤4611686018427387904):y8 Tryz.prog 96 [.list f 1 (l.map zbo),.list g 1 (m.map zbo)] [] (fun r h'=>h'= []∧r=iv (zfj l m)):=by
 refine z6 Tryz.func96 rfl rfl rfl ?_
 refine rn ?_;refine zq1 (l.length) (fun k:Nat=>k≤m.length∧zfj l m=zfj (l.drop k) (m.drop k)) (fun k=> [(11,iv k)]) [(0,_),(1,_),(9,_),(10,_)] ⟨Nat.zero_le _,rfl⟩ ?_
 rintro k lk ⟨km,zk⟩
 refine rn ?_;refine z8 rfl (fun hc12=> ?_) (fun hc12=> ?_)
 ·have hk:=zd2 hc12
  have rk:=zcb (f:=zbo) hk
  refine rn ?_;refine z8 rfl (fun hc19=> ?_) (fun hc19=> ?_)
  ·have q:=oT hc19
   rw [oM] at q
   have qm:k=m.length:=by omega
   refine rn ?_;refine rq 0 ?_
   exact ⟨rfl,congrArg iv (by rw [zk,qm,List.drop_length,zv4 _ (by rw [List.drop_eq_getElem_cons (by omega)];exact List.cons_ne_nil _ _)])⟩
  ·have q:=oF hc19
   rw [oM] at q
   have hkm:k < m.length:=by omega
   have rm:=zcb (f:=zbo) hkm
   refine rn ?_;refine qv rfl rfl (y4 rfl rfl (zbl (ymk l[k] m[k]) (Sbs.refl _))) ?_
   refine rn ?_;refine z8 rfl (fun hc28=> ?_) (fun hc28=> ?_)
   ·have hn:¬ye3 l[k] m[k]=0:=by simpa using hc28
    refine rn ?_;refine rq 0 ?_
    exact ⟨rfl,congrArg iv (by rw [zk,List.drop_eq_getElem_cons hk,List.drop_eq_getElem_cons hkm,zqt,if_neg hn])⟩
   ·refine rn ?_;exact ⟨hk,⟨hkm,by rw [zk,List.drop_eq_getElem_cons hk,List.drop_eq_getElem_cons hkm,zqt,if_pos (by simpa using hc28)]⟩,eA⟩
 ·have qk:=zd4 hc12 lk
  refine rn ?_;refine z8 rfl (fun hc35=> ?_) (fun hc35=> ?_)
  ·have q:=oT hc35
   rw [oM,oM] at q
   refine rn ?_;refine rq 0 ?_
   exact ⟨rfl,congrArg iv (by rw [zk,qk,List.drop_length,zv5 _ (by rw [List.drop_eq_getElem_cons (by omega)];exact List.cons_ne_nil _ _)])⟩
  ·have q:=oF hc35
   rw [oM,oM] at q
   have qm:k=m.length:=by omega
   refine rn ?_;refine rq 0 ?_
   exact ⟨rfl,congrArg iv (by rw [zk,List.drop_eq_nil_of_le (by omega),List.drop_eq_nil_of_le (by omega)];rfl)⟩
def zih (a b:Conf):Bool:=([a.f,a.t,a.k,a.a,a.b,a.o,a.p]:List Int)== [b.f,b.t,b.k,b.a,b.b,b.o,b.p]
theorem zig (a b:Conf):zih a b=decide (a=b):=by
 rw [zih,Bool.eq_iff_iff,decide_eq_true_iff]
 obtain ⟨a1,a2,a3,a4,a5,a6,a7⟩:=a
 obtain ⟨b1,b2,b3,b4,b5,b6,b7⟩:=b
 simp
theorem zs2 (c:Conf):y8 Tryz.prog 95 [.agg (j5 c)] [] (fun r h'=>h'= []∧r= .agg (j5 c)):=by
 refine z6 Tryz.func95 rfl rfl rfl ?_
 refine rn ?_;refine z7 rfl (w7 rfl rfl rfl fun b1=> ?_)
 refine z7 rfl (y6 rfl fun b2=> ?_)
 refine j6 (zan ?_)
 refine w8 (y7 ?_)
 refine q1 ?_;refine q1 ?_;refine q1 ?_;refine q1 ?_;refine q1 ?_;refine q1 ?_;refine q1 ?_;refine q1 ?_;refine q1 ?_;refine q1 ?_;refine q1 ?_;refine q1 ?_;refine q1 ?_;refine q1 ?_;refine qq rfl rfl (zcz (out:=j5 c) rfl (by rfl)) ?_
 refine rn ?_;exact zd0 (.cons _ _ _ _ (.agg _ _ _ _ _ _ _ rfl inferInstance inferInstance inferInstance rfl) .nil) (.drop [_,_] _ _) ⟨rfl,rfl⟩
theorem zht (a b:Conf):y8 Tryz.prog 39 [.agg (j5 a),.agg (j5 b)] [] (fun r h'=>h'= []∧r=iv (zet a b)):=by
 refine z6 Tryz.func39 rfl rfl rfl ?_
 refine rn ?_;refine z7 rfl (w7 rfl rfl rfl fun b2=> ?_)
 refine z7 rfl (w7 rfl rfl rfl fun b3=> ?_)
 refine rn ?_;refine z8 rfl (fun hc9=> ?_) (fun hc9=> ?_)
 ·have he:a=b:=oT (by rw [←zig];exact hc9)
  refine rn ?_;refine rq 2 ?_
  exact ⟨rfl,congrArg iv (by rw [he,zik])⟩
 ·refine rn ?_;refine zaf 6 rfl ?_
  refine rn ?_;refine dv rfl rfl (by exact y4 rfl rfl (zbl (zs2 a) (Sbs.refl _))) ?_
  refine rn ?_;refine dv rfl rfl (by exact y4 rfl rfl (zbl (zs2 b) (Sbs.refl _))) ?_
  refine rn ?_;refine zuc rfl fun b5=> ?_
  refine zuc rfl fun b6=> ?_
  refine rn ?_;refine zaf 2 rfl ?_
  refine dq rfl rfl (zjk rfl) ?_
  refine dq rfl rfl (zjk rfl) ?_
  refine rn2 ?_;refine zut b5 ?_
  refine zut b6 ?_
  show zb7 _ _ _ _ _ _ ⟨_,.row (yjc b6 7) 1 124 ((zwi b).map zbo):: .row (yjc b5 7) 1 124 ((zwi a).map zbo):: .box b3 41 (j5 b):: .box b2 41 (j5 a):: [],_⟩
  refine qv rfl rfl (y4 rfl rfl (y0.lend (R:=fun x=>x=iv (zet a b)) (y0.of_fun (zw0 (zwi a) (zwi b) (by show 7≤4611686018427387904;decide) (by show 7≤4611686018427387904;decide))) (fun r hr=>by rw [hr];rfl) (.refl _ _) (by exact ⟨zl3,zl3,trivial⟩))) ?_
  refine rn ?_;refine rq 4 ?_
  exact ⟨rfl,rfl⟩
end Go.Proofs
