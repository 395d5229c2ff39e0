/- The decoding of runes. Conditions: none. -/
import Derived.Test.YtfmcbdjnmlcacaaGreatDoorRScG
set_option maxHeartbeats 4000000
set_option linter.unusedSectionVars false
set_option linter.unusedSimpArgs false
set_option linter.unusedVariables false
set_option maxRecDepth 10000
namespace Go.Proofs
open Go Go.Ab
attribute [local irreducible] QR QV OE zb7 aw zcq zb6 zbd zas thn zev
open Go.H
theorem zol (s:ByteArray) (hx:zcf (bt s 0).toNat=240):y8 Tryz.prog 284 [.v (.string s)] [.glob 4 305 y3,.glob 5 308 y1] (fun r h'=>h'= [.glob 4 305 y3,.glob 5 308 y1]∧r= .tup [.v (.int .i32 (y5 s).1),iv (y5 s).2]):=by
 refine z6 Tryz.func284 rfl rfl rfl ?_
 refine rn ?_;refine y0 rfl (fun hc16=> ?_) (fun hc16=> ?_)
 ·refine rn ?_;have hd:y5 s=(65533,0):=by
   unfold y5
   rw [if_pos (by simp at hc16;omega)]
  exact zbp rfl rfl (.refl _ _) ⟨rfl,by rw [hd];rfl⟩
 ·have h1:0 < s.size:=by simp at hc16;omega
  refine rn ?_;refine qq rfl rfl (u7 0 rfl rfl (by omega)) ?_
  refine rn ?_;refine qq rfl rfl (j6 rfl rfl (zfo _ _) (zfn _ _)) ?_
  refine qq rfl rfl (zac rfl (show _=some (.v (.int .u8 240)) from by rw [zci (zfo s 0) (zfn s 0),hx])) ?_
  refine rn ?_;refine y0 rfl (fun hc23=> ?_) (fun hc23=> ?_)
  ·refine rn ?_;refine qq rfl rfl (u7 0 rfl rfl (by omega)) ?_
   refine rn ?_;have hd:y5 s=(bI .or .i32 (bI .andNot .i32 (IntKind.i32.wrap (bt s 0)) (zi4 240)) (bI .and .i32 65533 (zi4 240)),1):=by
    unfold y5
    rw [if_neg (by omega)]
    simp only [hx]
    rw [if_pos (by decide)]
   exact zbp rfl rfl (.refl _ _) ⟨rfl,by rw [hd];rfl⟩
  ·first|cases hc23|exact absurd hc23 (by decide)|(exfalso;simp_all;done)
theorem zok (s:ByteArray) (hx:zcf (bt s 0).toNat=241):y8 Tryz.prog 284 [.v (.string s)] [.glob 4 305 y3,.glob 5 308 y1] (fun r h'=>h'= [.glob 4 305 y3,.glob 5 308 y1]∧r= .tup [.v (.int .i32 (y5 s).1),iv (y5 s).2]):=by
 refine z6 Tryz.func284 rfl rfl rfl ?_
 refine rn ?_;refine y0 rfl (fun hc16=> ?_) (fun hc16=> ?_)
 ·refine rn ?_;have hd:y5 s=(65533,0):=by
   unfold y5
   rw [if_pos (by simp at hc16;omega)]
  exact zbp rfl rfl (.refl _ _) ⟨rfl,by rw [hd];rfl⟩
 ·have h1:0 < s.size:=by simp at hc16;omega
  refine rn ?_;refine qq rfl rfl (u7 0 rfl rfl (by omega)) ?_
  refine rn ?_;refine qq rfl rfl (j6 rfl rfl (zfo _ _) (zfn _ _)) ?_
  refine qq rfl rfl (zac rfl (show _=some (.v (.int .u8 241)) from by rw [zci (zfo s 0) (zfn s 0),hx])) ?_
  refine rn ?_;refine y0 rfl (fun hc23=> ?_) (fun hc23=> ?_)
  ·refine rn ?_;refine qq rfl rfl (u7 0 rfl rfl (by omega)) ?_
   refine rn ?_;have hd:y5 s=(bI .or .i32 (bI .andNot .i32 (IntKind.i32.wrap (bt s 0)) (zi4 241)) (bI .and .i32 65533 (zi4 241)),1):=by
    unfold y5
    rw [if_neg (by omega)]
    simp only [hx]
    rw [if_pos (by decide)]
   exact zbp rfl rfl (.refl _ _) ⟨rfl,by rw [hd];rfl⟩
  ·first|cases hc23|exact absurd hc23 (by decide)|(exfalso;simp_all;done)
theorem zsq (s:ByteArray) (hx:zcf (bt s 0).toNat=2):y8 Tryz.prog 284 [.v (.string s)] [.glob 4 305 y3,.glob 5 308 y1] (fun r h'=>h'= [.glob 4 305 y3,.glob 5 308 y1]∧r= .tup [.v (.int .i32 (y5 s).1),iv (y5 s).2]):=by
 refine z6 Tryz.func284 rfl rfl rfl ?_
 refine rn ?_;refine y0 rfl (fun hc16=> ?_) (fun hc16=> ?_)
 ·refine rn ?_;have hd:y5 s=(65533,0):=by
   unfold y5
   rw [if_pos (by simp at hc16;omega)]
  exact zbp rfl rfl (.refl _ _) ⟨rfl,by rw [hd];rfl⟩
 ·have h1:0 < s.size:=by simp at hc16;omega
  refine rn ?_;refine qq rfl rfl (u7 0 rfl rfl (by omega)) ?_
  refine rn ?_;refine qq rfl rfl (j6 rfl rfl (zfo _ _) (zfn _ _)) ?_
  refine qq rfl rfl (zac rfl (show _=some (.v (.int .u8 2)) from by rw [zci (zfo s 0) (zfn s 0),hx])) ?_
  refine rn ?_;refine y0 rfl (fun hc23=> ?_) (fun hc23=> ?_)
  ·first|cases hc23|exact absurd hc23 (by decide)|(exfalso;simp_all;done)
  ·refine rn ?_;refine qq rfl rfl (j6 rfl rfl (by decide) (by decide)) ?_
   refine rn ?_;refine z7 rfl (y7 rfl fun b9=> ?_)
   refine rn ?_;refine y0 rfl (fun hc45=> ?_) (fun hc45=> ?_)
   ·refine rn ?_;have hd:y5 s=(65533,1):=by
     unfold y5
     rw [if_neg (by omega)]
     simp only [hx]
     rw [if_neg (by decide),if_pos (show (s.size:Int) < (2:Int) % 8 from oT hc45)]
    exact zbp rfl rfl (.drop1 _ _ _) ⟨rfl,by rw [hd];rfl⟩
   ·have h2:2≤s.size:=by
     have:¬((s.size:Int) < 2):=oF hc45
     omega
    refine rn ?_;refine qq rfl rfl (u7 1 rfl rfl (by omega)) ?_
    refine rn ?_;refine u6 (fun hg14_4=> ?_) (fun hg14_4=> ?_)
    ·refine rn ?_;refine y0 rfl (fun hc57=> ?_) (fun hc57=> ?_)
     ·refine rn ?_;have hd:y5 s=(65533,1):=by
       unfold y5
       rw [if_neg (by omega)]
       simp only [hx]
       rw [if_neg (by decide),if_neg (show ¬(s.size:Int) < (2:Int) % 8 from oF hc45),if_pos (show bt s 1 < zbz ((2:Int) / 16).toNat∨zb0 ((2:Int) / 16).toNat < bt s 1 from by first|exact .inl (oT hg14_4)|exact .inr (oT hc57))]
      exact zbp rfl rfl (.drop1 _ _ _) ⟨rfl,by rw [hd];rfl⟩
     ·first|cases hc57|exact absurd hc57 (by decide)|(exfalso;simp_all;done)
    ·refine rn ?_;refine y0 rfl (fun hc57=> ?_) (fun hc57=> ?_)
     ·refine rn ?_;have hd:y5 s=(65533,1):=by
       unfold y5
       rw [if_neg (by omega)]
       simp only [hx]
       rw [if_neg (by decide),if_neg (show ¬(s.size:Int) < (2:Int) % 8 from oF hc45),if_pos (show bt s 1 < zbz ((2:Int) / 16).toNat∨zb0 ((2:Int) / 16).toNat < bt s 1 from by first|exact .inl (oT hg14_4)|exact .inr (oT hc57))]
      exact zbp rfl rfl (.drop1 _ _ _) ⟨rfl,by rw [hd];rfl⟩
     ·refine rn ?_;refine y0 rfl (fun hc59=> ?_) (fun hc59=> ?_)
      ·refine rn ?_;have hd:y5 s=(bI .or .i32 (zcm (bt s 0) 31 6) (zcm (bt s 1) 63 0),2):=by
        unfold y5
        rw [if_neg (by omega)]
        simp only [hx]
        rw [if_neg (by decide),if_neg (show ¬(s.size:Int) < (2:Int) % 8 from oF hc45),if_neg (show ¬(bt s 1 < zbz ((2:Int) / 16).toNat∨zb0 ((2:Int) / 16).toNat < bt s 1) from fun q=>q.elim (oF hg14_4) (oF hc57)),if_pos (by decide)]
       exact zbp rfl rfl (.drop1 _ _ _) ⟨rfl,by rw [hd];rfl⟩
      ·first|cases hc59|exact absurd hc59 (by decide)|(exfalso;simp_all;done)
theorem zqg (s:ByteArray) (hx:zcf (bt s 0).toNat=19):y8 Tryz.prog 284 [.v (.string s)] [.glob 4 305 y3,.glob 5 308 y1] (fun r h'=>h'= [.glob 4 305 y3,.glob 5 308 y1]∧r= .tup [.v (.int .i32 (y5 s).1),iv (y5 s).2]):=by
 refine z6 Tryz.func284 rfl rfl rfl ?_
 refine rn ?_;refine y0 rfl (fun hc16=> ?_) (fun hc16=> ?_)
 ·refine rn ?_;have hd:y5 s=(65533,0):=by
   unfold y5
   rw [if_pos (by simp at hc16;omega)]
  exact zbp rfl rfl (.refl _ _) ⟨rfl,by rw [hd];rfl⟩
 ·have h1:0 < s.size:=by simp at hc16;omega
  refine rn ?_;refine qq rfl rfl (u7 0 rfl rfl (by omega)) ?_
  refine rn ?_;refine qq rfl rfl (j6 rfl rfl (zfo _ _) (zfn _ _)) ?_
  refine qq rfl rfl (zac rfl (show _=some (.v (.int .u8 19)) from by rw [zci (zfo s 0) (zfn s 0),hx])) ?_
  refine rn ?_;refine y0 rfl (fun hc23=> ?_) (fun hc23=> ?_)
  ·first|cases hc23|exact absurd hc23 (by decide)|(exfalso;simp_all;done)
  ·refine rn ?_;refine qq rfl rfl (j6 rfl rfl (by decide) (by decide)) ?_
   refine rn ?_;refine z7 rfl (y7 rfl fun b9=> ?_)
   refine rn ?_;refine y0 rfl (fun hc45=> ?_) (fun hc45=> ?_)
   ·refine rn ?_;have hd:y5 s=(65533,1):=by
     unfold y5
     rw [if_neg (by omega)]
     simp only [hx]
     rw [if_neg (by decide),if_pos (show (s.size:Int) < (19:Int) % 8 from oT hc45)]
    exact zbp rfl rfl (.drop1 _ _ _) ⟨rfl,by rw [hd];rfl⟩
   ·have h2:3≤s.size:=by
     have:¬((s.size:Int) < 3):=oF hc45
     omega
    refine rn ?_;refine qq rfl rfl (u7 1 rfl rfl (by omega)) ?_
    refine rn ?_;refine u6 (fun hg14_4=> ?_) (fun hg14_4=> ?_)
    ·refine rn ?_;refine y0 rfl (fun hc57=> ?_) (fun hc57=> ?_)
     ·refine rn ?_;have hd:y5 s=(65533,1):=by
       unfold y5
       rw [if_neg (by omega)]
       simp only [hx]
       rw [if_neg (by decide),if_neg (show ¬(s.size:Int) < (19:Int) % 8 from oF hc45),if_pos (show bt s 1 < zbz ((19:Int) / 16).toNat∨zb0 ((19:Int) / 16).toNat < bt s 1 from by first|exact .inl (oT hg14_4)|exact .inr (oT hc57))]
      exact zbp rfl rfl (.drop1 _ _ _) ⟨rfl,by rw [hd];rfl⟩
     ·first|cases hc57|exact absurd hc57 (by decide)|(exfalso;simp_all;done)
    ·refine rn ?_;refine y0 rfl (fun hc57=> ?_) (fun hc57=> ?_)
     ·refine rn ?_;have hd:y5 s=(65533,1):=by
       unfold y5
       rw [if_neg (by omega)]
       simp only [hx]
       rw [if_neg (by decide),if_neg (show ¬(s.size:Int) < (19:Int) % 8 from oF hc45),if_pos (show bt s 1 < zbz ((19:Int) / 16).toNat∨zb0 ((19:Int) / 16).toNat < bt s 1 from by first|exact .inl (oT hg14_4)|exact .inr (oT hc57))]
      exact zbp rfl rfl (.drop1 _ _ _) ⟨rfl,by rw [hd];rfl⟩
     ·refine rn ?_;refine y0 rfl (fun hc59=> ?_) (fun hc59=> ?_)
      ·first|cases hc59|exact absurd hc59 (by decide)|(exfalso;simp_all;done)
      ·refine rn ?_;refine qq rfl rfl (u7 2 rfl rfl (by omega)) ?_
       refine rn ?_;refine u6 (fun hg19_2=> ?_) (fun hg19_2=> ?_)
       ·refine rn ?_;refine y0 rfl (fun hc75=> ?_) (fun hc75=> ?_)
        ·refine rn ?_;have hd:y5 s=(65533,1):=by
          unfold y5
          rw [if_neg (by omega)]
          simp only [hx]
          rw [if_neg (by decide),if_neg (show ¬(s.size:Int) < (19:Int) % 8 from oF hc45),if_neg (show ¬(bt s 1 < zbz ((19:Int) / 16).toNat∨zb0 ((19:Int) / 16).toNat < bt s 1) from fun q=>q.elim (oF hg14_4) (oF hc57)),if_neg (by decide),if_pos (show bt s 2 < 128∨191 < bt s 2 from by first|exact .inl (oT hg19_2)|exact .inr (oT hc75))]
         exact zbp rfl rfl (.drop1 _ _ _) ⟨rfl,by rw [hd];rfl⟩
        ·first|cases hc75|exact absurd hc75 (by decide)|(exfalso;simp_all;done)
       ·refine rn ?_;refine y0 rfl (fun hc75=> ?_) (fun hc75=> ?_)
        ·refine rn ?_;have hd:y5 s=(65533,1):=by
          unfold y5
          rw [if_neg (by omega)]
          simp only [hx]
          rw [if_neg (by decide),if_neg (show ¬(s.size:Int) < (19:Int) % 8 from oF hc45),if_neg (show ¬(bt s 1 < zbz ((19:Int) / 16).toNat∨zb0 ((19:Int) / 16).toNat < bt s 1) from fun q=>q.elim (oF hg14_4) (oF hc57)),if_neg (by decide),if_pos (show bt s 2 < 128∨191 < bt s 2 from by first|exact .inl (oT hg19_2)|exact .inr (oT hc75))]
         exact zbp rfl rfl (.drop1 _ _ _) ⟨rfl,by rw [hd];rfl⟩
        ·refine rn ?_;refine y0 rfl (fun hc77=> ?_) (fun hc77=> ?_)
         ·refine rn ?_;have hd:y5 s=(bI .or .i32 (bI .or .i32 (zcm (bt s 0) 15 12) (zcm (bt s 1) 63 6)) (zcm (bt s 2) 63 0),3):=by
           unfold y5
           rw [if_neg (by omega)]
           simp only [hx]
           rw [if_neg (by decide),if_neg (show ¬(s.size:Int) < (19:Int) % 8 from oF hc45),if_neg (show ¬(bt s 1 < zbz ((19:Int) / 16).toNat∨zb0 ((19:Int) / 16).toNat < bt s 1) from fun q=>q.elim (oF hg14_4) (oF hc57)),if_neg (by decide),if_neg (show ¬(bt s 2 < 128∨191 < bt s 2) from fun q=>q.elim (oF hg19_2) (oF hc75)),if_pos (by decide)]
          exact zbp rfl rfl (.drop1 _ _ _) ⟨rfl,by rw [hd];rfl⟩
         ·first|cases hc77|exact absurd hc77 (by decide)|(exfalso;simp_all;done)
theorem zsp (s:ByteArray) (hx:zcf (bt s 0).toNat=3):y8 Tryz.prog 284 [.v (.string s)] [.glob 4 305 y3,.glob 5 308 y1] (fun r h'=>h'= [.glob 4 305 y3,.glob 5 308 y1]∧r= .tup [.v (.int .i32 (y5 s).1),iv (y5 s).2]):=by
 refine z6 Tryz.func284 rfl rfl rfl ?_
 refine rn ?_;refine y0 rfl (fun hc16=> ?_) (fun hc16=> ?_)
 ·refine rn ?_;have hd:y5 s=(65533,0):=by
   unfold y5
   rw [if_pos (by simp at hc16;omega)]
  exact zbp rfl rfl (.refl _ _) ⟨rfl,by rw [hd];rfl⟩
 ·have h1:0 < s.size:=by simp at hc16;omega
  refine rn ?_;refine qq rfl rfl (u7 0 rfl rfl (by omega)) ?_
  refine rn ?_;refine qq rfl rfl (j6 rfl rfl (zfo _ _) (zfn _ _)) ?_
  refine qq rfl rfl (zac rfl (show _=some (.v (.int .u8 3)) from by rw [zci (zfo s 0) (zfn s 0),hx])) ?_
  refine rn ?_;refine y0 rfl (fun hc23=> ?_) (fun hc23=> ?_)
  ·first|cases hc23|exact absurd hc23 (by decide)|(exfalso;simp_all;done)
  ·refine rn ?_;refine qq rfl rfl (j6 rfl rfl (by decide) (by decide)) ?_
   refine rn ?_;refine z7 rfl (y7 rfl fun b9=> ?_)
   refine rn ?_;refine y0 rfl (fun hc45=> ?_) (fun hc45=> ?_)
   ·refine rn ?_;have hd:y5 s=(65533,1):=by
     unfold y5
     rw [if_neg (by omega)]
     simp only [hx]
     rw [if_neg (by decide),if_pos (show (s.size:Int) < (3:Int) % 8 from oT hc45)]
    exact zbp rfl rfl (.drop1 _ _ _) ⟨rfl,by rw [hd];rfl⟩
   ·have h2:3≤s.size:=by
     have:¬((s.size:Int) < 3):=oF hc45
     omega
    refine rn ?_;refine qq rfl rfl (u7 1 rfl rfl (by omega)) ?_
    refine rn ?_;refine u6 (fun hg14_4=> ?_) (fun hg14_4=> ?_)
    ·refine rn ?_;refine y0 rfl (fun hc57=> ?_) (fun hc57=> ?_)
     ·refine rn ?_;have hd:y5 s=(65533,1):=by
       unfold y5
       rw [if_neg (by omega)]
       simp only [hx]
       rw [if_neg (by decide),if_neg (show ¬(s.size:Int) < (3:Int) % 8 from oF hc45),if_pos (show bt s 1 < zbz ((3:Int) / 16).toNat∨zb0 ((3:Int) / 16).toNat < bt s 1 from by first|exact .inl (oT hg14_4)|exact .inr (oT hc57))]
      exact zbp rfl rfl (.drop1 _ _ _) ⟨rfl,by rw [hd];rfl⟩
     ·first|cases hc57|exact absurd hc57 (by decide)|(exfalso;simp_all;done)
    ·refine rn ?_;refine y0 rfl (fun hc57=> ?_) (fun hc57=> ?_)
     ·refine rn ?_;have hd:y5 s=(65533,1):=by
       unfold y5
       rw [if_neg (by omega)]
       simp only [hx]
       rw [if_neg (by decide),if_neg (show ¬(s.size:Int) < (3:Int) % 8 from oF hc45),if_pos (show bt s 1 < zbz ((3:Int) / 16).toNat∨zb0 ((3:Int) / 16).toNat < bt s 1 from by first|exact .inl (oT hg14_4)|exact .inr (oT hc57))]
      exact zbp rfl rfl (.drop1 _ _ _) ⟨rfl,by rw [hd];rfl⟩
     ·refine rn ?_;refine y0 rfl (fun hc59=> ?_) (fun hc59=> ?_)
      ·first|cases hc59|exact absurd hc59 (by decide)|(exfalso;simp_all;done)
      ·refine rn ?_;refine qq rfl rfl (u7 2 rfl rfl (by omega)) ?_
       refine rn ?_;refine u6 (fun hg19_2=> ?_) (fun hg19_2=> ?_)
       ·refine rn ?_;refine y0 rfl (fun hc75=> ?_) (fun hc75=> ?_)
        ·refine rn ?_;have hd:y5 s=(65533,1):=by
          unfold y5
          rw [if_neg (by omega)]
          simp only [hx]
          rw [if_neg (by decide),if_neg (show ¬(s.size:Int) < (3:Int) % 8 from oF hc45),if_neg (show ¬(bt s 1 < zbz ((3:Int) / 16).toNat∨zb0 ((3:Int) / 16).toNat < bt s 1) from fun q=>q.elim (oF hg14_4) (oF hc57)),if_neg (by decide),if_pos (show bt s 2 < 128∨191 < bt s 2 from by first|exact .inl (oT hg19_2)|exact .inr (oT hc75))]
         exact zbp rfl rfl (.drop1 _ _ _) ⟨rfl,by rw [hd];rfl⟩
        ·first|cases hc75|exact absurd hc75 (by decide)|(exfalso;simp_all;done)
       ·refine rn ?_;refine y0 rfl (fun hc75=> ?_) (fun hc75=> ?_)
        ·refine rn ?_;have hd:y5 s=(65533,1):=by
          unfold y5
          rw [if_neg (by omega)]
          simp only [hx]
          rw [if_neg (by decide),if_neg (show ¬(s.size:Int) < (3:Int) % 8 from oF hc45),if_neg (show ¬(bt s 1 < zbz ((3:Int) / 16).toNat∨zb0 ((3:Int) / 16).toNat < bt s 1) from fun q=>q.elim (oF hg14_4) (oF hc57)),if_neg (by decide),if_pos (show bt s 2 < 128∨191 < bt s 2 from by first|exact .inl (oT hg19_2)|exact .inr (oT hc75))]
         exact zbp rfl rfl (.drop1 _ _ _) ⟨rfl,by rw [hd];rfl⟩
        ·refine rn ?_;refine y0 rfl (fun hc77=> ?_) (fun hc77=> ?_)
         ·refine rn ?_;have hd:y5 s=(bI .or .i32 (bI .or .i32 (zcm (bt s 0) 15 12) (zcm (bt s 1) 63 6)) (zcm (bt s 2) 63 0),3):=by
           unfold y5
           rw [if_neg (by omega)]
           simp only [hx]
           rw [if_neg (by decide),if_neg (show ¬(s.size:Int) < (3:Int) % 8 from oF hc45),if_neg (show ¬(bt s 1 < zbz ((3:Int) / 16).toNat∨zb0 ((3:Int) / 16).toNat < bt s 1) from fun q=>q.elim (oF hg14_4) (oF hc57)),if_neg (by decide),if_neg (show ¬(bt s 2 < 128∨191 < bt s 2) from fun q=>q.elim (oF hg19_2) (oF hc75)),if_pos (by decide)]
          exact zbp rfl rfl (.drop1 _ _ _) ⟨rfl,by rw [hd];rfl⟩
         ·first|cases hc77|exact absurd hc77 (by decide)|(exfalso;simp_all;done)
theorem zqf (s:ByteArray) (hx:zcf (bt s 0).toNat=35):y8 Tryz.prog 284 [.v (.string s)] [.glob 4 305 y3,.glob 5 308 y1] (fun r h'=>h'= [.glob 4 305 y3,.glob 5 308 y1]∧r= .tup [.v (.int .i32 (y5 s).1),iv (y5 s).2]):=by
 refine z6 Tryz.func284 rfl rfl rfl ?_
 refine rn ?_;refine y0 rfl (fun hc16=> ?_) (fun hc16=> ?_)
 ·refine rn ?_;have hd:y5 s=(65533,0):=by
   unfold y5
   rw [if_pos (by simp at hc16;omega)]
  exact zbp rfl rfl (.refl _ _) ⟨rfl,by rw [hd];rfl⟩
 ·have h1:0 < s.size:=by simp at hc16;omega
  refine rn ?_;refine qq rfl rfl (u7 0 rfl rfl (by omega)) ?_
  refine rn ?_;refine qq rfl rfl (j6 rfl rfl (zfo _ _) (zfn _ _)) ?_
  refine qq rfl rfl (zac rfl (show _=some (.v (.int .u8 35)) from by rw [zci (zfo s 0) (zfn s 0),hx])) ?_
  refine rn ?_;refine y0 rfl (fun hc23=> ?_) (fun hc23=> ?_)
  ·first|cases hc23|exact absurd hc23 (by decide)|(exfalso;simp_all;done)
  ·refine rn ?_;refine qq rfl rfl (j6 rfl rfl (by decide) (by decide)) ?_
   refine rn ?_;refine z7 rfl (y7 rfl fun b9=> ?_)
   refine rn ?_;refine y0 rfl (fun hc45=> ?_) (fun hc45=> ?_)
   ·refine rn ?_;have hd:y5 s=(65533,1):=by
     unfold y5
     rw [if_neg (by omega)]
     simp only [hx]
     rw [if_neg (by decide),if_pos (show (s.size:Int) < (35:Int) % 8 from oT hc45)]
    exact zbp rfl rfl (.drop1 _ _ _) ⟨rfl,by rw [hd];rfl⟩
   ·have h2:3≤s.size:=by
     have:¬((s.size:Int) < 3):=oF hc45
     omega
    refine rn ?_;refine qq rfl rfl (u7 1 rfl rfl (by omega)) ?_
    refine rn ?_;refine u6 (fun hg14_4=> ?_) (fun hg14_4=> ?_)
    ·refine rn ?_;refine y0 rfl (fun hc57=> ?_) (fun hc57=> ?_)
     ·refine rn ?_;have hd:y5 s=(65533,1):=by
       unfold y5
       rw [if_neg (by omega)]
       simp only [hx]
       rw [if_neg (by decide),if_neg (show ¬(s.size:Int) < (35:Int) % 8 from oF hc45),if_pos (show bt s 1 < zbz ((35:Int) / 16).toNat∨zb0 ((35:Int) / 16).toNat < bt s 1 from by first|exact .inl (oT hg14_4)|exact .inr (oT hc57))]
      exact zbp rfl rfl (.drop1 _ _ _) ⟨rfl,by rw [hd];rfl⟩
     ·first|cases hc57|exact absurd hc57 (by decide)|(exfalso;simp_all;done)
    ·refine rn ?_;refine y0 rfl (fun hc57=> ?_) (fun hc57=> ?_)
     ·refine rn ?_;have hd:y5 s=(65533,1):=by
       unfold y5
       rw [if_neg (by omega)]
       simp only [hx]
       rw [if_neg (by decide),if_neg (show ¬(s.size:Int) < (35:Int) % 8 from oF hc45),if_pos (show bt s 1 < zbz ((35:Int) / 16).toNat∨zb0 ((35:Int) / 16).toNat < bt s 1 from by first|exact .inl (oT hg14_4)|exact .inr (oT hc57))]
      exact zbp rfl rfl (.drop1 _ _ _) ⟨rfl,by rw [hd];rfl⟩
     ·refine rn ?_;refine y0 rfl (fun hc59=> ?_) (fun hc59=> ?_)
      ·first|cases hc59|exact absurd hc59 (by decide)|(exfalso;simp_all;done)
      ·refine rn ?_;refine qq rfl rfl (u7 2 rfl rfl (by omega)) ?_
       refine rn ?_;refine u6 (fun hg19_2=> ?_) (fun hg19_2=> ?_)
       ·refine rn ?_;refine y0 rfl (fun hc75=> ?_) (fun hc75=> ?_)
        ·refine rn ?_;have hd:y5 s=(65533,1):=by
          unfold y5
          rw [if_neg (by omega)]
          simp only [hx]
          rw [if_neg (by decide),if_neg (show ¬(s.size:Int) < (35:Int) % 8 from oF hc45),if_neg (show ¬(bt s 1 < zbz ((35:Int) / 16).toNat∨zb0 ((35:Int) / 16).toNat < bt s 1) from fun q=>q.elim (oF hg14_4) (oF hc57)),if_neg (by decide),if_pos (show bt s 2 < 128∨191 < bt s 2 from by first|exact .inl (oT hg19_2)|exact .inr (oT hc75))]
         exact zbp rfl rfl (.drop1 _ _ _) ⟨rfl,by rw [hd];rfl⟩
        ·first|cases hc75|exact absurd hc75 (by decide)|(exfalso;simp_all;done)
       ·refine rn ?_;refine y0 rfl (fun hc75=> ?_) (fun hc75=> ?_)
        ·refine rn ?_;have hd:y5 s=(65533,1):=by
          unfold y5
          rw [if_neg (by omega)]
          simp only [hx]
          rw [if_neg (by decide),if_neg (show ¬(s.size:Int) < (35:Int) % 8 from oF hc45),if_neg (show ¬(bt s 1 < zbz ((35:Int) / 16).toNat∨zb0 ((35:Int) / 16).toNat < bt s 1) from fun q=>q.elim (oF hg14_4) (oF hc57)),if_neg (by decide),if_pos (show bt s 2 < 128∨191 < bt s 2 from by first|exact .inl (oT hg19_2)|exact .inr (oT hc75))]
         exact zbp rfl rfl (.drop1 _ _ _) ⟨rfl,by rw [hd];rfl⟩
        ·refine rn ?_;refine y0 rfl (fun hc77=> ?_) (fun hc77=> ?_)
         ·refine rn ?_;have hd:y5 s=(bI .or .i32 (bI .or .i32 (zcm (bt s 0) 15 12) (zcm (bt s 1) 63 6)) (zcm (bt s 2) 63 0),3):=by
           unfold y5
           rw [if_neg (by omega)]
           simp only [hx]
           rw [if_neg (by decide),if_neg (show ¬(s.size:Int) < (35:Int) % 8 from oF hc45),if_neg (show ¬(bt s 1 < zbz ((35:Int) / 16).toNat∨zb0 ((35:Int) / 16).toNat < bt s 1) from fun q=>q.elim (oF hg14_4) (oF hc57)),if_neg (by decide),if_neg (show ¬(bt s 2 < 128∨191 < bt s 2) from fun q=>q.elim (oF hg19_2) (oF hc75)),if_pos (by decide)]
          exact zbp rfl rfl (.drop1 _ _ _) ⟨rfl,by rw [hd];rfl⟩
         ·first|cases hc77|exact absurd hc77 (by decide)|(exfalso;simp_all;done)
theorem zqe (s:ByteArray) (hx:zcf (bt s 0).toNat=52):y8 Tryz.prog 284 [.v (.string s)] [.glob 4 305 y3,.glob 5 308 y1] (fun r h'=>h'= [.glob 4 305 y3,.glob 5 308 y1]∧r= .tup [.v (.int .i32 (y5 s).1),iv (y5 s).2]):=by
 refine z6 Tryz.func284 rfl rfl rfl ?_
 refine rn ?_;refine y0 rfl (fun hc16=> ?_) (fun hc16=> ?_)
 ·refine rn ?_;have hd:y5 s=(65533,0):=by
   unfold y5
   rw [if_pos (by simp at hc16;omega)]
  exact zbp rfl rfl (.refl _ _) ⟨rfl,by rw [hd];rfl⟩
 ·have h1:0 < s.size:=by simp at hc16;omega
  refine rn ?_;refine qq rfl rfl (u7 0 rfl rfl (by omega)) ?_
  refine rn ?_;refine qq rfl rfl (j6 rfl rfl (zfo _ _) (zfn _ _)) ?_
  refine qq rfl rfl (zac rfl (show _=some (.v (.int .u8 52)) from by rw [zci (zfo s 0) (zfn s 0),hx])) ?_
  refine rn ?_;refine y0 rfl (fun hc23=> ?_) (fun hc23=> ?_)
  ·first|cases hc23|exact absurd hc23 (by decide)|(exfalso;simp_all;done)
  ·refine rn ?_;refine qq rfl rfl (j6 rfl rfl (by decide) (by decide)) ?_
   refine rn ?_;refine z7 rfl (y7 rfl fun b9=> ?_)
   refine rn ?_;refine y0 rfl (fun hc45=> ?_) (fun hc45=> ?_)
   ·refine rn ?_;have hd:y5 s=(65533,1):=by
     unfold y5
     rw [if_neg (by omega)]
     simp only [hx]
     rw [if_neg (by decide),if_pos (show (s.size:Int) < (52:Int) % 8 from oT hc45)]
    exact zbp rfl rfl (.drop1 _ _ _) ⟨rfl,by rw [hd];rfl⟩
   ·have h2:4≤s.size:=by
     have:¬((s.size:Int) < 4):=oF hc45
     omega
    refine rn ?_;refine qq rfl rfl (u7 1 rfl rfl (by omega)) ?_
    refine rn ?_;refine u6 (fun hg14_4=> ?_) (fun hg14_4=> ?_)
    ·refine rn ?_;refine y0 rfl (fun hc57=> ?_) (fun hc57=> ?_)
     ·refine rn ?_;have hd:y5 s=(65533,1):=by
       unfold y5
       rw [if_neg (by omega)]
       simp only [hx]
       rw [if_neg (by decide),if_neg (show ¬(s.size:Int) < (52:Int) % 8 from oF hc45),if_pos (show bt s 1 < zbz ((52:Int) / 16).toNat∨zb0 ((52:Int) / 16).toNat < bt s 1 from by first|exact .inl (oT hg14_4)|exact .inr (oT hc57))]
      exact zbp rfl rfl (.drop1 _ _ _) ⟨rfl,by rw [hd];rfl⟩
     ·first|cases hc57|exact absurd hc57 (by decide)|(exfalso;simp_all;done)
    ·refine rn ?_;refine y0 rfl (fun hc57=> ?_) (fun hc57=> ?_)
     ·refine rn ?_;have hd:y5 s=(65533,1):=by
       unfold y5
       rw [if_neg (by omega)]
       simp only [hx]
       rw [if_neg (by decide),if_neg (show ¬(s.size:Int) < (52:Int) % 8 from oF hc45),if_pos (show bt s 1 < zbz ((52:Int) / 16).toNat∨zb0 ((52:Int) / 16).toNat < bt s 1 from by first|exact .inl (oT hg14_4)|exact .inr (oT hc57))]
      exact zbp rfl rfl (.drop1 _ _ _) ⟨rfl,by rw [hd];rfl⟩
     ·refine rn ?_;refine y0 rfl (fun hc59=> ?_) (fun hc59=> ?_)
      ·first|cases hc59|exact absurd hc59 (by decide)|(exfalso;simp_all;done)
      ·refine rn ?_;refine qq rfl rfl (u7 2 rfl rfl (by omega)) ?_
       refine rn ?_;refine u6 (fun hg19_2=> ?_) (fun hg19_2=> ?_)
       ·refine rn ?_;refine y0 rfl (fun hc75=> ?_) (fun hc75=> ?_)
        ·refine rn ?_;have hd:y5 s=(65533,1):=by
          unfold y5
          rw [if_neg (by omega)]
          simp only [hx]
          rw [if_neg (by decide),if_neg (show ¬(s.size:Int) < (52:Int) % 8 from oF hc45),if_neg (show ¬(bt s 1 < zbz ((52:Int) / 16).toNat∨zb0 ((52:Int) / 16).toNat < bt s 1) from fun q=>q.elim (oF hg14_4) (oF hc57)),if_neg (by decide),if_pos (show bt s 2 < 128∨191 < bt s 2 from by first|exact .inl (oT hg19_2)|exact .inr (oT hc75))]
         exact zbp rfl rfl (.drop1 _ _ _) ⟨rfl,by rw [hd];rfl⟩
        ·first|cases hc75|exact absurd hc75 (by decide)|(exfalso;simp_all;done)
       ·refine rn ?_;refine y0 rfl (fun hc75=> ?_) (fun hc75=> ?_)
        ·refine rn ?_;have hd:y5 s=(65533,1):=by
          unfold y5
          rw [if_neg (by omega)]
          simp only [hx]
          rw [if_neg (by decide),if_neg (show ¬(s.size:Int) < (52:Int) % 8 from oF hc45),if_neg (show ¬(bt s 1 < zbz ((52:Int) / 16).toNat∨zb0 ((52:Int) / 16).toNat < bt s 1) from fun q=>q.elim (oF hg14_4) (oF hc57)),if_neg (by decide),if_pos (show bt s 2 < 128∨191 < bt s 2 from by first|exact .inl (oT hg19_2)|exact .inr (oT hc75))]
         exact zbp rfl rfl (.drop1 _ _ _) ⟨rfl,by rw [hd];rfl⟩
        ·refine rn ?_;refine y0 rfl (fun hc77=> ?_) (fun hc77=> ?_)
         ·first|cases hc77|exact absurd hc77 (by decide)|(exfalso;simp_all;done)
         ·refine rn ?_;refine qq rfl rfl (u7 3 rfl rfl (by omega)) ?_
          refine rn ?_;refine u6 (fun hg24_2=> ?_) (fun hg24_2=> ?_)
          ·refine rn ?_;refine y0 rfl (fun hc98=> ?_) (fun hc98=> ?_)
           ·refine rn ?_;have hd:y5 s=(65533,1):=by
             unfold y5
             rw [if_neg (by omega)]
             simp only [hx]
             rw [if_neg (by decide),if_neg (show ¬(s.size:Int) < (52:Int) % 8 from oF hc45),if_neg (show ¬(bt s 1 < zbz ((52:Int) / 16).toNat∨zb0 ((52:Int) / 16).toNat < bt s 1) from fun q=>q.elim (oF hg14_4) (oF hc57)),if_neg (by decide),if_neg (show ¬(bt s 2 < 128∨191 < bt s 2) from fun q=>q.elim (oF hg19_2) (oF hc75)),if_neg (by decide),if_pos (show bt s 3 < 128∨191 < bt s 3 from by first|exact .inl (oT hg24_2)|exact .inr (oT hc98))]
            exact zbp rfl rfl (.drop1 _ _ _) ⟨rfl,by rw [hd];rfl⟩
           ·first|cases hc98|exact absurd hc98 (by decide)|(exfalso;simp_all;done)
          ·refine rn ?_;refine y0 rfl (fun hc98=> ?_) (fun hc98=> ?_)
           ·refine rn ?_;have hd:y5 s=(65533,1):=by
             unfold y5
             rw [if_neg (by omega)]
             simp only [hx]
             rw [if_neg (by decide),if_neg (show ¬(s.size:Int) < (52:Int) % 8 from oF hc45),if_neg (show ¬(bt s 1 < zbz ((52:Int) / 16).toNat∨zb0 ((52:Int) / 16).toNat < bt s 1) from fun q=>q.elim (oF hg14_4) (oF hc57)),if_neg (by decide),if_neg (show ¬(bt s 2 < 128∨191 < bt s 2) from fun q=>q.elim (oF hg19_2) (oF hc75)),if_neg (by decide),if_pos (show bt s 3 < 128∨191 < bt s 3 from by first|exact .inl (oT hg24_2)|exact .inr (oT hc98))]
            exact zbp rfl rfl (.drop1 _ _ _) ⟨rfl,by rw [hd];rfl⟩
           ·refine rn ?_;have hd:y5 s=(bI .or .i32 (bI .or .i32 (bI .or .i32 (zcm (bt s 0) 7 18) (zcm (bt s 1) 63 12)) (zcm (bt s 2) 63 6)) (zcm (bt s 3) 63 0),4):=by
             unfold y5
             rw [if_neg (by omega)]
             simp only [hx]
             rw [if_neg (by decide),if_neg (show ¬(s.size:Int) < (52:Int) % 8 from oF hc45),if_neg (show ¬(bt s 1 < zbz ((52:Int) / 16).toNat∨zb0 ((52:Int) / 16).toNat < bt s 1) from fun q=>q.elim (oF hg14_4) (oF hc57)),if_neg (by decide),if_neg (show ¬(bt s 2 < 128∨191 < bt s 2) from fun q=>q.elim (oF hg19_2) (oF hc75)),if_neg (by decide),if_neg (show ¬(bt s 3 < 128∨191 < bt s 3) from fun q=>q.elim (oF hg24_2) (oF hc98))]
            exact zbp rfl rfl (.drop1 _ _ _) ⟨rfl,by rw [hd];rfl⟩
theorem zso (s:ByteArray) (hx:zcf (bt s 0).toNat=4):y8 Tryz.prog 284 [.v (.string s)] [.glob 4 305 y3,.glob 5 308 y1] (fun r h'=>h'= [.glob 4 305 y3,.glob 5 308 y1]∧r= .tup [.v (.int .i32 (y5 s).1),iv (y5 s).2]):=by
 refine z6 Tryz.func284 rfl rfl rfl ?_
 refine rn ?_;refine y0 rfl (fun hc16=> ?_) (fun hc16=> ?_)
 ·refine rn ?_;have hd:y5 s=(65533,0):=by
   unfold y5
   rw [if_pos (by simp at hc16;omega)]
  exact zbp rfl rfl (.refl _ _) ⟨rfl,by rw [hd];rfl⟩
 ·have h1:0 < s.size:=by simp at hc16;omega
  refine rn ?_;refine qq rfl rfl (u7 0 rfl rfl (by omega)) ?_
  refine rn ?_;refine qq rfl rfl (j6 rfl rfl (zfo _ _) (zfn _ _)) ?_
  refine qq rfl rfl (zac rfl (show _=some (.v (.int .u8 4)) from by rw [zci (zfo s 0) (zfn s 0),hx])) ?_
  refine rn ?_;refine y0 rfl (fun hc23=> ?_) (fun hc23=> ?_)
  ·first|cases hc23|exact absurd hc23 (by decide)|(exfalso;simp_all;done)
  ·refine rn ?_;refine qq rfl rfl (j6 rfl rfl (by decide) (by decide)) ?_
   refine rn ?_;refine z7 rfl (y7 rfl fun b9=> ?_)
   refine rn ?_;refine y0 rfl (fun hc45=> ?_) (fun hc45=> ?_)
   ·refine rn ?_;have hd:y5 s=(65533,1):=by
     unfold y5
     rw [if_neg (by omega)]
     simp only [hx]
     rw [if_neg (by decide),if_pos (show (s.size:Int) < (4:Int) % 8 from oT hc45)]
    exact zbp rfl rfl (.drop1 _ _ _) ⟨rfl,by rw [hd];rfl⟩
   ·have h2:4≤s.size:=by
     have:¬((s.size:Int) < 4):=oF hc45
     omega
    refine rn ?_;refine qq rfl rfl (u7 1 rfl rfl (by omega)) ?_
    refine rn ?_;refine u6 (fun hg14_4=> ?_) (fun hg14_4=> ?_)
    ·refine rn ?_;refine y0 rfl (fun hc57=> ?_) (fun hc57=> ?_)
     ·refine rn ?_;have hd:y5 s=(65533,1):=by
       unfold y5
       rw [if_neg (by omega)]
       simp only [hx]
       rw [if_neg (by decide),if_neg (show ¬(s.size:Int) < (4:Int) % 8 from oF hc45),if_pos (show bt s 1 < zbz ((4:Int) / 16).toNat∨zb0 ((4:Int) / 16).toNat < bt s 1 from by first|exact .inl (oT hg14_4)|exact .inr (oT hc57))]
      exact zbp rfl rfl (.drop1 _ _ _) ⟨rfl,by rw [hd];rfl⟩
     ·first|cases hc57|exact absurd hc57 (by decide)|(exfalso;simp_all;done)
    ·refine rn ?_;refine y0 rfl (fun hc57=> ?_) (fun hc57=> ?_)
     ·refine rn ?_;have hd:y5 s=(65533,1):=by
       unfold y5
       rw [if_neg (by omega)]
       simp only [hx]
       rw [if_neg (by decide),if_neg (show ¬(s.size:Int) < (4:Int) % 8 from oF hc45),if_pos (show bt s 1 < zbz ((4:Int) / 16).toNat∨zb0 ((4:Int) / 16).toNat < bt s 1 from by first|exact .inl (oT hg14_4)|exact .inr (oT hc57))]
      exact zbp rfl rfl (.drop1 _ _ _) ⟨rfl,by rw [hd];rfl⟩
     ·refine rn ?_;refine y0 rfl (fun hc59=> ?_) (fun hc59=> ?_)
      ·first|cases hc59|exact absurd hc59 (by decide)|(exfalso;simp_all;done)
      ·refine rn ?_;refine qq rfl rfl (u7 2 rfl rfl (by omega)) ?_
       refine rn ?_;refine u6 (fun hg19_2=> ?_) (fun hg19_2=> ?_)
       ·refine rn ?_;refine y0 rfl (fun hc75=> ?_) (fun hc75=> ?_)
        ·refine rn ?_;have hd:y5 s=(65533,1):=by
          unfold y5
          rw [if_neg (by omega)]
          simp only [hx]
          rw [if_neg (by decide),if_neg (show ¬(s.size:Int) < (4:Int) % 8 from oF hc45),if_neg (show ¬(bt s 1 < zbz ((4:Int) / 16).toNat∨zb0 ((4:Int) / 16).toNat < bt s 1) from fun q=>q.elim (oF hg14_4) (oF hc57)),if_neg (by decide),if_pos (show bt s 2 < 128∨191 < bt s 2 from by first|exact .inl (oT hg19_2)|exact .inr (oT hc75))]
         exact zbp rfl rfl (.drop1 _ _ _) ⟨rfl,by rw [hd];rfl⟩
        ·first|cases hc75|exact absurd hc75 (by decide)|(exfalso;simp_all;done)
       ·refine rn ?_;refine y0 rfl (fun hc75=> ?_) (fun hc75=> ?_)
        ·refine rn ?_;have hd:y5 s=(65533,1):=by
          unfold y5
          rw [if_neg (by omega)]
          simp only [hx]
          rw [if_neg (by decide),if_neg (show ¬(s.size:Int) < (4:Int) % 8 from oF hc45),if_neg (show ¬(bt s 1 < zbz ((4:Int) / 16).toNat∨zb0 ((4:Int) / 16).toNat < bt s 1) from fun q=>q.elim (oF hg14_4) (oF hc57)),if_neg (by decide),if_pos (show bt s 2 < 128∨191 < bt s 2 from by first|exact .inl (oT hg19_2)|exact .inr (oT hc75))]
         exact zbp rfl rfl (.drop1 _ _ _) ⟨rfl,by rw [hd];rfl⟩
        ·refine rn ?_;refine y0 rfl (fun hc77=> ?_) (fun hc77=> ?_)
         ·first|cases hc77|exact absurd hc77 (by decide)|(exfalso;simp_all;done)
         ·refine rn ?_;refine qq rfl rfl (u7 3 rfl rfl (by omega)) ?_
          refine rn ?_;refine u6 (fun hg24_2=> ?_) (fun hg24_2=> ?_)
          ·refine rn ?_;refine y0 rfl (fun hc98=> ?_) (fun hc98=> ?_)
           ·refine rn ?_;have hd:y5 s=(65533,1):=by
             unfold y5
             rw [if_neg (by omega)]
             simp only [hx]
             rw [if_neg (by decide),if_neg (show ¬(s.size:Int) < (4:Int) % 8 from oF hc45),if_neg (show ¬(bt s 1 < zbz ((4:Int) / 16).toNat∨zb0 ((4:Int) / 16).toNat < bt s 1) from fun q=>q.elim (oF hg14_4) (oF hc57)),if_neg (by decide),if_neg (show ¬(bt s 2 < 128∨191 < bt s 2) from fun q=>q.elim (oF hg19_2) (oF hc75)),if_neg (by decide),if_pos (show bt s 3 < 128∨191 < bt s 3 from by first|exact .inl (oT hg24_2)|exact .inr (oT hc98))]
            exact zbp rfl rfl (.drop1 _ _ _) ⟨rfl,by rw [hd];rfl⟩
           ·first|cases hc98|exact absurd hc98 (by decide)|(exfalso;simp_all;done)
          ·refine rn ?_;refine y0 rfl (fun hc98=> ?_) (fun hc98=> ?_)
           ·refine rn ?_;have hd:y5 s=(65533,1):=by
             unfold y5
             rw [if_neg (by omega)]
             simp only [hx]
             rw [if_neg (by decide),if_neg (show ¬(s.size:Int) < (4:Int) % 8 from oF hc45),if_neg (show ¬(bt s 1 < zbz ((4:Int) / 16).toNat∨zb0 ((4:Int) / 16).toNat < bt s 1) from fun q=>q.elim (oF hg14_4) (oF hc57)),if_neg (by decide),if_neg (show ¬(bt s 2 < 128∨191 < bt s 2) from fun q=>q.elim (oF hg19_2) (oF hc75)),if_neg (by decide),if_pos (show bt s 3 < 128∨191 < bt s 3 from by first|exact .inl (oT hg24_2)|exact .inr (oT hc98))]
            exact zbp rfl rfl (.drop1 _ _ _) ⟨rfl,by rw [hd];rfl⟩
           ·refine rn ?_;have hd:y5 s=(bI .or .i32 (bI .or .i32 (bI .or .i32 (zcm (bt s 0) 7 18) (zcm (bt s 1) 63 12)) (zcm (bt s 2) 63 6)) (zcm (bt s 3) 63 0),4):=by
             unfold y5
             rw [if_neg (by omega)]
             simp only [hx]
             rw [if_neg (by decide),if_neg (show ¬(s.size:Int) < (4:Int) % 8 from oF hc45),if_neg (show ¬(bt s 1 < zbz ((4:Int) / 16).toNat∨zb0 ((4:Int) / 16).toNat < bt s 1) from fun q=>q.elim (oF hg14_4) (oF hc57)),if_neg (by decide),if_neg (show ¬(bt s 2 < 128∨191 < bt s 2) from fun q=>q.elim (oF hg19_2) (oF hc75)),if_neg (by decide),if_neg (show ¬(bt s 3 < 128∨191 < bt s 3) from fun q=>q.elim (oF hg24_2) (oF hc98))]
            exact zbp rfl rfl (.drop1 _ _ _) ⟨rfl,by rw [hd];rfl⟩
theorem zqd (s:ByteArray) (hx:zcf (bt s 0).toNat=68):y8 Tryz.prog 284 [.v (.string s)] [.glob 4 305 y3,.glob 5 308 y1] (fun r h'=>h'= [.glob 4 305 y3,.glob 5 308 y1]∧r= .tup [.v (.int .i32 (y5 s).1),iv (y5 s).2]):=by
 refine z6 Tryz.func284 rfl rfl rfl ?_
 refine rn ?_;refine y0 rfl (fun hc16=> ?_) (fun hc16=> ?_)
 ·refine rn ?_;have hd:y5 s=(65533,0):=by
   unfold y5
   rw [if_pos (by simp at hc16;omega)]
  exact zbp rfl rfl (.refl _ _) ⟨rfl,by rw [hd];rfl⟩
 ·have h1:0 < s.size:=by simp at hc16;omega
  refine rn ?_;refine qq rfl rfl (u7 0 rfl rfl (by omega)) ?_
  refine rn ?_;refine qq rfl rfl (j6 rfl rfl (zfo _ _) (zfn _ _)) ?_
  refine qq rfl rfl (zac rfl (show _=some (.v (.int .u8 68)) from by rw [zci (zfo s 0) (zfn s 0),hx])) ?_
  refine rn ?_;refine y0 rfl (fun hc23=> ?_) (fun hc23=> ?_)
  ·first|cases hc23|exact absurd hc23 (by decide)|(exfalso;simp_all;done)
  ·refine rn ?_;refine qq rfl rfl (j6 rfl rfl (by decide) (by decide)) ?_
   refine rn ?_;refine z7 rfl (y7 rfl fun b9=> ?_)
   refine rn ?_;refine y0 rfl (fun hc45=> ?_) (fun hc45=> ?_)
   ·refine rn ?_;have hd:y5 s=(65533,1):=by
     unfold y5
     rw [if_neg (by omega)]
     simp only [hx]
     rw [if_neg (by decide),if_pos (show (s.size:Int) < (68:Int) % 8 from oT hc45)]
    exact zbp rfl rfl (.drop1 _ _ _) ⟨rfl,by rw [hd];rfl⟩
   ·have h2:4≤s.size:=by
     have:¬((s.size:Int) < 4):=oF hc45
     omega
    refine rn ?_;refine qq rfl rfl (u7 1 rfl rfl (by omega)) ?_
    refine rn ?_;refine u6 (fun hg14_4=> ?_) (fun hg14_4=> ?_)
    ·refine rn ?_;refine y0 rfl (fun hc57=> ?_) (fun hc57=> ?_)
     ·refine rn ?_;have hd:y5 s=(65533,1):=by
       unfold y5
       rw [if_neg (by omega)]
       simp only [hx]
       rw [if_neg (by decide),if_neg (show ¬(s.size:Int) < (68:Int) % 8 from oF hc45),if_pos (show bt s 1 < zbz ((68:Int) / 16).toNat∨zb0 ((68:Int) / 16).toNat < bt s 1 from by first|exact .inl (oT hg14_4)|exact .inr (oT hc57))]
      exact zbp rfl rfl (.drop1 _ _ _) ⟨rfl,by rw [hd];rfl⟩
     ·first|cases hc57|exact absurd hc57 (by decide)|(exfalso;simp_all;done)
    ·refine rn ?_;refine y0 rfl (fun hc57=> ?_) (fun hc57=> ?_)
     ·refine rn ?_;have hd:y5 s=(65533,1):=by
       unfold y5
       rw [if_neg (by omega)]
       simp only [hx]
       rw [if_neg (by decide),if_neg (show ¬(s.size:Int) < (68:Int) % 8 from oF hc45),if_pos (show bt s 1 < zbz ((68:Int) / 16).toNat∨zb0 ((68:Int) / 16).toNat < bt s 1 from by first|exact .inl (oT hg14_4)|exact .inr (oT hc57))]
      exact zbp rfl rfl (.drop1 _ _ _) ⟨rfl,by rw [hd];rfl⟩
     ·refine rn ?_;refine y0 rfl (fun hc59=> ?_) (fun hc59=> ?_)
      ·first|cases hc59|exact absurd hc59 (by decide)|(exfalso;simp_all;done)
      ·refine rn ?_;refine qq rfl rfl (u7 2 rfl rfl (by omega)) ?_
       refine rn ?_;refine u6 (fun hg19_2=> ?_) (fun hg19_2=> ?_)
       ·refine rn ?_;refine y0 rfl (fun hc75=> ?_) (fun hc75=> ?_)
        ·refine rn ?_;have hd:y5 s=(65533,1):=by
          unfold y5
          rw [if_neg (by omega)]
          simp only [hx]
          rw [if_neg (by decide),if_neg (show ¬(s.size:Int) < (68:Int) % 8 from oF hc45),if_neg (show ¬(bt s 1 < zbz ((68:Int) / 16).toNat∨zb0 ((68:Int) / 16).toNat < bt s 1) from fun q=>q.elim (oF hg14_4) (oF hc57)),if_neg (by decide),if_pos (show bt s 2 < 128∨191 < bt s 2 from by first|exact .inl (oT hg19_2)|exact .inr (oT hc75))]
         exact zbp rfl rfl (.drop1 _ _ _) ⟨rfl,by rw [hd];rfl⟩
        ·first|cases hc75|exact absurd hc75 (by decide)|(exfalso;simp_all;done)
       ·refine rn ?_;refine y0 rfl (fun hc75=> ?_) (fun hc75=> ?_)
        ·refine rn ?_;have hd:y5 s=(65533,1):=by
          unfold y5
          rw [if_neg (by omega)]
          simp only [hx]
          rw [if_neg (by decide),if_neg (show ¬(s.size:Int) < (68:Int) % 8 from oF hc45),if_neg (show ¬(bt s 1 < zbz ((68:Int) / 16).toNat∨zb0 ((68:Int) / 16).toNat < bt s 1) from fun q=>q.elim (oF hg14_4) (oF hc57)),if_neg (by decide),if_pos (show bt s 2 < 128∨191 < bt s 2 from by first|exact .inl (oT hg19_2)|exact .inr (oT hc75))]
         exact zbp rfl rfl (.drop1 _ _ _) ⟨rfl,by rw [hd];rfl⟩
        ·refine rn ?_;refine y0 rfl (fun hc77=> ?_) (fun hc77=> ?_)
         ·first|cases hc77|exact absurd hc77 (by decide)|(exfalso;simp_all;done)
         ·refine rn ?_;refine qq rfl rfl (u7 3 rfl rfl (by omega)) ?_
          refine rn ?_;refine u6 (fun hg24_2=> ?_) (fun hg24_2=> ?_)
          ·refine rn ?_;refine y0 rfl (fun hc98=> ?_) (fun hc98=> ?_)
           ·refine rn ?_;have hd:y5 s=(65533,1):=by
             unfold y5
             rw [if_neg (by omega)]
             simp only [hx]
             rw [if_neg (by decide),if_neg (show ¬(s.size:Int) < (68:Int) % 8 from oF hc45),if_neg (show ¬(bt s 1 < zbz ((68:Int) / 16).toNat∨zb0 ((68:Int) / 16).toNat < bt s 1) from fun q=>q.elim (oF hg14_4) (oF hc57)),if_neg (by decide),if_neg (show ¬(bt s 2 < 128∨191 < bt s 2) from fun q=>q.elim (oF hg19_2) (oF hc75)),if_neg (by decide),if_pos (show bt s 3 < 128∨191 < bt s 3 from by first|exact .inl (oT hg24_2)|exact .inr (oT hc98))]
            exact zbp rfl rfl (.drop1 _ _ _) ⟨rfl,by rw [hd];rfl⟩
           ·first|cases hc98|exact absurd hc98 (by decide)|(exfalso;simp_all;done)
          ·refine rn ?_;refine y0 rfl (fun hc98=> ?_) (fun hc98=> ?_)
           ·refine rn ?_;have hd:y5 s=(65533,1):=by
             unfold y5
             rw [if_neg (by omega)]
             simp only [hx]
             rw [if_neg (by decide),if_neg (show ¬(s.size:Int) < (68:Int) % 8 from oF hc45),if_neg (show ¬(bt s 1 < zbz ((68:Int) / 16).toNat∨zb0 ((68:Int) / 16).toNat < bt s 1) from fun q=>q.elim (oF hg14_4) (oF hc57)),if_neg (by decide),if_neg (show ¬(bt s 2 < 128∨191 < bt s 2) from fun q=>q.elim (oF hg19_2) (oF hc75)),if_neg (by decide),if_pos (show bt s 3 < 128∨191 < bt s 3 from by first|exact .inl (oT hg24_2)|exact .inr (oT hc98))]
            exact zbp rfl rfl (.drop1 _ _ _) ⟨rfl,by rw [hd];rfl⟩
           ·refine rn ?_;have hd:y5 s=(bI .or .i32 (bI .or .i32 (bI .or .i32 (zcm (bt s 0) 7 18) (zcm (bt s 1) 63 12)) (zcm (bt s 2) 63 6)) (zcm (bt s 3) 63 0),4):=by
             unfold y5
             rw [if_neg (by omega)]
             simp only [hx]
             rw [if_neg (by decide),if_neg (show ¬(s.size:Int) < (68:Int) % 8 from oF hc45),if_neg (show ¬(bt s 1 < zbz ((68:Int) / 16).toNat∨zb0 ((68:Int) / 16).toNat < bt s 1) from fun q=>q.elim (oF hg14_4) (oF hc57)),if_neg (by decide),if_neg (show ¬(bt s 2 < 128∨191 < bt s 2) from fun q=>q.elim (oF hg19_2) (oF hc75)),if_neg (by decide),if_neg (show ¬(bt s 3 < 128∨191 < bt s 3) from fun q=>q.elim (oF hg24_2) (oF hc98))]
            exact zbp rfl rfl (.drop1 _ _ _) ⟨rfl,by rw [hd];rfl⟩
theorem znd (s:ByteArray):y8 Tryz.prog 284 [.v (.string s)] [.glob 4 305 y3,.glob 5 308 y1] (fun r h'=>h'= [.glob 4 305 y3,.glob 5 308 y1]∧r= .tup [.v (.int .i32 (y5 s).1),iv (y5 s).2]):=by
 rcases zp9 (bt s 0).toNat with hx|hx|hx|hx|hx|hx|hx|hx|hx
 ·exact zol s hx
 ·exact zok s hx
 ·exact zsq s hx
 ·exact zqg s hx
 ·exact zsp s hx
 ·exact zqf s hx
 ·exact zqe s hx
 ·exact zso s hx
 ·exact zqd s hx
theorem zvw (s:ByteArray):y8 Tryz.prog 281 [.v (.string s)] [.glob 4 305 y3,.glob 5 308 y1] (fun r h'=>h'= [.glob 4 305 y3,.glob 5 308 y1]∧r= .tup [.v (.int .i32 (zia s).1),iv (zia s).2]):=by
 refine z6 Tryz.func281 rfl rfl rfl ?_
 refine rn ?_;refine u6 (fun hg1_2=> ?_) (fun hg1_2=> ?_)
 ·refine rn ?_;have h1:0 < s.size:=zwp hg1_2
  refine qq rfl rfl (u7 0 rfl rfl (by omega)) ?_
  refine rn ?_;refine y0 rfl (fun hc10=> ?_) (fun hc10=> ?_)
  ·refine rn ?_;refine qq rfl rfl (u7 0 rfl rfl (by omega)) ?_
   refine rn ?_;have hd:zia s=(bt s 0,1):=by
    unfold zia
    exact if_pos ⟨zwp hg1_2,oT hc10⟩
   exact zbp rfl rfl (.refl _ _) ⟨rfl,by rw [hd];exact congrArg (fun c=>AV.tup [.v (.int .i32 c),iv 1]) (zzx s 0)⟩
  ·refine rn ?_;refine qv rfl rfl (y4 rfl rfl (z8.of_fun (znd s))) ?_
   refine rn ?_;have hd:zia s=y5 s:=by
    unfold zia
    exact if_neg fun q=>by first|exact yd3 hg1_2 q.1|exact absurd q.2 (oF hc10)
   exact zbp rfl rfl (.refl _ _) ⟨rfl,by rw [hd];rfl⟩
 ·refine rn ?_;refine zqy rfl ?_;refine rn ?_;refine qv rfl rfl (y4 rfl rfl (z8.of_fun (znd s))) ?_
  refine rn ?_;have hd:zia s=y5 s:=by
   unfold zia
   exact if_neg fun q=>by first|exact yd3 hg1_2 q.1|exact absurd q.2 (oF hc10)
  exact zbp rfl rfl (.refl _ _) ⟨rfl,by rw [hd];rfl⟩
theorem zzd {f g:Bool} (l m:List Seen) (hl:l.length≤4611686018427387904) (hm:m.length≤4611686018427387904):y8 Tryz.prog 271 [.list f 3 (l.map zax),.list g 3 (m.map zax)] [] (fun r h'=>h'= []∧r=bv (eqF zje l m)):=by
 refine z6 Tryz.func271 rfl rfl rfl ?_
 refine rn ?_;refine y0 rfl (fun hc10=> ?_) (fun hc10=> ?_)
 ·refine rn ?_;have hne:(l.length==m.length)=false:=beq_eq_false_iff_ne.2 fun q=>by simp [q] at hc10
  exact zal rfl (.refl _ _) ⟨rfl,by rw [eqF,hne,Bool.false_and];rfl⟩
 ·have hlm:l.length=m.length:=by simp at hc10;omega
  refine rn ?_;refine zak (fun k:Nat=>k≤l.length∧zut zje l m=zut zje (l.drop k) (m.drop k)) (fun k=>⟨[(13,iv k),(12,iv (l.map zax).length),(0,.list f 3 (l.map zax)),(1,.list g 3 (m.map zax))],[],[]⟩) (fun k=>l.length - k) 0 ⟨Nat.zero_le _,by simp⟩
   (u0 (.cons _ _ _ rfl (.cons _ _ _ rfl (.cons _ _ _ rfl (.cons _ _ _ rfl (.nil)))))) ?_
  rintro k ⟨hk,hz⟩
  refine rn ?_;refine y0 rfl (fun hc14=> ?_) (fun hc14=> ?_)
  ·have hk2:k < l.length:=by simpa using hc14
   have hk3:k < m.length:=by omega
   have hrow1:(l.map zax)[k]? =some (zax l[k]):=by simp [hk2]
   have hrow2:(m.map zax)[k]? =some (zax m[k]):=by simp [hk3]
   have hd1:=List.drop_eq_getElem_cons hk2
   have hd2:=List.drop_eq_getElem_cons hk3
   refine rn ?_;refine zad 8 rfl ?_
   refine rn ?_;refine y0 rfl (fun hc24=> ?_) (fun hc24=> ?_)
   ·refine rn ?_;exact zal rfl (.refl _ _) ⟨rfl,by rw [eqF,hz,hd1,hd2,zut,show zje l[k] m[k]=false from ycj hc24,Bool.false_and,Bool.and_false];rfl⟩
   ·refine rn ?_;exact ⟨k+1,⟨by omega,by rw [hz,hd1,hd2,zut,show zje l[k] m[k]=true from yck hc24,Bool.true_and]⟩,(u0 (.cons _ _ _ rfl (.cons _ _ _ rfl (.cons _ _ _ rfl (.cons _ _ _ rfl (.nil)))))),by omega⟩
  ·have hk3:k=l.length:=by
    have:l.length≤k:=by simpa using hc14
    omega
   refine rn ?_;exact zal rfl (.refl _ _) ⟨rfl,by rw [eqF,hz,hk3,List.drop_length,zsz,hlm,beq_self_eq_true];rfl⟩
theorem zvm (l:Int):y8 Tryz.prog 232 [iv l] [] (fun r h'=>h'= []∧r=iv (yk9 l)):=by
 refine z6 Tryz.func232 rfl rfl rfl ?_
 refine rn ?_;refine u6 (fun hg1_2=> ?_) (fun hg1_2=> ?_)
 ·refine rn ?_;refine zv5 rfl ?_;refine rn ?_;exact zal rfl (.refl _ _) ⟨rfl,congrArg iv (by simp_all [yk9])⟩
 ·refine rn ?_;refine y0 rfl (fun hc8=> ?_) (fun hc8=> ?_)
  ·refine rn ?_;exact zal rfl (.refl _ _) ⟨rfl,congrArg iv (by simp_all [yk9])⟩
  ·refine rn ?_;exact zal rfl (.refl _ _) ⟨rfl,congrArg iv (by simp_all [yk9])⟩
theorem zp1 (c:Int):y8 Tryz.prog 224 [.v (.int .i32 c)] [] (fun r h'=>h'= []∧r=bv (zx3 c)):=by
 refine z6 Tryz.func224 rfl rfl rfl ?_
 refine rn ?_;refine u6 (fun hg1_2=> ?_) (fun hg1_2=> ?_)
 ·refine rn ?_;exact zal rfl (.refl _ _) ⟨rfl,congrArg bv (by first|(simp only [zx3, *,Bool.true_and,Bool.false_and,Bool.and_false,Bool.and_true,Bool.true_or,Bool.or_false,Bool.false_or,Bool.or_true,if_true,if_false,Bool.false_eq_true,Bool.not_true,Bool.not_false];done)|(simp_all [zx3];done)|(simp_all [zx3] <;> omega))⟩
 ·refine rn ?_;exact zal rfl (.refl _ _) ⟨rfl,congrArg bv (by first|(simp only [zx3, *,Bool.true_and,Bool.false_and,Bool.and_false,Bool.and_true,Bool.true_or,Bool.or_false,Bool.false_or,Bool.or_true,if_true,if_false,Bool.false_eq_true,Bool.not_true,Bool.not_false];done)|(simp_all [zx3];done)|(simp_all [zx3] <;> omega))⟩
theorem bvz0_6398 {a b:Bool} (h:a=b:=by first|(simp only [yhp, *,Bool.true_and,Bool.false_and,Bool.and_false,Bool.and_true,Bool.true_or,Bool.or_false,Bool.false_or,Bool.or_true,if_true,if_false,Bool.false_eq_true,Bool.not_true,Bool.not_false];done)|(simp_all [yhp];done)|(simp_all [yhp] <;> omega)):bv a=bv b:=congrArg bv h
theorem zyj (c:Int):y8 Tryz.prog 267 [.v (.int .i32 c)] [] (fun r h'=>h'= []∧r=bv (yhp c)):=by
 refine z6 Tryz.func267 rfl rfl rfl ?_
 refine rn ?_;refine u6 (fun hg1_2=> ?_) (fun hg1_2=> ?_)
 ·refine rn ?_;exact zal rfl (.refl _ _) ⟨rfl,bvz0_6398⟩
 ·refine rn ?_;refine u6 (fun hg1_5=> ?_) (fun hg1_5=> ?_)
  ·refine rn ?_;refine u6 (fun hg1_10=> ?_) (fun hg1_10=> ?_)
   ·refine rn ?_;exact zal rfl (.refl _ _) ⟨rfl,bvz0_6398⟩
   ·refine rn ?_;refine u6 (fun hg1_13=> ?_) (fun hg1_13=> ?_)
    ·refine rn ?_;refine u6 (fun hg1_18=> ?_) (fun hg1_18=> ?_)
     ·refine rn ?_;exact zal rfl (.refl _ _) ⟨rfl,bvz0_6398⟩
     ·refine rn ?_;exact zal rfl (.refl _ _) ⟨rfl,bvz0_6398⟩
    ·refine rn ?_;exact zal rfl (.refl _ _) ⟨rfl,bvz0_6398⟩
  ·refine rn ?_;refine u6 (fun hg1_13=> ?_) (fun hg1_13=> ?_)
   ·refine rn ?_;refine u6 (fun hg1_18=> ?_) (fun hg1_18=> ?_)
    ·refine rn ?_;exact zal rfl (.refl _ _) ⟨rfl,bvz0_6398⟩
    ·refine rn ?_;exact zal rfl (.refl _ _) ⟨rfl,bvz0_6398⟩
   ·refine rn ?_;exact zal rfl (.refl _ _) ⟨rfl,bvz0_6398⟩
theorem zyk (c:Int):y8 Tryz.prog 226 [.v (.int .i32 c)] [] (fun r h'=>h'= []∧r=bv (yhp c||zx3 c)):=by
 refine z6 Tryz.func226 rfl rfl rfl ?_
 refine rn ?_;refine qv rfl rfl (y4 rfl rfl (zbh (zyj _) (Sbs.refl _))) ?_
 refine rn ?_;refine u6 (fun hg1_2=> ?_) (fun hg1_2=> ?_)
 ·refine rn ?_;exact zal rfl (.refl _ _) ⟨rfl,congrArg bv (by first|(simp only [*,Bool.true_and,Bool.false_and,Bool.and_false,Bool.and_true,Bool.true_or,Bool.or_false,Bool.false_or,Bool.or_true,if_true,if_false,Bool.false_eq_true,Bool.not_true,Bool.not_false];done)|(simp_all;done)|(simp_all <;> omega))⟩
 ·refine rn ?_;refine qv rfl rfl (y4 rfl rfl (zbh (zp1 _) (Sbs.refl _))) ?_
  refine rn ?_;exact zal rfl (.refl _ _) ⟨rfl,congrArg bv (by first|(simp only [*,Bool.true_and,Bool.false_and,Bool.and_false,Bool.and_true,Bool.true_or,Bool.or_false,Bool.false_or,Bool.or_true,if_true,if_false,Bool.false_eq_true,Bool.not_true,Bool.not_false];done)|(simp_all;done)|(simp_all <;> omega))⟩
theorem yg7 (h:Hist):y8 Tryz.prog 142 [.agg (y9 h)] [] (fun r h'=>h'= []∧r= .agg (zjj h)):=by
 refine z6 Tryz.func142 rfl rfl rfl ?_
 refine rn ?_;refine z7 rfl (w8 rfl rfl rfl fun b1=> ?_)
 refine z7 rfl (y7 rfl fun b2=> ?_)
 refine rn ?_;exact zdy (.cons _ _ _ _ (.agg _ _ _ _ _ _ _ rfl inferInstance inferInstance inferInstance rfl) .nil) (.drop [_,_] _ _) ⟨rfl,rfl⟩
theorem zwb (h:Hist) (sort:Nat) (n:Int) (l:List ByteArray) (hs:(zjj h)[sort]? =some (zcw l)) (hs4:sort < 4):y8 Tryz.prog 191 [.agg (y9 h),iv sort,iv n] [] (fun r h'=>h'= []∧r=bv (zd4 l n)):=by
 refine z6 Tryz.func191 rfl rfl rfl ?_
 refine rn ?_;refine z7 rfl (w8 rfl rfl rfl fun b3=> ?_)
 refine rn ?_;refine u6 (fun hg1_2=> ?_) (fun hg1_2=> ?_)
 ·refine rn ?_;refine qv rfl rfl (y4 rfl rfl (zbh (yg7 _) (Sbs.refl _))) ?_
  refine q1 ?_;refine qq rfl rfl (zct rfl rfl (by omega) (by simpa using hs)) ?_
  refine rn ?_;exact zal rfl (.drop1 _ _ _) ⟨rfl,congrArg bv (by first|(simp only [zd4, *,Bool.true_and,Bool.false_and,Bool.and_false,Bool.and_true,Bool.true_or,Bool.or_false,Bool.false_or,Bool.or_true,if_true,if_false,Bool.false_eq_true,Bool.not_true,Bool.not_false];done)|(simp_all [zd4];done)|(simp_all [zd4] <;> omega))⟩
 ·refine rn ?_;exact zal rfl (.drop1 _ _ _) ⟨rfl,congrArg bv (by first|(simp only [zd4, *,Bool.true_and,Bool.false_and,Bool.and_false,Bool.and_true,Bool.true_or,Bool.or_false,Bool.false_or,Bool.or_true,if_true,if_false,Bool.false_eq_true,Bool.not_true,Bool.not_false];done)|(simp_all [zd4];done)|(simp_all [zd4] <;> omega))⟩
theorem bvz1_9927 {a b:Bool} (h:a=b:=by first|(simp only [zwk, *,Bool.true_and,Bool.false_and,Bool.and_false,Bool.and_true,Bool.true_or,Bool.or_false,Bool.false_or,Bool.or_true,if_true,if_false,Bool.false_eq_true,Bool.not_true,Bool.not_false];done)|(simp_all [zwk];done)|(simp_all [zwk] <;> omega)):bv a=bv b:=congrArg bv h
theorem zrd (h:Hist) (v:Ver):y8 Tryz.prog 234 [.agg (y9 h),.agg (yat v)] [] (fun r h'=>h'= []∧r=bv (zwk h.ts v)):=by
 refine z6 Tryz.func234 rfl rfl rfl ?_
 refine rn ?_;refine z7 rfl (w8 rfl rfl rfl fun b2=> ?_)
 refine z7 rfl (w8 rfl rfl rfl fun b3=> ?_)
 refine rn ?_;refine y0 rfl (fun hc7=> ?_) (fun hc7=> ?_)
 ·refine rn ?_;exact zal rfl (.drop [_,_] _ _) ⟨rfl,bvz1_9927⟩
 ·refine rn ?_;refine qv rfl rfl (y4 rfl rfl (zbh (zwb _ 0 _ _ rfl (by decide)) (Sbs.refl _))) ?_
  refine rn ?_;refine u6 (fun hg3_4=> ?_) (fun hg3_4=> ?_)
  ·refine rn ?_;refine u6 (fun hg3_9=> ?_) (fun hg3_9=> ?_)
   ·refine rn ?_;exact zal rfl (.drop [_,_] _ _) ⟨rfl,bvz1_9927⟩
   ·refine rn ?_;exact zal rfl (.drop [_,_] _ _) ⟨rfl,bvz1_9927⟩
  ·refine rn ?_;exact zal rfl (.drop [_,_] _ _) ⟨rfl,bvz1_9927⟩
theorem bvz2_4471 {a b:Bool} (h:a=b:=by first|(simp only [yia, *,Bool.true_and,Bool.false_and,Bool.and_false,Bool.and_true,Bool.true_or,Bool.or_false,Bool.false_or,Bool.or_true,if_true,if_false,Bool.false_eq_true,Bool.not_true,Bool.not_false];done)|(simp_all [yia];done)|(simp_all [yia] <;> omega)):bv a=bv b:=congrArg bv h
theorem zw5 (a b:Ev) (ha:a.scan.length≤4611686018427387904) (hb:b.scan.length≤4611686018427387904):y8 Tryz.prog 241 [.agg (evR a),.agg (evR b)] [] (fun r h'=>h'= []∧r=bv (yia a b)):=by
 refine z6 Tryz.func241 rfl rfl rfl ?_
 refine rn ?_;refine z7 rfl (w8 rfl rfl rfl fun b2=> ?_)
 refine z7 rfl (w8 rfl rfl rfl fun b3=> ?_)
 refine rn ?_;refine u6 (fun hg1_5=> ?_) (fun hg1_5=> ?_)
 ·refine rn ?_;refine u6 (fun hg1_12=> ?_) (fun hg1_12=> ?_)
  ·refine rn ?_;refine u6 (fun hg1_19=> ?_) (fun hg1_19=> ?_)
   ·refine rn ?_;refine u6 (fun hg2_1=> ?_) (fun hg2_1=> ?_)
    ·refine rn ?_;refine u6 (fun hg2_8=> ?_) (fun hg2_8=> ?_)
     ·refine rn ?_;refine u6 (fun hg2_15=> ?_) (fun hg2_15=> ?_)
      ·refine rn ?_;refine u6 (fun hg2_22=> ?_) (fun hg2_22=> ?_)
       ·refine rn ?_;refine qv rfl rfl (y4 rfl rfl (zbh (zzd _ _ ha hb) (Sbs.refl _))) ?_
        refine rn ?_;exact zal rfl (.drop [_,_] _ _) ⟨rfl,bvz2_4471⟩
       ·refine rn ?_;exact zal rfl (.drop [_,_] _ _) ⟨rfl,bvz2_4471⟩
      ·refine rn ?_;exact zal rfl (.drop [_,_] _ _) ⟨rfl,bvz2_4471⟩
     ·refine rn ?_;exact zal rfl (.drop [_,_] _ _) ⟨rfl,bvz2_4471⟩
    ·refine rn ?_;exact zal rfl (.drop [_,_] _ _) ⟨rfl,bvz2_4471⟩
   ·refine rn ?_;exact zal rfl (.drop [_,_] _ _) ⟨rfl,bvz2_4471⟩
  ·refine rn ?_;exact zal rfl (.drop [_,_] _ _) ⟨rfl,bvz2_4471⟩
 ·refine rn ?_;exact zal rfl (.drop [_,_] _ _) ⟨rfl,bvz2_4471⟩
theorem ybn (s:ByteArray) (i:Nat) (c:Int) (bs bi bc:Nat) (hi:i≤s.size):y8 Tryz.prog 280 [pZ bs,pZ bi,pZ bc] [.box bs 9 [sv s],.box bi 3 [iv (i:Nat)],.box bc 21 [.v (.int .i32 c)],.glob 4 305 y3,.glob 5 308 y1] (fun r h'=>h'= [.box bs 9 [sv s],.box bi 3 [iv (i:Nat)],.box bc 21 [.v (.int .i32 c)],.glob 4 305 y3,.glob 5 308 y1]∧r= .tup [.v (.int .i32 c),bv (zrf s i c)]):=by
 refine z6 Tryz.func280 rfl rfl rfl ?_
 refine w7 (y6 ?_)
 refine q1 ?_;refine q1 ?_;refine j4 (zai ?_)
 refine w7 (y6 ?_)
 refine q1 ?_;refine q1 ?_;refine qq rfl rfl (ze0 rfl rfl hi) ?_
 refine qv rfl rfl (y4 rfl rfl (z8.quiet (R:=fun x=>x=_) (h2:= [_,_,_]) (List.perm_append_comm (l₁:= [_,_,_])) (z8.of_fun (zvw (s.extract i s.size))))) ?_
 refine rn ?_;refine u6 (fun hg2_3=> ?_) (fun hg2_3=> ?_)
 ·refine rn ?_;exact zbp rfl rfl (.refl _ _) ⟨rfl,congrArg (fun b=>AV.tup [.v (.int .i32 c),bv b]) (by first|(simp only [zrf, *,Bool.true_and,Bool.false_and,Bool.and_false,Bool.and_true,Bool.true_or,Bool.or_false,Bool.false_or,Bool.or_true,if_true,if_false,Bool.false_eq_true,Bool.not_true,Bool.not_false];done)|(simp_all [zrf];done))⟩
 ·refine rn ?_;exact zbp rfl rfl (.refl _ _) ⟨rfl,congrArg (fun b=>AV.tup [.v (.int .i32 c),bv b]) (by first|(simp only [zrf, *,Bool.true_and,Bool.false_and,Bool.and_false,Bool.and_true,Bool.true_or,Bool.or_false,Bool.false_or,Bool.or_true,if_true,if_false,Bool.false_eq_true,Bool.not_true,Bool.not_false];done)|(simp_all [zrf];done))⟩
theorem zxd (s:ByteArray) (bs:Nat) (y:AV) (p:Nat→Int→Bool) (I:List Res→Prop) (J:Nat→List Res→Prop) (hy:∀(i bi bc it:Nat) (L:List Res),i < s.size→I L→z8 Tryz.prog y [iv i,.fn (.func 280) [] [pZ bs,pZ bi,pZ bc]] (.box bc 21 [.v (.int .i32 (Utf8.decode s i).1)]:: .box bi 3 [iv (i:Nat)]:: .obj it (.stringIter s (i+(Utf8.decode s i).2)):: .box bs 9 [sv s]::L) (fun r h'=>∃L',h'= .box bc 21 [.v (.int .i32 (Utf8.decode s i).1)]:: .box bi 3 [iv (i:Nat)]:: .obj it (.stringIter s (i+(Utf8.decode s i).2)):: .box bs 9 [sv s]::L'∧((p i (Utf8.decode s i).1=true∧r=bv true∧I L')∨(p i (Utf8.decode s i).1=false∧r=bv false∧J i L')))) (L0:List Res) (h0:I L0):y8 Tryz.prog 279 [y,pZ bs] (.box bs 9 [sv s]::L0) (fun r h'=>∃L',h'= .box bs 9 [sv s]::L'∧((zdt s p 0=s.size∧I L')∨(zdt s p 0 < s.size∧J (zdt s p 0) L'))):=by
 refine z6 Tryz.func279 rfl rfl rfl ?_
 refine rn ?_;refine z7 rfl (zpt rfl rfl fun b7=> ?_)
 refine rn ?_;refine zak (fun x:Nat×List Res=>zdt s p 0=zdt s p x.1∧I x.2) (fun x=>⟨[(7,pZ b7),(0,y),(1,pZ bs)],.obj b7 (.stringIter s x.1):: .box bs 9 [sv s]::x.2,[]⟩) (fun x=>s.size - x.1) (0,L0) ⟨rfl,h0⟩
  (u0 (.cons _ _ _ rfl (.cons _ _ _ rfl (.cons _ _ _ rfl (.nil))))) ?_
 rintro ⟨k,L⟩ ⟨hw,hI⟩
 simp only at hw hI
 refine w7 (y6 ?_)
 refine z7 rfl (zr3 rfl rfl (fun hp=> ?_) (fun hp=> ?_))
 ·refine rn ?_;refine y0 rfl (fun hc9=> ?_) (fun hc9=> ?_)
  ·first|cases hc9|exact absurd hc9 (by decide)|(exfalso;simp_all;done)
  ·refine rn ?_;exact zeo .nil (.drop1 _ _ _) ⟨_,rfl,.inl ⟨by rw [hw,zmq hp],hI⟩⟩
 ·refine rn ?_;refine y0 rfl (fun hc9=> ?_) (fun hc9=> ?_)
  ·refine rn ?_;refine z7 rfl (y7 rfl fun b3=> ?_)
   refine z7 rfl (y7 rfl fun b4=> ?_)
   first|refine z7 rfl (j5 rfl rfl rfl ?_)|refine z7 rfl (zaj rfl rfl rfl rfl (Nat.le_of_ble_eq_true rfl) ?_)
   first|refine z7 rfl (j5 rfl rfl rfl ?_)|refine z7 rfl (zaj rfl rfl rfl rfl (Nat.le_of_ble_eq_true rfl) ?_)
   refine j4 (zai ?_)
   refine w7 (y6 ?_)
   refine q1 ?_;refine q1 ?_;refine j4 (zai ?_)
   refine w7 (y6 ?_)
   refine q1 ?_;refine q1 ?_;refine q1 ?_;refine z7 rfl (v6 rfl rfl (hy k b3 b4 b7 L hp hI) rfl ?_)
   rintro av h' ⟨L',rfl,⟨hp1,rfl,hI2⟩|⟨hp1,rfl,hJ⟩⟩
   ·refine rn ?_;refine y0 rfl (fun hc17=> ?_) (fun hc17=> ?_)
    ·first|cases hc17|exact absurd hc17 (by decide)|(exfalso;simp_all;done)
    ·refine rn ?_;exact ⟨(k+(Utf8.decode s k).2,L'),⟨hw.trans (zo1 hp hp1),hI2⟩,(v8 (zd8 (h1:= [_,_])) (u0 (.cons _ _ _ rfl (.cons _ _ _ rfl (.cons _ _ _ rfl (.nil)))))),by have:=zo0 s k;simp only at hp ⊢;omega⟩
   ·refine rn ?_;refine y0 rfl (fun hc17=> ?_) (fun hc17=> ?_)
    ·refine rn ?_;exact zdy .nil (.drop [_,_,_] _ _) ⟨_,rfl,.inr (by rw [hw,zrb hp hp1];exact ⟨hp,hJ⟩)⟩
    ·first|cases hc17|exact absurd hc17 (by decide)|(exfalso;simp_all;done)
  ·first|cases hc9|exact absurd hc9 (by decide)|(exfalso;simp_all;done)
theorem yju (s:ByteArray) (h:List Res):y8 Tryz.prog 266 [sv s] h (fun r h'=>∃bs,h'= .box bs 9 [sv s]::h∧r= .fn (.func 279) [] [pZ bs]):=by
 refine z6 Tryz.func266 rfl rfl rfl ?_
 refine rn ?_;refine z7 rfl (w8 rfl rfl rfl fun b1=> ?_)
 refine rn ?_;exact zal rfl (.refl _ _) ⟨_,rfl,rfl⟩
theorem yc1 (s:ByteArray) (fv:AV) (g:Int→Bool) (hone:fv.cellsOf=some [fv]) (hgo:∀c h,z8 Tryz.prog fv [.v (.int .i32 c)] h (fun r h'=>h'=h∧r=bv (g c))):y8 Tryz.prog 225 [sv s,fv] [.glob 4 305 y3,.glob 5 308 y1] (fun r h'=>h'= [.glob 4 305 y3,.glob 5 308 y1]∧r=iv (zdt s (zfq s g) 0:Nat)):=by
 refine z6 Tryz.func225 rfl rfl rfl ?_
 refine rn ?_;refine z7 rfl (w8 rfl hone rfl fun b3=> ?_)
 refine rn ?_;refine zii ?_;refine rn ?_;refine z7 rfl (y7 rfl fun b5=> ?_)
 refine rn ?_;refine z7 rfl (v6 rfl rfl (z8.of_fun (yju s _)) rfl ?_)
 rintro _ _ ⟨bs,rfl,rfl⟩
 refine rn ?_;refine zl7 (fun pend h''=>(pend=none∨pend=some (.exit 0))∧h''= .box bs 9 [sv s]:: .box b5 3 [iv (zdt s (zfq s g) 0:Nat)]:: .box b3 270 [fv]:: [.glob 4 305 y3,.glob 5 308 y1]) rfl (fun fn l q lp hlp=> ?_) (fun q h'' hK=> ?_) (fun q h'' c hK=> ?_)
 ·suffices hy:∀(i bi bc it:Nat) (L:List Res),i < s.size→L=lp .ready none:: .defs q:: .box b5 3 [iv s.size]:: .box b3 270 [fv]:: [.glob 4 305 y3,.glob 5 308 y1]→z8 Tryz.prog (yv l) [iv i,.fn (.func 280) [] [pZ bs,pZ bi,pZ bc]] (.box bc 21 [.v (.int .i32 (Utf8.decode s i).1)]:: .box bi 3 [iv (i:Nat)]:: .obj it (.stringIter s (i+(Utf8.decode s i).2)):: .box bs 9 [sv s]::L)
   (fun r h'=>∃L',h'= .box bc 21 [.v (.int .i32 (Utf8.decode s i).1)]:: .box bi 3 [iv (i:Nat)]:: .obj it (.stringIter s (i+(Utf8.decode s i).2)):: .box bs 9 [sv s]::L'∧((zfq s g i (Utf8.decode s i).1=true∧r=bv true∧L'=lp .ready none:: .defs q:: .box b5 3 [iv s.size]:: .box b3 270 [fv]:: [.glob 4 305 y3,.glob 5 308 y1])∨(zfq s g i (Utf8.decode s i).1=false∧r=bv false∧L'=lp .done (some (.exit 0)):: .defs q:: .box b5 3 [iv (i:Nat)]:: .box b3 270 [fv]:: [.glob 4 305 y3,.glob 5 308 y1]))) by
   refine y8.mono (y8.perm (pt2 _ _ _ _) (zxd s bs (yv l) (zfq s g) _ (fun i L=>L=lp .done (some (.exit 0)):: .defs q:: .box b5 3 [iv (i:Nat)]:: .box b3 270 [fv]:: [.glob 4 305 y3,.glob 5 308 y1]) hy _ rfl)) ?_
   rintro _ _ ⟨L',rfl,⟨hw,rfl⟩|⟨hw,rfl⟩⟩
   ·exact ⟨_,_,_,(pt2 _ _ _ _).symm,by simp,.inl rfl,by rw [hw]⟩
   ·exact ⟨_,_,_,(pt2 _ _ _ _).symm,by simp,.inr rfl,rfl⟩
  rintro i bi bc it _ hi rfl
  refine z8.perm (pt4 _ _ _ _ _ _) (z8.permR (zt7 hlp rfl rfl ?_))
  refine rn ?_;refine ⟨[(6,iv (i:Nat)),(7,.fn (.func 280) [] [pZ bs,pZ bi,pZ bc]),(5,pZ b5),(3,pZ b3)],u0 (.cons _ _ _ rfl (.cons _ _ _ rfl (.cons _ _ _ rfl (.cons _ _ _ rfl .nil)))),?_⟩
  refine rn ?_;refine qv rfl rfl (y4 rfl rfl (z8.qt (z8.of_acall (fs:= []) (cs:= [pZ bs,pZ bi,pZ bc]) (ybn s i (Utf8.decode s i).1 bs bi bc (by omega))) ((pt4 _ _ _ _ _ _).trans (.cons _ ((pt2 _ _ _ _).trans (.cons _ ((pt1 _ _ _).trans (.cons _ ((pt5 _ _ _ _ _ _ _).trans (.cons _ (pt5 _ _ _ _ _ _ _))))))))))) ?_
  refine rn ?_;refine u6 (fun hg6_2=> ?_) (fun hg6_2=> ?_)
  ·refine rn ?_;refine zv5 rfl ?_;refine rn ?_;exact zxg (.refl _) ⟨_,((pt1 _ _ _).trans (.cons _ ((pt1 _ _ _).trans (.cons _ ((pt1 _ _ _).trans (.cons _ (pt1 _ _ _))))))),_,rfl,.inr ⟨by simp_all [zfq],rfl,rfl⟩⟩
  ·refine rn ?_;refine qv rfl rfl (y4 rfl rfl (hgo _ _)) ?_
   refine rn ?_;refine y0 rfl (fun hc28=> ?_) (fun hc28=> ?_)
   ·refine rn ?_;exact zxg (.refl _) ⟨_,((pt1 _ _ _).trans (.cons _ ((pt1 _ _ _).trans (.cons _ ((pt1 _ _ _).trans (.cons _ (pt1 _ _ _))))))),_,rfl,.inr ⟨by simp_all [zfq],rfl,rfl⟩⟩
   ·refine rn ?_;exact zcy (.refl _) ⟨_,((pt1 _ _ _).trans (.cons _ ((pt1 _ _ _).trans (.cons _ ((pt1 _ _ _).trans (.cons _ (pt1 _ _ _))))))),_,rfl,.inl ⟨by simp_all [zfq],rfl,rfl⟩⟩
 ·obtain ⟨_,rfl⟩:=hK
  refine rn ?_;refine ⟨fun l h=>(by cases h),?_⟩
  exact zgx (.refl _) (.cons _ _ _ _ (.tmp _ _ rfl) .nil) (.drop [_,_,_] _ _) ⟨rfl,rfl⟩
 ·obtain ⟨hc,rfl⟩:=hK
  obtain rfl:c= .exit 0:=by simpa using hc
  refine rn ?_;refine ⟨fun l h=>(by cases h),?_⟩
  exact zgx (.refl _) (.cons _ _ _ _ (.tmp _ _ rfl) .nil) (.drop [_,_,_] _ _) ⟨rfl,rfl⟩
theorem bvz3_9564 {a b:Bool} (h:a=b:=by first|(simp only [zil, *,Bool.true_and,Bool.false_and,Bool.and_false,Bool.and_true,Bool.true_or,Bool.or_false,Bool.false_or,Bool.or_true,if_true,if_false,Bool.false_eq_true,Bool.not_true,Bool.not_false];done)|(simp_all [zil,zzx];done)):bv a=bv b:=congrArg bv h
theorem yo8 (s:ByteArray):y8 Tryz.prog 187 [sv s] [.glob 4 305 y3,.glob 5 308 y1] (fun r h'=>h'= [.glob 4 305 y3,.glob 5 308 y1]∧r=bv (zil s)):=by
 refine z6 Tryz.func187 rfl rfl rfl ?_
 refine rn ?_;refine u6 (fun hg1_2=> ?_) (fun hg1_2=> ?_)
 ·refine rn ?_;refine u6 (fun hg1_7=> ?_) (fun hg1_7=> ?_)
  ·refine rn ?_;have h1:0 < s.size:=zwp hg1_2
   refine qq rfl rfl (u7 0 rfl rfl (by omega)) ?_
   refine rn ?_;refine qv rfl rfl (y4 rfl rfl (zbh (zp1 _) (Sbs.refl _))) ?_
   refine rn ?_;refine u6 (fun hg1_14=> ?_) (fun hg1_14=> ?_)
   ·refine rn ?_;refine qv rfl rfl (y4 rfl rfl (z8.of_fun (yc1 s (.fn (.func 226) [] []) zll rfl (fun c h=>(zbh (zyk c) (Sbs.refl _)))))) ?_
    refine rn ?_;exact zal rfl (.refl _ _) ⟨rfl,bvz3_9564⟩
   ·refine rn ?_;exact zal rfl (.refl _ _) ⟨rfl,bvz3_9564⟩
  ·refine rn ?_;exact zal rfl (.refl _ _) ⟨rfl,bvz3_9564⟩
 ·refine rn ?_;exact zal rfl (.refl _ _) ⟨rfl,bvz3_9564⟩
theorem yl3 (e:Ev) (h:Hist) (be bh:Nat):y8 Tryz.prog 231 [pZ be,pZ bh] [.box be 60 (evR e),.box bh 28 (y9 h)] (fun r h'=>h'= [.box be 60 (evR e),.box bh 28 (y9 h)]∧r= .tup [.agg (evR ⟨0,0,e.s,e.l,0,⟨0,0⟩,0,[]⟩),bv (zds h e)]):=by
 refine z6 Tryz.func231 rfl rfl rfl ?_
 refine rn ?_;refine z7 rfl (y7 rfl fun b2=> ?_)
 refine rn ?_;refine zer 16 [(b2,60,_)] rfl (List.perm_append_comm (l₁:= [_])) ?_
 refine rn ?_;refine dv rfl rfl (by exact y4 rfl rfl (zbh (zwb _ 1 _ _ rfl (by decide)) (Sbs.refl _))) ?_
 refine rn ?_;refine zcp (fun hg1_9=> ?_) (fun hg1_9=> ?_)
 ·refine rn ?_;refine dv rfl rfl (by exact y4 rfl rfl (zbh (zvm _) (Sbs.refl _))) ?_
  refine rn ?_;refine dw 0 rfl rfl rfl rfl rfl (Nat.le_of_ble_eq_true rfl) ?_
  refine rn2 ?_;show zb7 _ _ _ _ _ _ ⟨_,.box b2 60 _::_,_⟩
  refine rn ?_;exact zdy (.cons _ _ _ _ (.agg _ _ _ _ _ _ _ rfl inferInstance inferInstance inferInstance rfl) (.cons _ _ _ _ (.tmp _ _ rfl) .nil)) (.trans (.drop1 _ _ _) (zbu (by exact Sb.aggs (by exact ⟨.refl _,.refl _,.refl _,.refl _,.refl _,.refl _,.refl _,.refl _,.nil _ _,trivial⟩)) (by exact .refl _))) ⟨rfl,congrArg (fun b=>AV.tup [.agg (evR ⟨0,0,e.s,e.l,0,⟨0,0⟩,0,[]⟩),bv b]) (by first|(simp only [zds, *,Bool.true_and,Bool.false_and,Bool.and_false,Bool.and_true,Bool.true_or,Bool.or_false,Bool.false_or,Bool.or_true,if_true,if_false,Bool.false_eq_true,Bool.not_true,Bool.not_false];done)|(simp_all [zds];done)|(simp_all [zds] <;> omega))⟩
 ·refine rn ?_;refine dw 0 rfl rfl rfl rfl rfl (Nat.le_of_ble_eq_true rfl) ?_
  refine rn2 ?_;show zb7 _ _ _ _ _ _ ⟨_,.box b2 60 _::_,_⟩
  refine rn ?_;exact zdy (.cons _ _ _ _ (.agg _ _ _ _ _ _ _ rfl inferInstance inferInstance inferInstance rfl) (.cons _ _ _ _ (.tmp _ _ rfl) .nil)) (.trans (.drop1 _ _ _) (zbu (by exact Sb.aggs (by exact ⟨.refl _,.refl _,.refl _,.refl _,.refl _,.refl _,.refl _,.refl _,.nil _ _,trivial⟩)) (by exact .refl _))) ⟨rfl,congrArg (fun b=>AV.tup [.agg (evR ⟨0,0,e.s,e.l,0,⟨0,0⟩,0,[]⟩),bv b]) (by first|(simp only [zds, *,Bool.true_and,Bool.false_and,Bool.and_false,Bool.and_true,Bool.true_or,Bool.or_false,Bool.false_or,Bool.or_true,if_true,if_false,Bool.false_eq_true,Bool.not_true,Bool.not_false];done)|(simp_all [zds];done)|(simp_all [zds] <;> omega))⟩
theorem yl2 (e:Ev) (h:Hist) (be bh:Nat):y8 Tryz.prog 233 [pZ be,pZ bh] [.box be 60 (evR e),.box bh 28 (y9 h)] (fun r h'=>h'= [.box be 60 (evR e),.box bh 28 (y9 h)]∧r= .tup [.agg (evR ⟨0,0,0,0,e.o,e.v,0,[]⟩),bv (zbk h e)]):=by
 refine z6 Tryz.func233 rfl rfl rfl ?_
 refine rn ?_;refine z7 rfl (y7 rfl fun b2=> ?_)
 refine rn ?_;refine zer 30 [(b2,60,_)] rfl (List.perm_append_comm (l₁:= [_])) ?_
 refine rn ?_;refine dv rfl rfl (by exact y4 rfl rfl (zbh (zwb _ 2 _ _ rfl (by decide)) (Sbs.refl _))) ?_
 refine rn ?_;refine zcp (fun hg1_9=> ?_) (fun hg1_9=> ?_)
 ·refine rn ?_;refine dv rfl rfl (by exact y4 rfl rfl (zbh (zrd h e.v) (Sbs.refl _))) ?_
  refine rn ?_;refine zcp (fun hg1_15=> ?_) (fun hg1_15=> ?_)
  ·refine rn ?_;refine zcp (fun hg1_23=> ?_) (fun hg1_23=> ?_)
   ·refine rn ?_;refine dw 0 rfl rfl rfl rfl rfl (Nat.le_of_ble_eq_true rfl) ?_
    refine rn2 ?_;show zb7 _ _ _ _ _ _ ⟨_,.box b2 60 _::_,_⟩
    refine rn ?_;exact zdy (.cons _ _ _ _ (.agg _ _ _ _ _ _ _ rfl inferInstance inferInstance inferInstance rfl) (.cons _ _ _ _ (.tmp _ _ rfl) .nil)) (.trans (.drop1 _ _ _) (zbu (by exact Sb.aggs (by exact ⟨.refl _,.refl _,.refl _,.refl _,.refl _,.refl _,.refl _,.refl _,.nil _ _,trivial⟩)) (by exact .refl _))) ⟨rfl,congrArg (fun b=>AV.tup [.agg (evR ⟨0,0,0,0,e.o,e.v,0,[]⟩),bv b]) (by first|(simp only [zbk, *,Bool.true_and,Bool.false_and,Bool.and_false,Bool.and_true,Bool.true_or,Bool.or_false,Bool.false_or,Bool.or_true,if_true,if_false,Bool.false_eq_true,Bool.not_true,Bool.not_false];done)|(simp_all [zbk];done)|(simp_all [zbk] <;> omega))⟩
   ·refine rn ?_;refine dw 0 rfl rfl rfl rfl rfl (Nat.le_of_ble_eq_true rfl) ?_
    refine rn2 ?_;show zb7 _ _ _ _ _ _ ⟨_,.box b2 60 _::_,_⟩
    refine rn ?_;exact zdy (.cons _ _ _ _ (.agg _ _ _ _ _ _ _ rfl inferInstance inferInstance inferInstance rfl) (.cons _ _ _ _ (.tmp _ _ rfl) .nil)) (.trans (.drop1 _ _ _) (zbu (by exact Sb.aggs (by exact ⟨.refl _,.refl _,.refl _,.refl _,.refl _,.refl _,.refl _,.refl _,.nil _ _,trivial⟩)) (by exact .refl _))) ⟨rfl,congrArg (fun b=>AV.tup [.agg (evR ⟨0,0,0,0,e.o,e.v,0,[]⟩),bv b]) (by first|(simp only [zbk, *,Bool.true_and,Bool.false_and,Bool.and_false,Bool.and_true,Bool.true_or,Bool.or_false,Bool.false_or,Bool.or_true,if_true,if_false,Bool.false_eq_true,Bool.not_true,Bool.not_false];done)|(simp_all [zbk];done)|(simp_all [zbk] <;> omega))⟩
  ·refine rn ?_;refine dw 0 rfl rfl rfl rfl rfl (Nat.le_of_ble_eq_true rfl) ?_
   refine rn2 ?_;show zb7 _ _ _ _ _ _ ⟨_,.box b2 60 _::_,_⟩
   refine rn ?_;exact zdy (.cons _ _ _ _ (.agg _ _ _ _ _ _ _ rfl inferInstance inferInstance inferInstance rfl) (.cons _ _ _ _ (.tmp _ _ rfl) .nil)) (.trans (.drop1 _ _ _) (zbu (by exact Sb.aggs (by exact ⟨.refl _,.refl _,.refl _,.refl _,.refl _,.refl _,.refl _,.refl _,.nil _ _,trivial⟩)) (by exact .refl _))) ⟨rfl,congrArg (fun b=>AV.tup [.agg (evR ⟨0,0,0,0,e.o,e.v,0,[]⟩),bv b]) (by first|(simp only [zbk, *,Bool.true_and,Bool.false_and,Bool.and_false,Bool.and_true,Bool.true_or,Bool.or_false,Bool.false_or,Bool.or_true,if_true,if_false,Bool.false_eq_true,Bool.not_true,Bool.not_false];done)|(simp_all [zbk];done)|(simp_all [zbk] <;> omega))⟩
 ·refine rn ?_;refine dw 0 rfl rfl rfl rfl rfl (Nat.le_of_ble_eq_true rfl) ?_
  refine rn2 ?_;show zb7 _ _ _ _ _ _ ⟨_,.box b2 60 _::_,_⟩
  refine rn ?_;exact zdy (.cons _ _ _ _ (.agg _ _ _ _ _ _ _ rfl inferInstance inferInstance inferInstance rfl) (.cons _ _ _ _ (.tmp _ _ rfl) .nil)) (.trans (.drop1 _ _ _) (zbu (by exact Sb.aggs (by exact ⟨.refl _,.refl _,.refl _,.refl _,.refl _,.refl _,.refl _,.refl _,.nil _ _,trivial⟩)) (by exact .refl _))) ⟨rfl,congrArg (fun b=>AV.tup [.agg (evR ⟨0,0,0,0,e.o,e.v,0,[]⟩),bv b]) (by first|(simp only [zbk, *,Bool.true_and,Bool.false_and,Bool.and_false,Bool.and_true,Bool.true_or,Bool.or_false,Bool.false_or,Bool.or_true,if_true,if_false,Bool.false_eq_true,Bool.not_true,Bool.not_false];done)|(simp_all [zbk];done)|(simp_all [zbk] <;> omega))⟩
theorem yl1 (e:Ev) (h:Hist) (be bh:Nat):y8 Tryz.prog 235 [pZ be,pZ bh] [.box be 60 (evR e),.box bh 28 (y9 h)] (fun r h'=>h'= [.box be 60 (evR e),.box bh 28 (y9 h)]∧r= .tup [.agg (evR ⟨0,0,0,0,e.o,e.v,0,[]⟩),bv (zdz h e)]):=by
 refine z6 Tryz.func235 rfl rfl rfl ?_
 refine rn ?_;refine z7 rfl (y7 rfl fun b2=> ?_)
 refine rn ?_;refine zer 16 [(b2,60,_)] rfl (List.perm_append_comm (l₁:= [_])) ?_
 refine rn ?_;refine dv rfl rfl (by exact y4 rfl rfl (zbh (zwb _ 2 _ _ rfl (by decide)) (Sbs.refl _))) ?_
 refine rn ?_;refine zcp (fun hg1_9=> ?_) (fun hg1_9=> ?_)
 ·refine rn ?_;refine dv rfl rfl (by exact y4 rfl rfl (zbh (zrd h e.v) (Sbs.refl _))) ?_
  refine rn ?_;refine dw 0 rfl rfl rfl rfl rfl (Nat.le_of_ble_eq_true rfl) ?_
  refine rn2 ?_;show zb7 _ _ _ _ _ _ ⟨_,.box b2 60 _::_,_⟩
  refine rn ?_;exact zdy (.cons _ _ _ _ (.agg _ _ _ _ _ _ _ rfl inferInstance inferInstance inferInstance rfl) (.cons _ _ _ _ (.tmp _ _ rfl) .nil)) (.trans (.drop1 _ _ _) (zbu (by exact Sb.aggs (by exact ⟨.refl _,.refl _,.refl _,.refl _,.refl _,.refl _,.refl _,.refl _,.nil _ _,trivial⟩)) (by exact .refl _))) ⟨rfl,congrArg (fun b=>AV.tup [.agg (evR ⟨0,0,0,0,e.o,e.v,0,[]⟩),bv b]) (by first|(simp only [zdz, *,Bool.true_and,Bool.false_and,Bool.and_false,Bool.and_true,Bool.true_or,Bool.or_false,Bool.false_or,Bool.or_true,if_true,if_false,Bool.false_eq_true,Bool.not_true,Bool.not_false];done)|(simp_all [zdz];done)|(simp_all [zdz] <;> omega))⟩
 ·refine rn ?_;refine dw 0 rfl rfl rfl rfl rfl (Nat.le_of_ble_eq_true rfl) ?_
  refine rn2 ?_;show zb7 _ _ _ _ _ _ ⟨_,.box b2 60 _::_,_⟩
  refine rn ?_;exact zdy (.cons _ _ _ _ (.agg _ _ _ _ _ _ _ rfl inferInstance inferInstance inferInstance rfl) (.cons _ _ _ _ (.tmp _ _ rfl) .nil)) (.trans (.drop1 _ _ _) (zbu (by exact Sb.aggs (by exact ⟨.refl _,.refl _,.refl _,.refl _,.refl _,.refl _,.refl _,.refl _,.nil _ _,trivial⟩)) (by exact .refl _))) ⟨rfl,congrArg (fun b=>AV.tup [.agg (evR ⟨0,0,0,0,e.o,e.v,0,[]⟩),bv b]) (by first|(simp only [zdz, *,Bool.true_and,Bool.false_and,Bool.and_false,Bool.and_true,Bool.true_or,Bool.or_false,Bool.false_or,Bool.or_true,if_true,if_false,Bool.false_eq_true,Bool.not_true,Bool.not_false];done)|(simp_all [zdz];done)|(simp_all [zdz] <;> omega))⟩
theorem yh8 (s:Seen) (h:Hist) (bh:Nat):y8 Tryz.prog 237 [.agg (zax s),pZ bh] [.box bh 28 (y9 h)] (fun r h'=>h'= [.box bh 28 (y9 h)]∧r=bv (zin h s)):=by
 refine z6 Tryz.func237 rfl rfl rfl ?_
 refine rn ?_;refine z7 rfl (w8 rfl rfl rfl fun b2=> ?_)
 refine rn ?_;refine qv rfl rfl (y4 rfl rfl (zbh (zwb _ 2 _ _ rfl (by decide)) (Sbs.refl _))) ?_
 refine rn ?_;refine u6 (fun hg1_4=> ?_) (fun hg1_4=> ?_)
 ·refine rn ?_;refine qv rfl rfl (y4 rfl rfl (zbh (zrd h s.v) (Sbs.refl _))) ?_
  refine rn ?_;exact zal rfl (.drop1 _ _ _) ⟨rfl,congrArg bv (by first|(simp only [zin, *,Bool.true_and,Bool.false_and,Bool.and_false,Bool.and_true,Bool.true_or,Bool.or_false,Bool.false_or,Bool.or_true,if_true,if_false,Bool.false_eq_true,Bool.not_true,Bool.not_false];done)|(simp_all [zin];done)|(simp_all [zin] <;> omega))⟩
 ·refine rn ?_;exact zal rfl (.drop1 _ _ _) ⟨rfl,congrArg bv (by first|(simp only [zin, *,Bool.true_and,Bool.false_and,Bool.and_false,Bool.and_true,Bool.true_or,Bool.or_false,Bool.false_or,Bool.or_true,if_true,if_false,Bool.false_eq_true,Bool.not_true,Bool.not_false];done)|(simp_all [zin];done)|(simp_all [zin] <;> omega))⟩
theorem yl0 (e:Ev) (h:Hist) (be bh:Nat) (hl:e.scan.length≤4611686018427387904):y8 Tryz.prog 236 [pZ bh,pZ be] [.box be 60 (evR e),.box bh 28 (y9 h)] (fun r h'=>h'= [.box be 60 (evR e),.box bh 28 (y9 h)]∧r= .tup [.agg (evR ⟨0,0,0,0,0,⟨0,0⟩,e.p,e.scan⟩),bv (zck h e)]):=by
 refine z6 Tryz.func236 rfl rfl rfl ?_
 refine rn ?_;refine z7 rfl (y7 rfl fun b2=> ?_)
 refine rn ?_;refine zer 22 [(b2,60,_)] rfl (List.perm_append_comm (l₁:= [_])) ?_
 refine rn ?_;refine dv rfl rfl (by exact y4 rfl rfl (zbh (zwb _ 3 _ _ rfl (by decide)) (Sbs.refl _))) ?_
 refine rn ?_;refine zcp (fun hg2_9=> ?_) (fun hg2_9=> ?_)
 ·refine rn ?_;refine zcp (fun hg2_15=> ?_) (fun hg2_15=> ?_)
  ·refine rn ?_;refine dv rfl rfl (by exact y4 rfl rfl (z8.of_fun (yir e.scan (.fn (.func 237) [] [pZ bh]) (zin h) [.box be 60 (evR e),.box bh 28 (y9 h)] rfl (fun s hs=>z8.quiet (R:=fun x=>x=bv (zin h s)) (h2:= [_]) (List.perm_append_comm (l₁:= [_])) (z8.of_acall (fs:= []) (cs:= [pZ bh]) (yh8 s h bh))) hl))) ?_
   refine rn ?_;refine dw 0 rfl rfl rfl rfl rfl (Nat.le_of_ble_eq_true rfl) ?_
   refine rn2 ?_;show zb7 _ _ _ _ _ _ ⟨_,.box b2 60 _::_,_⟩
   refine rn ?_;exact zdy (.cons _ _ _ _ (.agg _ _ _ _ _ _ _ rfl inferInstance inferInstance inferInstance rfl) (.cons _ _ _ _ (.tmp _ _ rfl) .nil)) (.trans (.drop1 _ _ _) (zbu (by exact Sb.aggs (by exact ⟨.refl _,.refl _,.refl _,.refl _,.refl _,.refl _,.refl _,.refl _,.refl _,trivial⟩)) (by exact .refl _))) ⟨rfl,congrArg (fun b=>AV.tup [.agg (evR ⟨0,0,0,0,0,⟨0,0⟩,e.p,e.scan⟩),bv b]) (by first|(simp only [zck, *,Bool.true_and,Bool.false_and,Bool.and_false,Bool.and_true,Bool.true_or,Bool.or_false,Bool.false_or,Bool.or_true,if_true,if_false,Bool.false_eq_true,Bool.not_true,Bool.not_false];done)|(simp_all [zck];done)|(simp_all [zck] <;> omega))⟩
  ·refine rn ?_;refine dw 0 rfl rfl rfl rfl rfl (Nat.le_of_ble_eq_true rfl) ?_
   refine rn2 ?_;show zb7 _ _ _ _ _ _ ⟨_,.box b2 60 _::_,_⟩
   refine rn ?_;exact zdy (.cons _ _ _ _ (.agg _ _ _ _ _ _ _ rfl inferInstance inferInstance inferInstance rfl) (.cons _ _ _ _ (.tmp _ _ rfl) .nil)) (.trans (.drop1 _ _ _) (zbu (by exact Sb.aggs (by exact ⟨.refl _,.refl _,.refl _,.refl _,.refl _,.refl _,.refl _,.refl _,.refl _,trivial⟩)) (by exact .refl _))) ⟨rfl,congrArg (fun b=>AV.tup [.agg (evR ⟨0,0,0,0,0,⟨0,0⟩,e.p,e.scan⟩),bv b]) (by first|(simp only [zck, *,Bool.true_and,Bool.false_and,Bool.and_false,Bool.and_true,Bool.true_or,Bool.or_false,Bool.false_or,Bool.or_true,if_true,if_false,Bool.false_eq_true,Bool.not_true,Bool.not_false];done)|(simp_all [zck];done)|(simp_all [zck] <;> omega))⟩
 ·refine rn ?_;refine dw 0 rfl rfl rfl rfl rfl (Nat.le_of_ble_eq_true rfl) ?_
  refine rn2 ?_;show zb7 _ _ _ _ _ _ ⟨_,.box b2 60 _::_,_⟩
  refine rn ?_;exact zdy (.cons _ _ _ _ (.agg _ _ _ _ _ _ _ rfl inferInstance inferInstance inferInstance rfl) (.cons _ _ _ _ (.tmp _ _ rfl) .nil)) (.trans (.drop1 _ _ _) (zbu (by exact Sb.aggs (by exact ⟨.refl _,.refl _,.refl _,.refl _,.refl _,.refl _,.refl _,.refl _,.refl _,trivial⟩)) (by exact .refl _))) ⟨rfl,congrArg (fun b=>AV.tup [.agg (evR ⟨0,0,0,0,0,⟨0,0⟩,e.p,e.scan⟩),bv b]) (by first|(simp only [zck, *,Bool.true_and,Bool.false_and,Bool.and_false,Bool.and_true,Bool.true_or,Bool.or_false,Bool.false_or,Bool.or_true,if_true,if_false,Bool.false_eq_true,Bool.not_true,Bool.not_false];done)|(simp_all [zck];done)|(simp_all [zck] <;> omega))⟩
theorem ylz  :y8 Tryz.prog 239 [] [] (fun r h'=>h'= []∧r= .tup [.agg (evR ⟨0,0,0,0,0,⟨0,0⟩,0,[]⟩),bv true]):=by
 refine z6 Tryz.func239 rfl rfl rfl ?_
 refine rn ?_;refine z7 rfl (y7 rfl fun b0=> ?_)
 refine rn ?_;exact zdy (.cons _ _ _ _ (.agg _ _ _ _ _ _ _ rfl inferInstance inferInstance inferInstance rfl) (.cons _ _ _ _ (.tmp _ _ rfl) .nil)) (.trans (.drop1 _ _ _) (zbu (by exact Sb.aggs (by exact ⟨.refl _,.refl _,.refl _,.refl _,.refl _,.refl _,.refl _,.refl _,.nil _ _,trivial⟩)) (by exact .refl _))) ⟨rfl,congrArg (fun b=>AV.tup [.agg (evR ⟨0,0,0,0,0,⟨0,0⟩,0,[]⟩),bv b]) (by rfl)⟩
theorem yly  :y8 Tryz.prog 240 [] [] (fun r h'=>h'= []∧r= .tup [.agg (evR ⟨0,0,0,0,0,⟨0,0⟩,0,[]⟩),bv true]):=by
 refine z6 Tryz.func240 rfl rfl rfl ?_
 refine rn ?_;refine z7 rfl (y7 rfl fun b0=> ?_)
 refine rn ?_;exact zdy (.cons _ _ _ _ (.agg _ _ _ _ _ _ _ rfl inferInstance inferInstance inferInstance rfl) (.cons _ _ _ _ (.tmp _ _ rfl) .nil)) (.trans (.drop1 _ _ _) (zbu (by exact Sb.aggs (by exact ⟨.refl _,.refl _,.refl _,.refl _,.refl _,.refl _,.refl _,.refl _,.nil _ _,trivial⟩)) (by exact .refl _))) ⟨rfl,congrArg (fun b=>AV.tup [.agg (evR ⟨0,0,0,0,0,⟨0,0⟩,0,[]⟩),bv b]) (by rfl)⟩
theorem ydh (h:Hist) (e:Ev) (b2 b3 k:Nat) (hl:e.scan.length≤4611686018427387904) (hk:e.kind=k) (h1:1≤k) (h7:k < 7):
 ∃av,(([.v .nilFunc,.fn (.func 231) [] [pZ b3,pZ b2],.fn (.func 233) [] [pZ b3,pZ b2],.fn (.func 235) [] [pZ b3,pZ b2],.fn (.func 236) [] [pZ b2,pZ b3],.fn (.func 239) [] [],.fn (.func 240) [] []]):List AV)[k * 1]? =some av∧z8 Tryz.prog av [] [.box b3 60 (evR e),.box b2 28 (y9 h)] (fun r h'=>h'= [.box b3 60 (evR e),.box b2 28 (y9 h)]∧r= .tup [.agg (evR (zha h e).1),bv (zha h e).2]):=by
 rcases (by omega:k=1∨k=2∨k=3∨k=4∨k=5∨k=6) with rfl|rfl|rfl|rfl|rfl|rfl
 ·refine ⟨_,rfl,?_⟩
  have hc:zha h e=(⟨0,0,e.s,e.l,0,⟨0,0⟩,0,[]⟩,zds h e):=by unfold zha;rw [hk];rfl
  rw [hc]
  exact z8.of_acall (fs:= []) (cs:= [pZ b3,pZ b2]) (yl3 e h b3 b2)
 ·refine ⟨_,rfl,?_⟩
  have hc:zha h e=(⟨0,0,0,0,e.o,e.v,0,[]⟩,zbk h e):=by unfold zha;rw [hk];rfl
  rw [hc]
  exact z8.of_acall (fs:= []) (cs:= [pZ b3,pZ b2]) (yl2 e h b3 b2)
 ·refine ⟨_,rfl,?_⟩
  have hc:zha h e=(⟨0,0,0,0,e.o,e.v,0,[]⟩,zdz h e):=by unfold zha;rw [hk];rfl
  rw [hc]
  exact z8.of_acall (fs:= []) (cs:= [pZ b3,pZ b2]) (yl1 e h b3 b2)
 ·refine ⟨_,rfl,?_⟩
  have hc:zha h e=(⟨0,0,0,0,0,⟨0,0⟩,e.p,e.scan⟩,zck h e):=by unfold zha;rw [hk];rfl
  rw [hc]
  exact z8.of_acall (fs:= []) (cs:= [pZ b2,pZ b3]) (yl0 e h b3 b2 hl)
 ·refine ⟨_,rfl,?_⟩
  have hc:zha h e=(⟨0,0,0,0,0,⟨0,0⟩,0,[]⟩,true):=by unfold zha;rw [hk];rfl
  rw [hc]
  exact z8.pure (R:=fun x=>x=_) (z8.of_acall (fs:= []) (cs:= []) ylz)
 ·refine ⟨_,rfl,?_⟩
  have hc:zha h e=(⟨0,0,0,0,0,⟨0,0⟩,0,[]⟩,true):=by unfold zha;rw [hk];rfl
  rw [hc]
  exact z8.pure (R:=fun x=>x=_) (z8.of_acall (fs:= []) (cs:= []) yly)
theorem bvz4_4182 {a b:Bool} (h:a=b:=by first|(simp only [zdw, *,Bool.true_and,Bool.false_and,Bool.and_false,Bool.and_true,Bool.true_or,Bool.or_false,Bool.false_or,Bool.or_true,if_true,if_false,Bool.false_eq_true,Bool.not_true,Bool.not_false];done)|(simp_all [zdw];done)|(simp_all [zdw] <;> omega)):bv a=bv b:=congrArg bv h
theorem yof (h:Hist) (e:Ev) (hl:e.scan.length≤4611686018427387904):y8 Tryz.prog 194 [.agg (y9 h),.agg (evR e)] [] (fun r h'=>h'= []∧r=bv (zdw h e)):=by
 refine z6 Tryz.func194 rfl rfl rfl ?_
 refine rn ?_;refine z7 rfl (w8 rfl rfl rfl fun b2=> ?_)
 refine z7 rfl (w8 rfl rfl rfl fun b3=> ?_)
 refine rn ?_;refine z7 rfl (y7 rfl fun b5=> ?_)
 refine rn ?_;refine u6 (fun hg2_3=> ?_) (fun hg2_3=> ?_)
 ·refine rn ?_;refine zv5 rfl ?_;refine rn ?_;exact zal rfl (.drop [_,_,_] _ _) ⟨rfl,bvz4_4182⟩
 ·refine rn ?_;refine u6 (fun hg2_8=> ?_) (fun hg2_8=> ?_)
  ·refine rn ?_;refine zv5 rfl ?_;refine rn ?_;exact zal rfl (.drop [_,_,_] _ _) ⟨rfl,bvz4_4182⟩
  ·refine rn ?_;refine qv rfl rfl (y4 rfl rfl (zbh (zwb h 0 e.t _ rfl (by decide)) (Sbs.refl _))) ?_
   refine rn ?_;refine y0 rfl (fun hc27=> ?_) (fun hc27=> ?_)
   ·refine rn ?_;exact zal rfl (.drop [_,_,_] _ _) ⟨rfl,bvz4_4182⟩
   ·have hlo:1≤e.kind:=by simpa using hg2_3
    have hhi:e.kind < 7:=by simpa using hg2_8
    obtain ⟨k,hk⟩:=Int.eq_ofNat_of_zero_le (show 0≤e.kind by omega)
    obtain ⟨av,hav,hfc⟩:=ydh h e b2 b3 k hl hk (by omega) (by omega)
    refine za5 ?_;refine zai ?_;refine w7 (y6 ?_)
    refine q1 ?_;refine q1 ?_;refine qq rfl rfl (zah rfl (by rw [←hk];rfl) (by omega)) ?_
    refine qq rfl rfl (zac rfl (by simpa using hav)) ?_
    refine qv rfl rfl (y4 rfl rfl (z8.quiet (R:=fun x=>x=_) (h2:= [_]) (List.perm_append_comm (l₁:= [_])) hfc)) ?_
    refine rn ?_;refine z7 rfl (y7 rfl fun b6=> ?_)
    refine rn ?_;refine zer 6 [(b6,60,_)] rfl (List.perm_append_comm (l₁:= [_])) ?_
    refine rn ?_;refine dw 0 rfl rfl rfl rfl rfl (Nat.le_of_ble_eq_true rfl) ?_
    refine rn2 ?_;show zb7 _ _ _ _ _ _ ⟨_,[.box b6 60 _,.box b5 _ _,.box b3 60 (evR e),.box b2 28 (y9 h)],_⟩
    refine rn ?_;refine u6 (fun hg6_1=> ?_) (fun hg6_1=> ?_)
    ·refine rn ?_;refine qv rfl rfl (y4 rfl rfl (zbh (zw5 {(zha h e).1 with kind:=e.kind,t:=e.t} e (zzw h e hl) hl) (by exact Sbs.refl _))) ?_
     refine rn ?_;exact zal rfl (.drop [_,_,_,_] _ _) ⟨rfl,bvz4_4182⟩
    ·refine rn ?_;exact zal rfl (.drop [_,_,_,_] _ _) ⟨rfl,bvz4_4182⟩
theorem ybc (h:Hist) (b:Nat) (t:Int):y8 Tryz.prog 190 [iv t,pZ b] [.box b 28 (y9 h)] (fun r h'=>h'= [.box b 28 (y9 h)]∧r=bv (zd4 h.ts t)):=by
 refine z6 Tryz.func190 rfl rfl rfl ?_
 refine rn ?_;refine qv rfl rfl (y4 rfl rfl (zbh (zwb h 0 _ _ rfl (by decide)) (Sbs.refl _))) ?_
 refine rn ?_;exact zal rfl (.refl _ _) ⟨rfl,congrArg bv (by rfl)⟩
theorem zwy {full:Bool} (h:Hist) (b:Nat) (ts:List Int) (hl:ts.length≤4611686018427387904):y8 Tryz.prog 188 [.list full 1 (ts.map zbs),pZ b] [.box b 28 (y9 h)] (fun r h'=>h'= [.box b 28 (y9 h)]∧r=bv (tsB h ts)):=by
 refine z6 Tryz.func188 rfl rfl rfl ?_
 refine rn ?_;refine u6 (fun hg1_3=> ?_) (fun hg1_3=> ?_)
 ·refine rn ?_;refine qv rfl rfl (y4 rfl rfl (z8.of_fun (yml ts (.fn (.func 190) [] [pZ b]) (zd4 h.ts) [.box b 28 (y9 h)] rfl (fun t _=>z8.of_acall (fs:= []) (cs:= [pZ b]) (ybc h b t)) hl))) ?_
  refine rn ?_;exact zal rfl (.refl _ _) ⟨rfl,congrArg bv (by first|(simp only [tsB, *,Bool.true_and,Bool.false_and,Bool.and_false,Bool.and_true,Bool.true_or,Bool.or_false,Bool.false_or,Bool.or_true,if_true,if_false,Bool.false_eq_true,Bool.not_true,Bool.not_false];done)|(simp_all [tsB];done)|(simp_all [tsB] <;> omega))⟩
 ·refine rn ?_;exact zal rfl (.refl _ _) ⟨rfl,congrArg bv (by first|(simp only [tsB, *,Bool.true_and,Bool.false_and,Bool.and_false,Bool.and_true,Bool.true_or,Bool.or_false,Bool.false_or,Bool.or_true,if_true,if_false,Bool.false_eq_true,Bool.not_true,Bool.not_false];done)|(simp_all [tsB];done)|(simp_all [tsB] <;> omega))⟩
theorem yfx (h:Hist) (b:Nat) (e:Ev) (hl:e.scan.length≤4611686018427387904):y8 Tryz.prog 193 [.agg (evR e),pZ b] [.box b 28 (y9 h)] (fun r h'=>h'= [.box b 28 (y9 h)]∧r=bv (zdw h e)):=by
 refine z6 Tryz.func193 rfl rfl rfl ?_
 refine rn ?_;refine z7 rfl (w8 rfl rfl rfl fun b2=> ?_)
 refine rn ?_;refine qv rfl rfl (y4 rfl rfl (zbh (yof h e hl) (Sbs.refl _))) ?_
 refine rn ?_;exact zal rfl (.drop1 _ _ _) ⟨rfl,congrArg bv (by rfl)⟩
theorem yfw (h:Hist) (b c:Nat) (m:H.Ord) (hl:m.ts.length≤4611686018427387904):y8 Tryz.prog 196 [.agg (zet m),pZ b,pZ c] [.box b 28 (y9 h),.box c 231 [.fn (.func 188) [] [pZ b]]] (fun r h'=>h'= [.box b 28 (y9 h),.box c 231 [.fn (.func 188) [] [pZ b]]]∧r=bv (zwd h m)):=by
 refine z6 Tryz.func196 rfl rfl rfl ?_
 refine rn ?_;refine z7 rfl (w8 rfl rfl rfl fun b3=> ?_)
 refine rn ?_;refine qv rfl rfl (y4 rfl rfl (zbh (zwb h 2 _ _ rfl (by decide)) (Sbs.refl _))) ?_
 refine rn ?_;refine u6 (fun hg1_4=> ?_) (fun hg1_4=> ?_)
 ·refine rn ?_;refine qv rfl rfl (y4 rfl rfl (z8.quiet (R:=fun x=>x=bv (tsB h m.ts)) (h2:= [_,_]) (List.Perm.swap _ _ _) (z8.of_acall (fs:= []) (cs:= [pZ b]) (zwy h b m.ts hl)))) ?_
  refine rn ?_;exact zal rfl (.drop1 _ _ _) ⟨rfl,congrArg bv (by first|(simp only [zwd, *,Bool.true_and,Bool.false_and,Bool.and_false,Bool.and_true,Bool.true_or,Bool.or_false,Bool.false_or,Bool.or_true,if_true,if_false,Bool.false_eq_true,Bool.not_true,Bool.not_false];done)|(simp_all [zwd];done)|(simp_all [zwd] <;> omega))⟩
 ·refine rn ?_;exact zal rfl (.drop1 _ _ _) ⟨rfl,congrArg bv (by first|(simp only [zwd, *,Bool.true_and,Bool.false_and,Bool.and_false,Bool.and_true,Bool.true_or,Bool.or_false,Bool.false_or,Bool.or_true,if_true,if_false,Bool.false_eq_true,Bool.not_true,Bool.not_false];done)|(simp_all [zwd];done)|(simp_all [zwd] <;> omega))⟩
theorem bvz5_3612 {a b:Bool} (h:a=b:=by first|(simp only [ycx, *,Bool.true_and,Bool.false_and,Bool.and_false,Bool.and_true,Bool.true_or,Bool.or_false,Bool.false_or,Bool.or_true,if_true,if_false,Bool.false_eq_true,Bool.not_true,Bool.not_false];done)|(simp_all [ycx];done)|(simp_all [ycx] <;> omega)):bv a=bv b:=congrArg bv h
theorem yfv (h:Hist) (b c:Nat) (m:Mat) (hl:m.ts.length≤4611686018427387904):y8 Tryz.prog 198 [.agg (zee m),pZ b,pZ c] [.box b 28 (y9 h),.box c 231 [.fn (.func 188) [] [pZ b]]] (fun r h'=>h'= [.box b 28 (y9 h),.box c 231 [.fn (.func 188) [] [pZ b]]]∧r=bv (ycx h m)):=by
 refine z6 Tryz.func198 rfl rfl rfl ?_
 refine rn ?_;refine z7 rfl (w8 rfl rfl rfl fun b3=> ?_)
 refine rn ?_;refine qv rfl rfl (y4 rfl rfl (zbh (zwb h 3 _ _ rfl (by decide)) (Sbs.refl _))) ?_
 refine rn ?_;refine u6 (fun hg1_4=> ?_) (fun hg1_4=> ?_)
 ·refine rn ?_;refine qv rfl rfl (y4 rfl rfl (zbh (zwb h 2 _ _ rfl (by decide)) (Sbs.refl _))) ?_
  refine rn ?_;refine u6 (fun hg1_10=> ?_) (fun hg1_10=> ?_)
  ·refine rn ?_;refine qv rfl rfl (y4 rfl rfl (z8.quiet (R:=fun x=>x=bv (tsB h m.ts)) (h2:= [_,_]) (List.Perm.swap _ _ _) (z8.of_acall (fs:= []) (cs:= [pZ b]) (zwy h b m.ts hl)))) ?_
   refine rn ?_;exact zal rfl (.drop1 _ _ _) ⟨rfl,bvz5_3612⟩
  ·refine rn ?_;exact zal rfl (.drop1 _ _ _) ⟨rfl,bvz5_3612⟩
 ·refine rn ?_;exact zal rfl (.drop1 _ _ _) ⟨rfl,bvz5_3612⟩
theorem bvz6_3617 {a b:Bool} (h:a=b:=by first|(simp only [yd0, *,Bool.true_and,Bool.false_and,Bool.and_false,Bool.and_true,Bool.true_or,Bool.or_false,Bool.false_or,Bool.or_true,if_true,if_false,Bool.false_eq_true,Bool.not_true,Bool.not_false];done)|(simp_all [yd0];done)|(simp_all [yd0] <;> omega)):bv a=bv b:=congrArg bv h
theorem yfu (h:Hist) (b:Nat) (w:Wan):y8 Tryz.prog 200 [.agg (zgk w),pZ b] [.box b 28 (y9 h)] (fun r h'=>h'= [.box b 28 (y9 h)]∧r=bv (yd0 h w)):=by
 refine z6 Tryz.func200 rfl rfl rfl ?_
 refine rn ?_;refine z7 rfl (w8 rfl rfl rfl fun b2=> ?_)
 refine rn ?_;refine qv rfl rfl (y4 rfl rfl (zbh (zwb h 1 _ _ rfl (by decide)) (Sbs.refl _))) ?_
 refine rn ?_;refine u6 (fun hg1_4=> ?_) (fun hg1_4=> ?_)
 ·refine rn ?_;refine u6 (fun hg1_9=> ?_) (fun hg1_9=> ?_)
  ·refine rn ?_;exact zal rfl (.drop1 _ _ _) ⟨rfl,bvz6_3617⟩
  ·refine rn ?_;exact zal rfl (.drop1 _ _ _) ⟨rfl,bvz6_3617⟩
 ·refine rn ?_;exact zal rfl (.drop1 _ _ _) ⟨rfl,bvz6_3617⟩
theorem bvz7_3627 {a b:Bool} (h:a=b:=by first|(simp only [za2, *,Bool.true_and,Bool.false_and,Bool.and_false,Bool.and_true,Bool.true_or,Bool.or_false,Bool.false_or,Bool.or_true,if_true,if_false,Bool.false_eq_true,Bool.not_true,Bool.not_false];done)|(simp_all [za2];done)):bv a=bv b:=congrArg bv h
theorem yjk (h:Hist) (la:Lim 4611686018427387904 h):y8 Tryz.prog 140 [.agg (y9 h)] [.glob 2 156 y2,.glob 4 305 y3,.glob 5 308 y1] (fun r h'=>h'= [.glob 2 156 y2,.glob 4 305 y3,.glob 5 308 y1]∧r=bv (za2 h)):=by
 refine z6 Tryz.func140 rfl rfl rfl ?_
 refine rn ?_;refine z7 rfl (w8 rfl rfl rfl fun b1=> ?_)
 refine rn ?_;refine zii ?_;refine zqx (⟨[(1,pZ b1),(3,bv (okK h 0))],.box b1 28 (y9 h):: [.glob 2 156 y2,.glob 4 305 y3,.glob 5 308 y1],[]⟩) ?_ ?_
 ·refine rn ?_;refine u6 (fun hg1_4=> ?_) (fun hg1_4=> ?_)
  ·refine rn ?_;rw [show okK h 0=_ from ztc h,hg1_4]
   exact (u0 (.cons _ _ _ rfl (.cons _ _ _ rfl (.nil))))
  ·refine rn ?_;rw [show okK h 0=_ from ztc h,hg1_4]
   exact (u0 (.cons _ _ _ rfl (.cons _ _ _ rfl (.nil))))
 ·refine w7 ?_;refine zum ?_;refine rn0 ?_;refine zqx (⟨[(3,bv (okK h 4)),(1,pZ b1)],.box b1 28 (y9 h):: [.glob 2 156 y2,.glob 4 305 y3,.glob 5 308 y1],[]⟩) ?_ ?_
  ·refine rn ?_;refine qv rfl rfl (y4 rfl rfl (zbh (yg7 _) (Sbs.refl _))) ?_
   refine rn ?_;refine zak (fun k:Nat=>k≤4) (fun k=>⟨[(29,iv k),(28,.agg (zjj h)),(1,pZ b1),(3,bv (okK h k))],.box b1 28 (y9 h):: [.glob 2 156 y2,.glob 4 305 y3,.glob 5 308 y1],[]⟩) (fun k=>4 - k) 0 (by omega)
    (u0 (.cons _ _ _ rfl (.cons _ _ _ rfl (.cons _ _ _ rfl (.cons _ _ _ rfl (.nil)))))) ?_
   rintro k hk
   refine rn ?_;refine y0 rfl (fun hc30=> ?_) (fun hc30=> ?_)
   ·have hk4:k < 4:=by simp at hc30;omega
    refine za5 ?_;refine zai ?_;refine w7 ?_;refine zdj ?_;refine w7 (y6 ?_)
    refine q1 ?_;refine qq rfl rfl (zct rfl rfl (by omega) (by have:=zx4 h hk4;simpa using this)) ?_
    refine rn ?_;refine z7 rfl (zar (enc:=zwq) rfl fun b33=> ?_)
    refine rn0 ?_;refine zqx (⟨[(5,zcw (nmK h k)),(3,bv (okj h k 0)),(6,.v (.map (some b33))),(29,iv k),(28,.agg (zjj h)),(1,pZ b1)],.map b33 (zaf zwq []):: .box b1 28 (y9 h):: [.glob 2 156 y2,.glob 4 305 y3,.glob 5 308 y1],[]⟩) ?_ ?_
    ·refine rn ?_;refine u6 (fun hg6_1=> ?_) (fun hg6_1=> ?_)
     ·refine q1 ?_;refine q1 ?_;refine q1 ?_;refine qq rfl rfl (zah rfl rfl (by omega)) ?_
      refine qq rfl rfl (zac rfl (zsa hk4)) ?_
      refine rn ?_;rw [yee h k,hg6_1]
      first|exact (u0 (.cons _ _ _ rfl (.cons _ _ _ rfl (.cons _ _ _ rfl (.cons _ _ _ rfl (.cons _ _ _ rfl (.cons _ _ _ rfl (.nil))))))))|(rw [Bool.true_and];exact (u0 (.cons _ _ _ rfl (.cons _ _ _ rfl (.cons _ _ _ rfl (.cons _ _ _ rfl (.cons _ _ _ rfl (.cons _ _ _ rfl (.nil)))))))))
     ·refine rn ?_;rw [yee h k,hg6_1]
      first|exact (u0 (.cons _ _ _ rfl (.cons _ _ _ rfl (.cons _ _ _ rfl (.cons _ _ _ rfl (.cons _ _ _ rfl (.cons _ _ _ rfl (.nil))))))))|(rw [Bool.true_and];exact (u0 (.cons _ _ _ rfl (.cons _ _ _ rfl (.cons _ _ _ rfl (.cons _ _ _ rfl (.cons _ _ _ rfl (.cons _ _ _ rfl (.nil)))))))))
    ·refine rn ?_;refine zak (fun j:Nat=>j≤(nmK h k).length∧(0 < j→okj h k 0=true)∧zeq [] (nmK h k)=zeq ((nmK h k).take j) ((nmK h k).drop j)) (fun j=>⟨[(45,iv j),(43,zcw (nmK h k)),(44,iv ((nmK h k).map zmd).length),(3,bv (okj h k 0)),(6,.v (.map (some b33))),(29,iv k),(28,.agg (zjj h)),(1,pZ b1)],.map b33 (zaf zwq (yeh ((nmK h k).take j))):: .box b1 28 (y9 h):: [.glob 2 156 y2,.glob 4 305 y3,.glob 5 308 y1],[]⟩) (fun j=>(nmK h k).length - j) 0 ⟨by omega,by omega,by simp⟩
      (u0 (.cons _ _ _ rfl (.cons _ _ _ rfl (.cons _ _ _ rfl (.cons _ _ _ rfl (.cons _ _ _ rfl (.cons _ _ _ rfl (.cons _ _ _ rfl (.cons _ _ _ rfl (.nil)))))))))) ?_
     rintro j ⟨hj,hok,hf⟩
     have hlk:=la.nm k
     refine rn ?_;refine y0 rfl (fun hc46=> ?_) (fun hc46=> ?_)
     ·have hj2:j < (nmK h k).length:=by simpa using hc46
      have hrow:(zcw (nmK h k))= .list false 1 ((nmK h k).map zmd):=rfl
      have hrow2:((nmK h k).map zmd)[j]? =some (zmd (nmK h k)[j]):=by simp [hj2]
      have hd:=List.drop_eq_getElem_cons hj2
      refine za5 ?_;refine rn0 ?_;refine w7 ?_;refine zdj ?_;refine w7 (y6 ?_)
      refine rn0 ?_;refine w7 ?_;refine zqx (⟨[(3,bv (okj h k 0 && zil (nmK h k)[j] && !ycp (nmK h k)[j] ((nmK h k).take j))),(8,sv (nmK h k)[j]),(45,iv j),(43,zcw (nmK h k)),(44,iv ((nmK h k).map zmd).length),(6,.v (.map (some b33))),(29,iv k),(28,.agg (zjj h)),(1,pZ b1)],.map b33 (zaf zwq (yeh ((nmK h k).take j))):: .box b1 28 (y9 h):: [.glob 2 156 y2,.glob 4 305 y3,.glob 5 308 y1],[]⟩) ?_ ?_
      ·refine rn ?_;refine u6 (fun hg10_1=> ?_) (fun hg10_1=> ?_)
       ·refine rn ?_;refine qv rfl rfl (y4 rfl rfl (z8.qt (z8.of_fun (yo8 ((nmK h k)[j]))) ((pt3 _ _ _ _ _).trans (.cons _ (pt3 _ _ _ _ _))))) ?_
        refine rn ?_;refine u6 (fun hg10_5=> ?_) (fun hg10_5=> ?_)
        ·refine rn ?_;refine qq rfl rfl (zpn (enc:=zwq) (k:=(nmK h k)[j]) rfl rfl (zvl _ _)) ?_
         refine rn ?_;first|(rw [hg10_1,hg10_5];exact (u0 (.cons _ _ _ rfl (.cons _ _ _ rfl (.cons _ _ _ rfl (.cons _ _ _ rfl (.cons _ _ _ rfl (.cons _ _ _ rfl (.cons _ _ _ rfl (.cons _ _ _ rfl (.cons _ _ _ rfl (.nil))))))))))))|(rw [hg10_1];exact (u0 (.cons _ _ _ rfl (.cons _ _ _ rfl (.cons _ _ _ rfl (.cons _ _ _ rfl (.cons _ _ _ rfl (.cons _ _ _ rfl (.cons _ _ _ rfl (.cons _ _ _ rfl (.cons _ _ _ rfl (.nil))))))))))))
        ·refine rn ?_;first|(rw [hg10_1,hg10_5];exact (u0 (.cons _ _ _ rfl (.cons _ _ _ rfl (.cons _ _ _ rfl (.cons _ _ _ rfl (.cons _ _ _ rfl (.cons _ _ _ rfl (.cons _ _ _ rfl (.cons _ _ _ rfl (.cons _ _ _ rfl (.nil))))))))))))|(rw [hg10_1];exact (u0 (.cons _ _ _ rfl (.cons _ _ _ rfl (.cons _ _ _ rfl (.cons _ _ _ rfl (.cons _ _ _ rfl (.cons _ _ _ rfl (.cons _ _ _ rfl (.cons _ _ _ rfl (.cons _ _ _ rfl (.nil))))))))))))
       ·refine rn ?_;first|(rw [hg10_1,hg10_5];exact (u0 (.cons _ _ _ rfl (.cons _ _ _ rfl (.cons _ _ _ rfl (.cons _ _ _ rfl (.cons _ _ _ rfl (.cons _ _ _ rfl (.cons _ _ _ rfl (.cons _ _ _ rfl (.cons _ _ _ rfl (.nil))))))))))))|(rw [hg10_1];exact (u0 (.cons _ _ _ rfl (.cons _ _ _ rfl (.cons _ _ _ rfl (.cons _ _ _ rfl (.cons _ _ _ rfl (.cons _ _ _ rfl (.cons _ _ _ rfl (.cons _ _ _ rfl (.cons _ _ _ rfl (.nil))))))))))))
      ·refine rn ?_;refine y0 rfl (fun hc61=> ?_) (fun hc61=> ?_)
       ·have hfl:(okj h k 0 && zil (nmK h k)[j] && !ycp (nmK h k)[j] ((nmK h k).take j))=false:=ycj hc61
        have hbad:okK h 4=false:=ykv hk4 (ynt (hf.trans (by rw [hd])) hfl)
        refine rn ?_;first
         |exact (u0 (.cons _ _ _ rfl (.cons _ _ _ rfl (.nil))))
         |(rw [hbad,←hfl];exact (v8 (zd8 (h1:= [_])) (u0 (.cons _ _ _ rfl (.cons _ _ _ rfl (.nil))))))
       ·obtain ⟨hok2,hw,hfresh⟩:=ykw (yck hc61)
        refine rn ?_;refine z7 rfl (zjh (enc:=zwq) (k:=(nmK h k)[j]) rfl rfl rfl ?_)
        refine rn ?_;have hu:=zs4 ((nmK h k)[j]) ((nmK h k).take j) (yk0.1 hfresh)
        rw [←List.take_succ_eq_append_getElem hj2] at hu
        exact ⟨j+1,⟨by omega,fun _=>hok2,by rw [hf,hd,zeq,hw,List.take_succ_eq_append_getElem hj2];simp [hfresh]⟩,by simp only [hu,hok2,hw,hfresh,Bool.true_and,Bool.not_false];exact (u0 (.cons _ _ _ rfl (.cons _ _ _ rfl (.cons _ _ _ rfl (.cons _ _ _ rfl (.cons _ _ _ rfl (.cons _ _ _ rfl (.cons _ _ _ rfl (.cons _ _ _ rfl (.nil)))))))))),by omega⟩
     ·have hj3:j=(nmK h k).length:=by
       have:(nmK h k).length≤j:=by simpa using hc46
       omega
      refine rn ?_;have hend:=yku (h:=h) (k:=k) (by rw [hf,hj3,List.drop_length];rfl)
      exact ⟨k+1,by omega,by rw [←hend];exact (v8 (zd8 (h1:= [_])) (u0 (.cons _ _ _ rfl (.cons _ _ _ rfl (.cons _ _ _ rfl (.cons _ _ _ rfl (.nil))))))),by omega⟩
   ·have hk4:k=4:=by simp at hc30;omega
    subst hk4
    refine rn ?_;first
     |exact (u0 (.cons _ _ _ rfl (.cons _ _ _ rfl (.nil))))
     |(rw [hbad,←hfl];exact (v8 (zd8 (h1:= [_])) (u0 (.cons _ _ _ rfl (.cons _ _ _ rfl (.nil))))))
  ·refine rn ?_;refine z7 rfl (y7 rfl fun b9=> ?_)
   refine rn ?_;refine u6 (fun hg16_1=> ?_) (fun hg16_1=> ?_)
   ·refine rn ?_;refine qv rfl rfl (y4 rfl rfl (z8.of_fun (yoo h.evs (.fn (.func 193) [] [pZ b1]) (zdw h) (.box b9 231 [.fn (.func 188) [] [pZ b1]]:: .box b1 28 (y9 h):: [.glob 2 156 y2,.glob 4 305 y3,.glob 5 308 y1]) rfl (fun e he=>z8.qt (z8.of_acall (fs:= []) (cs:= [pZ b1]) (yfx h b1 e (la.scans e he))) (pt1 _ _ _)) la.evs))) ?_
    refine rn ?_;refine u6 (fun hg16_7=> ?_) (fun hg16_7=> ?_)
    ·refine rn ?_;refine qv rfl rfl (y4 rfl rfl (z8.of_fun (ymj h.ords (.fn (.func 196) [] [pZ b1,pZ b9]) (zwd h) (.box b9 231 [.fn (.func 188) [] [pZ b1]]:: .box b1 28 (y9 h):: [.glob 2 156 y2,.glob 4 305 y3,.glob 5 308 y1]) rfl (fun e he=>z8.qt (z8.of_acall (fs:= []) (cs:= [pZ b1,pZ b9]) (yfw h b1 b9 e (la.ordts e he))) (pt1 _ _ _)) la.ords))) ?_
     refine rn ?_;refine u6 (fun hg16_13=> ?_) (fun hg16_13=> ?_)
     ·refine rn ?_;refine qv rfl rfl (y4 rfl rfl (z8.of_fun (ymk h.mats (.fn (.func 198) [] [pZ b1,pZ b9]) (ycx h) (.box b9 231 [.fn (.func 188) [] [pZ b1]]:: .box b1 28 (y9 h):: [.glob 2 156 y2,.glob 4 305 y3,.glob 5 308 y1]) rfl (fun e he=>z8.qt (z8.of_acall (fs:= []) (cs:= [pZ b1,pZ b9]) (yfv h b1 b9 e (la.matts e he))) (pt1 _ _ _)) la.mats))) ?_
      refine rn ?_;refine u6 (fun hg16_19=> ?_) (fun hg16_19=> ?_)
      ·refine rn ?_;refine qv rfl rfl (y4 rfl rfl (z8.of_fun (ymi h.wants (.fn (.func 200) [] [pZ b1]) (yd0 h) (.box b9 231 [.fn (.func 188) [] [pZ b1]]:: .box b1 28 (y9 h):: [.glob 2 156 y2,.glob 4 305 y3,.glob 5 308 y1]) rfl (fun e he=>z8.qt (z8.of_acall (fs:= []) (cs:= [pZ b1]) (yfu h b1 e)) (pt1 _ _ _)) la.wants))) ?_
       refine rn ?_;refine ⟨fun l h=>(by cases h),?_⟩
       exact zal rfl (.drop [_,_] _ _) ⟨rfl,bvz7_3627⟩
      ·refine rn ?_;refine ⟨fun l h=>(by cases h),?_⟩
       exact zal rfl (.drop [_,_] _ _) ⟨rfl,bvz7_3627⟩
     ·refine rn ?_;refine ⟨fun l h=>(by cases h),?_⟩
      exact zal rfl (.drop [_,_] _ _) ⟨rfl,bvz7_3627⟩
    ·refine rn ?_;refine ⟨fun l h=>(by cases h),?_⟩
     exact zal rfl (.drop [_,_] _ _) ⟨rfl,bvz7_3627⟩
   ·refine rn ?_;refine ⟨fun l h=>(by cases h),?_⟩
    exact zal rfl (.drop [_,_] _ _) ⟨rfl,bvz7_3627⟩
theorem zu1 {σ:Type} (step:σ→Nat×Int→Option σ) (ok:Nat×Int→Prop) (IJ:Option σ→List Res→Prop) (y:AV) (hy:∀(s:σ) (L:List Res) (sort:Nat) (n:Int) (cells:List AV),ok (sort,n)→IJ (some s) L→z8 Tryz.prog y [iv sort,.pp (iv n::cells)] L (fun r h'=>r=bv (step s (sort,n)).isSome∧IJ (step s (sort,n)) h')) (sort:Nat) (n:Int) (hs:ok (sort,n)) (cells:List AV) (bm by_:Nat) (st:Option σ) (L:List Res) (hI:IJ st L):y8 Tryz.prog 202 [iv sort,.pp (iv n::cells),pZ bm,pZ by_] (.box bm 4 [bv (st).isSome]:: .box by_ 239 [y]::L) (fun r h'=>∃L',IJ (goes step st [(sort,n)]) L'∧h'= .box bm 4 [bv (goes step st [(sort,n)]).isSome]:: .box by_ 239 [y]::L'):=by
 refine z6 Tryz.func202 rfl rfl rfl ?_
 refine rn ?_;refine u6 (fun hg0_1=> ?_) (fun hg0_1=> ?_)
 ·refine rn ?_;obtain ⟨s,rfl⟩:=Option.isSome_iff_exists.1 hg0_1
  refine z7 rfl (v6 rfl rfl (z8.fr2 (hy s L sort n cells hs hI)) rfl ?_)
  rintro _ _ ⟨L2,rfl,rfl,hI2⟩
  refine rn ?_;first
   |exact zeo .nil (.refl _ _) ⟨L2,hI2,rfl⟩
   |(obtain rfl:=Option.not_isSome_iff_eq_none.1 (show ¬st.isSome=true by simp [hg0_1])
     exact zeo .nil (.refl _ _) ⟨L,hI,rfl⟩)
 ·refine rn ?_;first
   |exact zeo .nil (.refl _ _) ⟨L2,hI2,rfl⟩
   |(obtain rfl:=Option.not_isSome_iff_eq_none.1 (show ¬st.isSome=true by simp [hg0_1])
     exact zeo .nil (.refl _ _) ⟨L,hI,rfl⟩)
theorem yho {σ:Type} (step:σ→Nat×Int→Option σ) (ok:Nat×Int→Prop) (IJ:Option σ→List Res→Prop) (y:AV) (hy:∀(s:σ) (L:List Res) (sort:Nat) (n:Int) (cells:List AV),ok (sort,n)→IJ (some s) L→z8 Tryz.prog y [iv sort,.pp (iv n::cells)] L (fun r h'=>r=bv (step s (sort,n)).isSome∧IJ (step s (sort,n)) h')) (v:Ver) (hv:∀x∈zf4 v,ok x) (cells:List AV) (bs bm by_:Nat) (st:Option σ) (L:List Res) (hI:IJ st L):y8 Tryz.prog 203 [.pp (iv v.t::iv v.k::cells),pZ bs] (.box bs 240 [.fn (.func 202) [] [pZ bm,pZ by_]]:: .box bm 4 [bv (st).isSome]:: .box by_ 239 [y]::L) (fun r h'=>∃L',IJ (goes step st (zf4 v)) L'∧h'= .box bs 240 [.fn (.func 202) [] [pZ bm,pZ by_]]:: .box bm 4 [bv (goes step st (zf4 v)).isSome]:: .box by_ 239 [y]::L'):=by
 refine z6 Tryz.func203 rfl rfl rfl ?_
 refine rn ?_;refine y0 rfl (fun hc7=> ?_) (fun hc7=> ?_)
 ·refine zad 4 rfl ?_
  refine rn ?_;refine z7 rfl (v6 rfl rfl (z8.fr1 (z8.of_acall (fs:= []) (cs:= [pZ bm,pZ by_]) (zu1 step ok IJ y hy 0 v.t (hv _ (by rw [zf4,if_pos hc7];simp)) (iv v.k::cells) bm by_ _ _ hI))) rfl ?_)
  rintro _ _ ⟨_,rfl,L2,hI2,rfl⟩
  refine rn ?_;first
   |(have hm:zf4 v= [(0,v.t)]:=by rw [zf4,if_pos hc7]
     rw [hm];exact zeo .nil (.refl _ _) ⟨L2,hI2,rfl⟩)
   |(have hm:zf4 v= []:=by rw [zf4,if_neg (by rw [hc7];decide)]
     rw [hm];exact zeo .nil (.refl _ _) ⟨L,hI,rfl⟩)
 ·refine rn ?_;first
   |(have hm:zf4 v= [(0,v.t)]:=by rw [zf4,if_pos hc7]
     rw [hm];exact zeo .nil (.refl _ _) ⟨L2,hI2,rfl⟩)
   |(have hm:zf4 v= []:=by rw [zf4,if_neg (by rw [hc7];decide)]
     rw [hm];exact zeo .nil (.refl _ _) ⟨L,hI,rfl⟩)
theorem yfo {σ:Type} (step:σ→Nat×Int→Option σ) (ok:Nat×Int→Prop) (IJ:Option σ→List Res→Prop) (y:AV) (hone:y.cellsOf=some [y]) (hy:∀(s:σ) (L:List Res) (sort:Nat) (n:Int) (cells:List AV),ok (sort,n)→IJ (some s) L→z8 Tryz.prog y [iv sort,.pp (iv n::cells)] L (fun r h'=>r=bv (step s (sort,n)).isSome∧IJ (step s (sort,n)) h')) (h:Hist) (la:Lim 4611686018427387904 h) (b1 bh:Nat) (hok:∀x∈zc9 h,ok x) (s0:σ) (L0:List Res) (h0:IJ (some s0) L0):y8 Tryz.prog 201 [y,pZ b1] (.box b1 184 [pZ bh]:: .box bh 28 (y9 h)::L0) (fun r h'=>∃L',IJ (goes step (some s0) (zc9 h)) L'∧h'= .box b1 184 [pZ bh]:: .box bh 28 (y9 h)::L'):=by
 refine z6 Tryz.func201 rfl rfl rfl ?_
 refine rn ?_;refine z7 rfl (w8 rfl hone rfl fun by_=> ?_)
 refine rn ?_;refine z7 rfl (y7 rfl fun bm=> ?_)
 refine rn ?_;refine z7 rfl (y7 rfl fun bs=> ?_)
 refine rn ?_;refine zak (fun x:Nat×Option σ×List Res=>x.1≤h.evs.length∧IJ x.2.1 x.2.2∧Rem step ok x.2.1 (((h.evs.drop x.1).flatMap evL)++(h.ords.flatMap yg0++(h.mats.flatMap ycu++h.wants.flatMap yai))) (goes step (some s0) (zc9 h))) (fun x=>⟨[(22,iv x.1),(21,iv (h.evs.map evR).length),(1,pZ b1),(4,pZ bs),(5,.fn (.func 203) [] [pZ bs])],.box b1 184 [pZ bh]:: .box bh 28 (y9 h):: .box bs 240 [.fn (.func 202) [] [pZ bm,pZ by_]]:: .box bm 4 [bv (x.2.1).isSome]:: .box by_ 239 [y]::x.2.2,[]⟩) (fun x=>h.evs.length - x.1) (0,some s0,L0) ⟨by omega,h0,rfl,hok⟩
  (v8 (zag ((pt3 _ _ _ _ _).trans (.cons _ (pt3 _ _ _ _ _)))) (u0 (.cons _ _ _ rfl (.cons _ _ _ rfl (.cons _ _ _ rfl (.cons _ _ _ rfl (.cons _ _ _ rfl (.nil)))))))) ?_
 rintro ⟨k,st,L⟩ ⟨hk,hI,hF⟩
 simp only at hk hI hF
 refine rn ?_;refine y0 rfl (fun hc23=> ?_) (fun hc23=> ?_)
 ·have k2:k < h.evs.length:=by simpa using hc23
  obtain ⟨e,he⟩:∃e,e=h.evs[k]:=⟨_,rfl⟩
  have hrowe:(h.evs.map evR)[k]? =some (evR e):=by rw [he];simp [k2]
  have hde:=List.drop_eq_getElem_cons k2
  rw [hde,←he] at hF
  simp only [List.flatMap_cons,evL,List.cons_append,List.append_assoc] at hF
  obtain ⟨hx,hF⟩:=hF.cons
  obtain ⟨hkx,hF⟩:=hF.app
  have hle:=la.evs
  have hls:=la.scans e (by rw [he];simp)
  refine rn ?_;refine zad 4 rfl ?_
  refine rn ?_;refine z7 rfl (v6 rfl rfl (z8.fr3 (z8.of_acall (fs:= []) (cs:= [pZ bm,pZ by_]) (zu1 step ok IJ y hy 0 e.t hx _ bm by_ _ _ hI))) rfl ?_)
  rintro _ _ ⟨_,rfl,L,hI,rfl⟩
  refine rn0 ?_;refine yin (fun L=>IJ (goes step (goes step st [(0,e.t)]) (zf7 e)) L) (fun L=>⟨[(7,.pp (evR e)),(22,iv k),(21,iv (h.evs.map evR).length),(1,pZ b1),(4,pZ bs),(5,.fn (.func 203) [] [pZ bs])],.box b1 184 [pZ bh]:: .box bh 28 (y9 h):: .box bs 240 [.fn (.func 202) [] [pZ bm,pZ by_]]:: .box bm 4 [bv (goes step (goes step st [(0,e.t)]) (zf7 e)).isSome]:: .box by_ 239 [y]::L,[]⟩) ?_ ?_
  ·refine rn ?_;refine y0 rfl (fun hc40=> ?_) (fun hc40=> ?_)
   ·have hkl:=zym (e:=e) (by simpa using hc40)
    refine zad 4 rfl ?_
    refine rn ?_;refine z7 rfl (v6 rfl rfl (z8.fr3 (z8.of_acall (fs:= []) (cs:= [pZ bm,pZ by_]) (zu1 step ok IJ y hy 1 e.s (hkx _ (by rw [hkl];simp)) _ bm by_ _ _ hI))) rfl ?_)
    rintro _ _ ⟨_,rfl,L,hI,rfl⟩
    refine rn ?_;refine ⟨L,?_,?_⟩
    ·show IJ (goes step _ (zf7 e)) L
     rw [hkl];exact hI
    ·rw [hkl];exact (u0 (.cons _ _ _ rfl (.cons _ _ _ rfl (.cons _ _ _ rfl (.cons _ _ _ rfl (.cons _ _ _ rfl (.cons _ _ _ rfl (.nil))))))))
   ·have hn1:e.kind≠1:=by simpa using hc40
    refine rn ?_;refine y0 rfl (fun hc47=> ?_) (fun hc47=> ?_)
    ·have hk23:e.kind=2∨e.kind=3:=by simp at hc47;omega
     have hkl:=zle hk23
     refine rn ?_;refine y0 rfl (fun hc47=> ?_) (fun hc47=> ?_)
     ·have hk23:e.kind=2∨e.kind=3:=by simp at hc47;omega
      have hkl:=zle hk23
      refine rn ?_;refine zad 4 rfl ?_
      refine rn ?_;refine z7 rfl (v6 rfl rfl (z8.fr3 (z8.of_acall (fs:= []) (cs:= [pZ bm,pZ by_]) (zu1 step ok IJ y hy 2 e.o (hkx _ (by rw [hkl];simp)) _ bm by_ _ _ hI))) rfl ?_)
      rintro _ _ ⟨_,rfl,L,hI,rfl⟩
      refine rn ?_;refine z7 rfl (v6 rfl rfl (z8.fr2 (z8.of_acall (fs:= []) (cs:= [pZ bs]) (yho step ok IJ y hy e.v (fun x hx=>hkx x (by rw [hkl];simp [hx])) _ bs bm by_ _ _ hI))) rfl ?_)
      rintro _ _ ⟨_,rfl,L,hI,rfl⟩
      refine rn ?_;refine ⟨L,?_,?_⟩
      ·show IJ (goes step _ (zf7 e)) L
       rw [hkl];exact hI
      ·rw [hkl];exact (u0 (.cons _ _ _ rfl (.cons _ _ _ rfl (.cons _ _ _ rfl (.cons _ _ _ rfl (.cons _ _ _ rfl (.cons _ _ _ rfl (.nil))))))))
     ·first|cases hc47|exact absurd hc47 (by decide)|(exfalso;simp_all;done)
    ·have hn23:=hc47
     simp at hn23
     refine rn ?_;refine y0 rfl (fun hc47=> ?_) (fun hc47=> ?_)
     ·have hk23:e.kind=2∨e.kind=3:=by simp at hc47;omega
      have hkl:=zle hk23
      refine rn ?_;refine zad 4 rfl ?_
      refine rn ?_;refine z7 rfl (v6 rfl rfl (z8.fr3 (z8.of_acall (fs:= []) (cs:= [pZ bm,pZ by_]) (zu1 step ok IJ y hy 2 e.o (hkx _ (by rw [hkl];simp)) _ bm by_ _ _ hI))) rfl ?_)
      rintro _ _ ⟨_,rfl,L,hI,rfl⟩
      refine rn ?_;refine z7 rfl (v6 rfl rfl (z8.fr2 (z8.of_acall (fs:= []) (cs:= [pZ bs]) (yho step ok IJ y hy e.v (fun x hx=>hkx x (by rw [hkl];simp [hx])) _ bs bm by_ _ _ hI))) rfl ?_)
      rintro _ _ ⟨_,rfl,L,hI,rfl⟩
      refine rn ?_;refine ⟨L,?_,?_⟩
      ·show IJ (goes step _ (zf7 e)) L
       rw [hkl];exact hI
      ·rw [hkl];exact (u0 (.cons _ _ _ rfl (.cons _ _ _ rfl (.cons _ _ _ rfl (.cons _ _ _ rfl (.cons _ _ _ rfl (.cons _ _ _ rfl (.nil))))))))
     ·have hn23:=hc47
      simp at hn23
      refine rn ?_;refine y0 rfl (fun hc60=> ?_) (fun hc60=> ?_)
      ·have hkl:=zyl (e:=e) (by simpa using hc60)
       refine zad 4 rfl ?_
       refine rn ?_;refine z7 rfl (v6 rfl rfl (z8.fr3 (z8.of_acall (fs:= []) (cs:= [pZ bm,pZ by_]) (zu1 step ok IJ y hy 3 e.p (hkx _ (by rw [hkl];simp)) _ bm by_ _ _ hI))) rfl ?_)
       rintro _ _ ⟨_,rfl,L,hI,rfl⟩
       refine rn ?_;refine ⟨L,?_,?_⟩
       ·show IJ (goes step _ (zf7 e)) L
        rw [hkl];exact hI
       ·rw [hkl];exact (u0 (.cons _ _ _ rfl (.cons _ _ _ rfl (.cons _ _ _ rfl (.cons _ _ _ rfl (.cons _ _ _ rfl (.cons _ _ _ rfl (.nil))))))))
      ·have hn4:e.kind≠4:=by simpa using hc60
       have hkl:=zyn (e:=e) hn1 (by omega) (by omega) hn4
       refine rn ?_;refine ⟨L,?_,?_⟩
       ·show IJ (goes step _ (zf7 e)) L
        rw [hkl];exact hI
       ·rw [hkl];exact (u0 (.cons _ _ _ rfl (.cons _ _ _ rfl (.cons _ _ _ rfl (.cons _ _ _ rfl (.cons _ _ _ rfl (.cons _ _ _ rfl (.nil))))))))
  ·rintro L hI
   revert hI hF
   generalize goes step (goes step st [(0,e.t)]) (zf7 e)=st2
   intro hF hI
   refine rn ?_;refine zak (fun x:Nat×Option σ×List Res=>x.1≤e.scan.length∧IJ x.2.1 x.2.2∧Rem step ok x.2.1 (((e.scan.drop x.1).flatMap zw1)++(((h.evs.drop (k+1)).flatMap evL)++(h.ords.flatMap yg0++(h.mats.flatMap ycu++h.wants.flatMap yai)))) (goes step (some s0) (zc9 h))) (fun x=>⟨[(72,iv x.1),(71,iv (e.scan.map zax).length),(7,.pp (evR e)),(22,iv k),(21,iv (h.evs.map evR).length),(1,pZ b1),(4,pZ bs),(5,.fn (.func 203) [] [pZ bs])],.box b1 184 [pZ bh]:: .box bh 28 (y9 h):: .box bs 240 [.fn (.func 202) [] [pZ bm,pZ by_]]:: .box bm 4 [bv (x.2.1).isSome]:: .box by_ 239 [y]::x.2.2,[]⟩) (fun x=>e.scan.length - x.1) (0,st2,L) ⟨by omega,hI,hF⟩
    (u0 (.cons _ _ _ rfl (.cons _ _ _ rfl (.cons _ _ _ rfl (.cons _ _ _ rfl (.cons _ _ _ rfl (.cons _ _ _ rfl (.cons _ _ _ rfl (.cons _ _ _ rfl (.nil)))))))))) ?_
   rintro ⟨j,st,L⟩ ⟨hj,hI,hF⟩
   simp only at hj hI hF
   refine rn ?_;refine y0 rfl (fun hc73=> ?_) (fun hc73=> ?_)
   ·have j2:j < e.scan.length:=by simpa using hc73
    obtain ⟨x,hx⟩:∃x,x=e.scan[j]:=⟨_,rfl⟩
    have hrowx:(e.scan.map zax)[j]? =some (zax x):=by rw [hx];simp [j2]
    have hdx:=List.drop_eq_getElem_cons j2
    rw [hdx,←hx] at hF
    simp only [List.flatMap_cons,zw1,List.cons_append,List.append_assoc] at hF
    obtain ⟨hx,hF⟩:=hF.cons
    obtain ⟨hkx,hF⟩:=hF.app
    refine rn ?_;refine zad 8 rfl ?_
    refine rn ?_;refine z7 rfl (v6 rfl rfl (z8.fr3 (z8.of_acall (fs:= []) (cs:= [pZ bm,pZ by_]) (zu1 step ok IJ y hy 2 x.o hx _ bm by_ _ _ hI))) rfl ?_)
    rintro _ _ ⟨_,rfl,L,hI,rfl⟩
    refine rn ?_;refine z7 rfl (v6 rfl rfl (z8.fr2 (z8.of_acall (fs:= []) (cs:= [pZ bs]) (yho step ok IJ y hy x.v hkx _ bs bm by_ _ _ hI))) rfl ?_)
    rintro _ _ ⟨_,rfl,L,hI,rfl⟩
    refine rn ?_;exact ⟨(j+1,_,L),⟨by omega,hI,hF⟩,(u0 (.cons _ _ _ rfl (.cons _ _ _ rfl (.cons _ _ _ rfl (.cons _ _ _ rfl (.cons _ _ _ rfl (.cons _ _ _ rfl (.cons _ _ _ rfl (.cons _ _ _ rfl (.nil)))))))))),by simp only;omega⟩
   ·obtain rfl:j=e.scan.length:=by
     have:e.scan.length≤j:=by simpa using hc73
     omega
    rw [List.drop_length,List.flatMap_nil,List.nil_append] at hF
    refine rn ?_;exact ⟨(k+1,_,L),⟨by omega,hI,hF⟩,(u0 (.cons _ _ _ rfl (.cons _ _ _ rfl (.cons _ _ _ rfl (.cons _ _ _ rfl (.cons _ _ _ rfl (.nil))))))),by simp only;omega⟩
 ·obtain rfl:k=h.evs.length:=by
   have:h.evs.length≤k:=by simpa using hc23
   omega
  rw [List.drop_length,List.flatMap_nil,List.nil_append] at hF
  refine rn ?_;refine zak (fun x:Nat×Option σ×List Res=>x.1≤h.ords.length∧IJ x.2.1 x.2.2∧Rem step ok x.2.1 (((h.ords.drop x.1).flatMap yg0)++(h.mats.flatMap ycu++h.wants.flatMap yai)) (goes step (some s0) (zc9 h))) (fun x=>⟨[(100,iv x.1),(99,iv (h.ords.map zet).length),(1,pZ b1),(4,pZ bs),(5,.fn (.func 203) [] [pZ bs])],.box b1 184 [pZ bh]:: .box bh 28 (y9 h):: .box bs 240 [.fn (.func 202) [] [pZ bm,pZ by_]]:: .box bm 4 [bv (x.2.1).isSome]:: .box by_ 239 [y]::x.2.2,[]⟩) (fun x=>h.ords.length - x.1) (0,st,L) ⟨by omega,hI,hF⟩
   (u0 (.cons _ _ _ rfl (.cons _ _ _ rfl (.cons _ _ _ rfl (.cons _ _ _ rfl (.cons _ _ _ rfl (.nil))))))) ?_
  rintro ⟨k,st,L⟩ ⟨hk,hI,hF⟩
  simp only at hk hI hF
  refine rn ?_;refine y0 rfl (fun hc101=> ?_) (fun hc101=> ?_)
  ·have k2:k < h.ords.length:=by simpa using hc101
   obtain ⟨r,hr⟩:∃r,r=h.ords[k]:=⟨_,rfl⟩
   have hrowr:(h.ords.map zet)[k]? =some (zet r):=by rw [hr];simp [k2]
   have hdr:=List.drop_eq_getElem_cons k2
   rw [hdr,←hr] at hF
   simp only [List.flatMap_cons,yg0,List.cons_append,List.append_assoc] at hF
   obtain ⟨hx,hF⟩:=hF.cons
   have hle:=la.ords
   have hls:=la.ordts r (by rw [hr];simp)
   refine rn ?_;refine zad 8 rfl ?_
   refine rn ?_;refine z7 rfl (v6 rfl rfl (z8.fr3 (z8.of_acall (fs:= []) (cs:= [pZ bm,pZ by_]) (zu1 step ok IJ y hy 2 r.o hx _ bm by_ _ _ hI))) rfl ?_)
   rintro _ _ ⟨_,rfl,L,hI,rfl⟩
   refine rn ?_;refine zak (fun x:Nat×Option σ×List Res=>x.1≤r.ts.length∧IJ x.2.1 x.2.2∧Rem step ok x.2.1 (((r.ts.drop x.1).map fun t=>((0:Nat),t))++(((h.ords.drop (k+1)).flatMap yg0)++(h.mats.flatMap ycu++h.wants.flatMap yai))) (goes step (some s0) (zc9 h))) (fun x=>⟨[(121,iv x.1),(120,iv (r.ts.map zbs).length),(9,iv k),(100,iv k),(99,iv (h.ords.map zet).length),(1,pZ b1),(4,pZ bs),(5,.fn (.func 203) [] [pZ bs])],.box b1 184 [pZ bh]:: .box bh 28 (y9 h):: .box bs 240 [.fn (.func 202) [] [pZ bm,pZ by_]]:: .box bm 4 [bv (x.2.1).isSome]:: .box by_ 239 [y]::x.2.2,[]⟩) (fun x=>r.ts.length - x.1) (0,_,L) ⟨by omega,hI,hF⟩
    (u0 (.cons _ _ _ rfl (.cons _ _ _ rfl (.cons _ _ _ rfl (.cons _ _ _ rfl (.cons _ _ _ rfl (.cons _ _ _ rfl (.cons _ _ _ rfl (.cons _ _ _ rfl (.nil)))))))))) ?_
   rintro ⟨j,st,L⟩ ⟨hj,hI,hF⟩
   simp only at hj hI hF
   refine rn ?_;refine y0 rfl (fun hc122=> ?_) (fun hc122=> ?_)
   ·have j2:j < r.ts.length:=by simpa using hc122
    obtain ⟨t,ht⟩:∃t,t=r.ts[j]:=⟨_,rfl⟩
    have hrowt:(r.ts.map zbs)[j]? =some (zbs t):=by rw [ht];simp [j2]
    have hdt:=List.drop_eq_getElem_cons j2
    rw [hdt,←ht] at hF
    simp only [List.map_cons,List.cons_append] at hF
    obtain ⟨hx,hF⟩:=hF.cons
    refine rn ?_;refine zad 11 rfl ?_
    refine rn ?_;refine z7 rfl (v6 rfl rfl (z8.fr3 (z8.of_acall (fs:= []) (cs:= [pZ bm,pZ by_]) (zu1 step ok IJ y hy 0 t hx _ bm by_ _ _ hI))) rfl ?_)
    rintro _ _ ⟨_,rfl,L,hI,rfl⟩
    refine rn ?_;exact ⟨(j+1,_,L),⟨by omega,hI,hF⟩,(u0 (.cons _ _ _ rfl (.cons _ _ _ rfl (.cons _ _ _ rfl (.cons _ _ _ rfl (.cons _ _ _ rfl (.cons _ _ _ rfl (.cons _ _ _ rfl (.cons _ _ _ rfl (.nil)))))))))),by simp only;omega⟩
   ·obtain rfl:j=r.ts.length:=by
     have:r.ts.length≤j:=by simpa using hc122
     omega
    rw [List.drop_length,List.map_nil,List.nil_append] at hF
    refine rn ?_;exact ⟨(k+1,_,L),⟨by omega,hI,hF⟩,(u0 (.cons _ _ _ rfl (.cons _ _ _ rfl (.cons _ _ _ rfl (.cons _ _ _ rfl (.cons _ _ _ rfl (.nil))))))),by simp only;omega⟩
  ·obtain rfl:k=h.ords.length:=by
    have:h.ords.length≤k:=by simpa using hc101
    omega
   rw [List.drop_length,List.flatMap_nil,List.nil_append] at hF
   refine rn ?_;refine zak (fun x:Nat×Option σ×List Res=>x.1≤h.mats.length∧IJ x.2.1 x.2.2∧Rem step ok x.2.1 (((h.mats.drop x.1).flatMap ycu)++h.wants.flatMap yai) (goes step (some s0) (zc9 h))) (fun x=>⟨[(143,iv x.1),(142,iv (h.mats.map zee).length),(1,pZ b1),(4,pZ bs),(5,.fn (.func 203) [] [pZ bs])],.box b1 184 [pZ bh]:: .box bh 28 (y9 h):: .box bs 240 [.fn (.func 202) [] [pZ bm,pZ by_]]:: .box bm 4 [bv (x.2.1).isSome]:: .box by_ 239 [y]::x.2.2,[]⟩) (fun x=>h.mats.length - x.1) (0,st,L) ⟨by omega,hI,hF⟩
    (u0 (.cons _ _ _ rfl (.cons _ _ _ rfl (.cons _ _ _ rfl (.cons _ _ _ rfl (.cons _ _ _ rfl (.nil))))))) ?_
   rintro ⟨k,st,L⟩ ⟨hk,hI,hF⟩
   simp only at hk hI hF
   refine rn ?_;refine y0 rfl (fun hc144=> ?_) (fun hc144=> ?_)
   ·have k2:k < h.mats.length:=by simpa using hc144
    obtain ⟨r,hr⟩:∃r,r=h.mats[k]:=⟨_,rfl⟩
    have hrowr:(h.mats.map zee)[k]? =some (zee r):=by rw [hr];simp [k2]
    have hdr:=List.drop_eq_getElem_cons k2
    rw [hdr,←hr] at hF
    simp only [List.flatMap_cons,ycu,List.cons_append,List.append_assoc] at hF
    obtain ⟨hx,hF⟩:=hF.cons
    obtain ⟨hx2,hF⟩:=hF.cons
    have hle:=la.mats
    have hls:=la.matts r (by rw [hr];simp)
    refine rn ?_;refine zad 4 rfl ?_
    refine rn ?_;refine z7 rfl (v6 rfl rfl (z8.fr3 (z8.of_acall (fs:= []) (cs:= [pZ bm,pZ by_]) (zu1 step ok IJ y hy 3 r.p hx _ bm by_ _ _ hI))) rfl ?_)
    rintro _ _ ⟨_,rfl,L,hI,rfl⟩
    refine rn ?_;refine zad 4 rfl ?_
    refine rn ?_;refine z7 rfl (v6 rfl rfl (z8.fr3 (z8.of_acall (fs:= []) (cs:= [pZ bm,pZ by_]) (zu1 step ok IJ y hy 2 r.o hx2 _ bm by_ _ _ hI))) rfl ?_)
    rintro _ _ ⟨_,rfl,L,hI,rfl⟩
    refine rn ?_;refine zak (fun x:Nat×Option σ×List Res=>x.1≤r.ts.length∧IJ x.2.1 x.2.2∧Rem step ok x.2.1 (((r.ts.drop x.1).map fun t=>((0:Nat),t))++(((h.mats.drop (k+1)).flatMap ycu)++h.wants.flatMap yai)) (goes step (some s0) (zc9 h))) (fun x=>⟨[(167,iv x.1),(166,iv (r.ts.map zbs).length),(12,.pp (zee r)),(143,iv k),(142,iv (h.mats.map zee).length),(1,pZ b1),(4,pZ bs),(5,.fn (.func 203) [] [pZ bs])],.box b1 184 [pZ bh]:: .box bh 28 (y9 h):: .box bs 240 [.fn (.func 202) [] [pZ bm,pZ by_]]:: .box bm 4 [bv (x.2.1).isSome]:: .box by_ 239 [y]::x.2.2,[]⟩) (fun x=>r.ts.length - x.1) (0,_,L) ⟨by omega,hI,hF⟩
     (u0 (.cons _ _ _ rfl (.cons _ _ _ rfl (.cons _ _ _ rfl (.cons _ _ _ rfl (.cons _ _ _ rfl (.cons _ _ _ rfl (.cons _ _ _ rfl (.cons _ _ _ rfl (.nil)))))))))) ?_
    rintro ⟨j,st,L⟩ ⟨hj,hI,hF⟩
    simp only at hj hI hF
    refine rn ?_;refine y0 rfl (fun hc168=> ?_) (fun hc168=> ?_)
    ·have j2:j < r.ts.length:=by simpa using hc168
     obtain ⟨t,ht⟩:∃t,t=r.ts[j]:=⟨_,rfl⟩
     have hrowt:(r.ts.map zbs)[j]? =some (zbs t):=by rw [ht];simp [j2]
     have hdt:=List.drop_eq_getElem_cons j2
     rw [hdt,←ht] at hF
     simp only [List.map_cons,List.cons_append] at hF
     obtain ⟨hx,hF⟩:=hF.cons
     refine rn ?_;refine zad 7 rfl ?_
     refine rn ?_;refine z7 rfl (v6 rfl rfl (z8.fr3 (z8.of_acall (fs:= []) (cs:= [pZ bm,pZ by_]) (zu1 step ok IJ y hy 0 t hx _ bm by_ _ _ hI))) rfl ?_)
     rintro _ _ ⟨_,rfl,L,hI,rfl⟩
     refine rn ?_;exact ⟨(j+1,_,L),⟨by omega,hI,hF⟩,(u0 (.cons _ _ _ rfl (.cons _ _ _ rfl (.cons _ _ _ rfl (.cons _ _ _ rfl (.cons _ _ _ rfl (.cons _ _ _ rfl (.cons _ _ _ rfl (.cons _ _ _ rfl (.nil)))))))))),by simp only;omega⟩
    ·obtain rfl:j=r.ts.length:=by
      have:r.ts.length≤j:=by simpa using hc168
      omega
     rw [List.drop_length,List.map_nil,List.nil_append] at hF
     refine rn ?_;exact ⟨(k+1,_,L),⟨by omega,hI,hF⟩,(u0 (.cons _ _ _ rfl (.cons _ _ _ rfl (.cons _ _ _ rfl (.cons _ _ _ rfl (.cons _ _ _ rfl (.nil))))))),by simp only;omega⟩
   ·obtain rfl:k=h.mats.length:=by
     have:h.mats.length≤k:=by simpa using hc144
     omega
    rw [List.drop_length,List.flatMap_nil,List.nil_append] at hF
    refine rn ?_;refine zak (fun x:Nat×Option σ×List Res=>x.1≤h.wants.length∧IJ x.2.1 x.2.2∧Rem step ok x.2.1 (((h.wants.drop x.1).flatMap yai)++ []) (goes step (some s0) (zc9 h))) (fun x=>⟨[(185,iv x.1),(184,iv (h.wants.map zgk).length),(1,pZ b1),(4,pZ bs),(5,.fn (.func 203) [] [pZ bs])],.box b1 184 [pZ bh]:: .box bh 28 (y9 h):: .box bs 240 [.fn (.func 202) [] [pZ bm,pZ by_]]:: .box bm 4 [bv (x.2.1).isSome]:: .box by_ 239 [y]::x.2.2,[]⟩) (fun x=>h.wants.length - x.1) (0,st,L) ⟨by omega,hI,by rw [List.append_nil];exact hF⟩
     (u0 (.cons _ _ _ rfl (.cons _ _ _ rfl (.cons _ _ _ rfl (.cons _ _ _ rfl (.cons _ _ _ rfl (.nil))))))) ?_
    rintro ⟨k,st,L⟩ ⟨hk,hI,hF⟩
    simp only at hk hI hF
    refine rn ?_;refine y0 rfl (fun hc186=> ?_) (fun hc186=> ?_)
    ·have k2:k < h.wants.length:=by simpa using hc186
     obtain ⟨r,hr⟩:∃r,r=h.wants[k]:=⟨_,rfl⟩
     have hrowr:(h.wants.map zgk)[k]? =some (zgk r):=by rw [hr];simp [k2]
     have hdr:=List.drop_eq_getElem_cons k2
     rw [hdr,←hr] at hF
     simp only [List.flatMap_cons,yai,List.cons_append,List.append_assoc,List.nil_append] at hF
     obtain ⟨hx,hF⟩:=hF.cons
     have hle:=la.wants
     refine rn ?_;refine zad 8 rfl ?_
     refine rn ?_;refine z7 rfl (v6 rfl rfl (z8.fr3 (z8.of_acall (fs:= []) (cs:= [pZ bm,pZ by_]) (zu1 step ok IJ y hy 1 r.s hx _ bm by_ _ _ hI))) rfl ?_)
     rintro _ _ ⟨_,rfl,L,hI,rfl⟩
     refine rn ?_;exact ⟨(k+1,_,L),⟨by omega,hI,hF⟩,(u0 (.cons _ _ _ rfl (.cons _ _ _ rfl (.cons _ _ _ rfl (.cons _ _ _ rfl (.cons _ _ _ rfl (.nil))))))),by simp only;omega⟩
    ·obtain rfl:k=h.wants.length:=by
      have:h.wants.length≤k:=by simpa using hc186
      omega
     rw [List.drop_length,List.flatMap_nil,List.nil_append] at hF
     refine rn ?_;have hF':st=goes step (some s0) (zc9 h):=hF.fin
     exact zeo .nil (.trans (.perm ((pt2 _ _ _ _).trans (.cons _ ((pt2 _ _ _ _).trans (.cons _ (pt2 _ _ _ _))))) _) (.drop [_,_,_] _ _)) ⟨L,hF' ▸ hI,rfl⟩
theorem yji (bh:Nat) (h:List Res):y8 Tryz.prog 141 [pZ bh] h (fun r h'=>∃b1,h'= .box b1 184 [pZ bh]::h∧r= .fn (.func 201) [] [pZ b1]):=by
 refine z6 Tryz.func141 rfl rfl rfl ?_
 refine rn ?_;refine z7 rfl (w8 rfl rfl rfl fun b1=> ?_)
 refine rn ?_;exact zal rfl (.refl _ _) ⟨_,rfl,rfl⟩
def IJC (lp:LP) (q b2 b3:Nat):Option (List Int)→List Res→Prop
 |some m,L=>L=lp .ready none:: .defs q:: .box b3 156 ((m).map iv):: .box b2 33 [iv 0]:: [.glob 2 156 y2,.glob 4 305 y3,.glob 5 308 y1]∧m.length=4
 |none,L=>∃m:List Int,L=lp .done (some .ret):: .defs q:: .box b3 156 ((m).map iv):: .box b2 33 [iv 210]:: [.glob 2 156 y2,.glob 4 305 y3,.glob 5 308 y1]
theorem ymd (h:Hist) (la:Lim 4611686018427387904 h):y8 Tryz.prog 93 [.agg (y9 h)] [.glob 2 156 y2,.glob 4 305 y3,.glob 5 308 y1] (fun r h'=>h'= [.glob 2 156 y2,.glob 4 305 y3,.glob 5 308 y1]∧r=iv (zdi h)):=by
 refine z6 Tryz.func93 rfl rfl rfl ?_
 refine rn ?_;refine z7 rfl (w8 rfl rfl rfl fun b1=> ?_)
 refine z7 rfl (y7 rfl fun b2=> ?_)
 refine rn ?_;refine qv rfl rfl (y4 rfl rfl (z8.qt (z8.of_fun (yjk h la)) ((pt2 _ _ _ _).trans (.cons _ ((pt2 _ _ _ _).trans (.cons _ (pt2 _ _ _ _))))))) ?_
 refine rn ?_;refine y0 rfl (fun hc10=> ?_) (fun hc10=> ?_)
 ·have hs:za2 h=false:=ycj hc10
  refine rn ?_;exact zdy (.cons _ _ _ _ (.one _ _ _ _ _ _ _ rfl inferInstance inferInstance rfl) .nil) (.drop [_,_] _ _) ⟨rfl,congrArg iv (ydo hs).symm⟩
 ·have hs:za2 h=true:=yck hc10
  refine rn ?_;refine z7 rfl (y7 rfl fun b3=> ?_)
  refine rn ?_;refine z7 rfl (v6 rfl rfl (z8.of_fun (yji b1 _)) rfl ?_)
  rintro _ _ ⟨b1',rfl,rfl⟩
  refine rn ?_;refine zl7 (fun pend h''=>(pend=none∧∃m:List Int,zpx h=some m∧m.length=4∧h''= .box b1' 184 [pZ b1]:: .box b1 28 (y9 h):: .box b3 156 ((m).map iv):: .box b2 33 [iv 0]:: [.glob 2 156 y2,.glob 4 305 y3,.glob 5 308 y1])∨(pend=some .ret∧zpx h=none∧∃m:List Int,h''= .box b1' 184 [pZ b1]:: .box b1 28 (y9 h):: .box b3 156 ((m).map iv):: .box b2 33 [iv 210]:: [.glob 2 156 y2,.glob 4 305 y3,.glob 5 308 y1])) rfl (fun fn l q lp hlp=> ?_) (fun q h'' hK=> ?_) (fun q h'' c hK=> ?_)
  ·suffices hy:∀(s:List Int) (L:List Res) (sort:Nat) (n:Int) (cells:List AV),OkN h (sort,n)→IJC lp q b2 b3 (some s) L→z8 Tryz.prog (yv l) [iv sort,.pp (iv n::cells)] L (fun r h'=>r=bv (zd6 s (sort,n)).isSome∧IJC lp q b2 b3 (zd6 s (sort,n)) h') by
    refine y8.mono (y8.perm ((pt2 _ _ _ _).trans (.cons _ (pt4 _ _ _ _ _ _))) (yfo zd6 (OkN h) (IJC lp q b2 b3) (yv l) rfl hy h la b1' b1 (zwx hs) [0,0,0,0] _ ⟨rfl,rfl⟩)) ?_
    rintro _ _ ⟨L',hI,rfl⟩
    cases hm:goes zd6 (some [0,0,0,0]) (zc9 h) with
    |some m=>
     rw [hm] at hI
     obtain ⟨rfl,hl⟩:=hI
     exact ⟨_,_,_,((pt2 _ _ _ _).trans (.cons _ (pt2 _ _ _ _))),by simp,.inl ⟨rfl,m,hm,hl,rfl⟩⟩
    |none=>
     rw [hm] at hI
     obtain ⟨m,rfl⟩:=hI
     exact ⟨_,_,_,((pt2 _ _ _ _).trans (.cons _ (pt2 _ _ _ _))),by simp,.inr ⟨rfl,hm,m,rfl⟩⟩
   rintro m _ sort n cells ⟨hs4,hn0,hn1⟩ ⟨rfl,hl⟩
   simp only at hs4 hn0 hn1
   have hnm:=la.nm sort
   refine zt7 hlp rfl rfl ?_
   refine rn ?_;refine ⟨[(4,iv sort),(5,.pp (iv n::cells)),(3,pZ b3),(2,pZ b2)],(u0 (.cons _ _ _ rfl (.cons _ _ _ rfl (.cons _ _ _ rfl (.cons _ _ _ rfl (.nil)))))),?_⟩
   refine rn ?_;refine zad 6 rfl ?_
   refine dq rfl rfl qrA ?_;refine dq rfl rfl qrA ?_;refine dq rfl rfl qrA ?_;refine dq rfl rfl qrA ?_;refine dq rfl rfl (zah rfl rfl hs4) ?_
   refine dq rfl rfl (zac rfl (yn7 hl hs4)) ?_
   refine rn ?_;refine y0 rfl (fun hc20=> ?_) (fun hc20=> ?_)
   ·refine rn ?_;have hst:zd6 m (sort,n)=none:=by rw [zd6];exact if_pos (by simpa using hc20)
    exact zrp (.refl _) (by rw [hst];exact ⟨rfl,_,rfl⟩)
   ·refine rn ?_;refine zad 9 rfl ?_
    refine dq rfl rfl qrA ?_;refine dq rfl rfl qrA ?_;refine dq rfl rfl (zah rfl rfl hs4) ?_
    refine dq rfl rfl (zac rfl (yn7 hl hs4)) ?_
    refine rn2 ?_;refine qq rfl rfl (zah rfl rfl hs4) ?_
    refine z7 rfl (zaj rfl rfl rfl rfl (by simp [hl];omega) ?_)
    refine rn ?_;have hst:zd6 m (sort,n)=some (m.set sort (max (m.getD sort 0) (n+1))):=by rw [zd6];exact if_neg (by simpa using hc20)
    exact zcy (.refl _) (by rw [hst];exact ⟨rfl,by rw [←ypg hl hs4];rfl,by simpa using hl⟩)
  ·obtain ⟨_,m,hm,hl,rfl⟩|⟨hc,_⟩:=hK
   rotate_left
   ·cases hc
   refine rn ?_;refine qv rfl rfl (y4 rfl rfl (zbh (yg7 _) (Sbs.refl _))) ?_
   refine rn ?_;refine zak (fun k:Nat=>k≤4∧∀j,j < k→m.getD j 0=(nmK h j).length) (fun k=>⟨[(33,iv k),(32,.agg (zjj h)),(3,pZ b3),(2,pZ b2)],.defs q:: .box b1' 184 [pZ b1]:: .box b1 28 (y9 h):: .box b3 156 ((m).map iv):: .box b2 33 [iv 0]:: [.glob 2 156 y2,.glob 4 305 y3,.glob 5 308 y1],[q]⟩) (fun k=>4 - k) 0 ⟨by omega,fun j hj=>absurd hj (Nat.not_lt_zero j)⟩
    (u0 (.cons _ _ _ rfl (.cons _ _ _ rfl (.cons _ _ _ rfl (.cons _ _ _ rfl (.nil)))))) ?_
   rintro k ⟨hk,hz⟩
   refine rn ?_;refine y0 rfl (fun hc34=> ?_) (fun hc34=> ?_)
   ·have hk4:k < 4:=by simp at hc34;omega
    refine za5 ?_;refine zai ?_;refine w7 ?_;refine zdj ?_;refine w7 (y6 ?_)
    refine q1 ?_;refine qq rfl rfl (zct rfl rfl (by omega) (by have:=zx4 h hk4;simpa using this)) ?_
    refine q1 ?_;refine q1 ?_;refine j4 (zai ?_)
    refine w7 (y6 ?_)
    refine q1 ?_;refine qq rfl rfl (zah rfl rfl hk4) ?_
    refine qq rfl rfl (zac rfl (yn7 hl hk4)) ?_
    refine rn ?_;refine y0 rfl (fun hc42=> ?_) (fun hc42=> ?_)
    ·refine rn ?_;exact zgx (.refl _) (.cons _ _ _ _ (.one _ _ _ _ _ _ _ rfl inferInstance inferInstance rfl) .nil) (.drop [_,_,_,_] _ _) ⟨rfl,congrArg iv (ydp hm hk4 (by simpa using hc42)).symm⟩
    ·refine rn ?_;exact ⟨k+1,⟨by omega,fun j hj=>by
      by_cases hjk:j=k
      ·subst hjk;simpa using hc42
      ·exact hz j (by omega)⟩,(u0 (.cons _ _ _ rfl (.cons _ _ _ rfl (.cons _ _ _ rfl (.cons _ _ _ rfl (.nil)))))),by omega⟩
   ·have hk4:k=4:=by simp at hc34;omega
    subst hk4
    refine rn ?_;exact zgx (.refl _) (.cons _ _ _ _ (.one _ _ _ _ _ _ _ rfl inferInstance inferInstance rfl) .nil) (.drop [_,_,_,_] _ _) ⟨rfl,congrArg iv (ydq hs hm hl hz).symm⟩
  ·obtain ⟨hc,_⟩|⟨hc,hm,m,rfl⟩:=hK
   ·cases hc
   obtain rfl:c= .ret:=by simpa using hc
   refine rn ?_;exact zgx (.refl _) (.cons _ _ _ _ (.one _ _ _ _ _ _ _ rfl inferInstance inferInstance rfl) .nil) (.drop [_,_,_,_] _ _) ⟨rfl,congrArg iv (zv2 hm).symm⟩
attribute [local irreducible] zc1 jch zel
def w9:List AV:= [.any,.fn (.func 300) [] [],.fn (.func 307) [] [],.fn (.func 308) [] [],.fn (.func 309) [] [],.fn (.func 310) [] [],.fn (.func 311) [] [],.fn (.func 312) [] [],.fn (.func 313) [] [],.fn (.func 314) [] [],.fn (.func 315) [] []]
def ym6 (k:Nat):AV:=w9.getD k .any
theorem yip {k:Nat} (h2:k≤10):w9[k]? =some (ym6 k):=by
 have:k < w9.length:=by show k < 11;omega
 rw [ym6,List.getD_eq_getElem?_getD,List.getElem?_eq_getElem this];rfl
theorem ydw (h:Hist) (la:Lim 3000 h) (b:Nat) (G:List Res) {k:Nat} (h1:1≤k) (h2:k≤10):z8 Tryz.prog (ym6 k) [pZ b] (.box b 252 (zbw h)::G) (fun r h'=>h'=G∧r=zbb (zcd h k)):=by
 match k,h1,h2 with
 |1,_,_=>exact z8.of_acall (fs:= []) (cs:= []) (ykf h la b G)
 |2,_,_=>exact z8.of_acall (fs:= []) (cs:= []) (ypr h la b G)
 |3,_,_=>exact z8.of_acall (fs:= []) (cs:= []) (yke h la b G)
 |4,_,_=>exact z8.of_acall (fs:= []) (cs:= []) (ybr h la b G)
 |5,_,_=>exact z8.of_acall (fs:= []) (cs:= []) (ypn h la b G)
 |6,_,_=>exact z8.of_acall (fs:= []) (cs:= []) (ynj h la b G)
 |7,_,_=>exact z8.of_acall (fs:= []) (cs:= []) (yj8 h la b G)
 |8,_,_=>exact z8.of_acall (fs:= []) (cs:= []) (ybu h la b G)
 |9,_,_=>exact z8.of_acall (fs:= []) (cs:= []) (ykb h la b G)
 |10,_,_=>exact z8.of_acall (fs:= []) (cs:= []) (ynh h la b G)
 |k+11,_,h2=>omega
theorem ygv {o:Option Nat} {i:Int} {b:Bool} (h:zbb o= .tup [iv i,bv b]):i=ypt o∧b=o.isSome:=by
 cases o with
 |none=>simp only [zbb,AV.tup.injEq,List.cons.injEq,AV.v.injEq,Value.int.injEq,Value.bool.injEq,true_and,and_true] at h;exact ⟨h.1.symm,h.2.symm⟩
 |some n=>simp only [zbb,AV.tup.injEq,List.cons.injEq,AV.v.injEq,Value.int.injEq,Value.bool.injEq,true_and,and_true] at h;exact ⟨h.1.symm,h.2.symm⟩
theorem zr6 {h:Hist} (hm:zfs h=true):Lim 3000 h:=by
 unfold zfs at hm;simp only [Bool.and_eq_true] at hm;exact zuz hm.1
theorem ykd (h:Hist) (la:Lim 4611686018427387904 h):y8 Tryz.prog 143 [.agg (y9 h)] [.glob 2 156 y2,.glob 4 305 y3,.glob 5 308 y1,.glob 3 246 w9] (fun r h'=>h'= [.glob 2 156 y2,.glob 4 305 y3,.glob 5 308 y1,.glob 3 246 w9]∧r=zgt h):=by
 refine z6 Tryz.func143 rfl rfl rfl ?_
 refine rn ?_;refine z7 rfl (w8 rfl rfl rfl fun b1=> ?_)
 refine z7 rfl (y7 rfl fun b2=> ?_)
 refine rn ?_;refine qv rfl rfl (y4 rfl rfl (z8.qt (z8.of_fun (ymd h la)) ((pt2 _ _ _ _).trans (.cons _ ((pt2 _ _ _ _).trans (.cons _ (pt2 _ _ _ _))))))) ?_
 refine rn ?_;refine y0 rfl (fun hc12=> ?_) (fun hc12=> ?_)
 ·have hm:¬zfs h=true:=by intro q;rw [zdi,if_pos q] at hc12;cases hc12
  have he:zdi h=210:=by rw [zdi,if_neg hm]
  refine rn ?_;exact zdy (.cons _ _ _ _ (.agg _ _ _ _ _ _ _ rfl inferInstance inferInstance inferInstance rfl) (.cons _ _ _ _ (.tmp _ _ rfl) (.cons _ _ _ _ (.tmp _ _ rfl) .nil))) (.drop [_,_] _ _) ⟨rfl,by rw [zgt,if_neg hm,he];rfl⟩
 ·have hm:zfs h=true:=zzt.1 (by simpa using hc12)
  have la3:=zr6 hm
  refine rn ?_;refine zor (fun k:Nat=>(1≤k∧k≤11)∧zbn (zcd h) rules10=zbn (zcd h) (rules10.drop (k - 1))) (fun k=>⟨[(6,iv k),(1,pZ b1),(2,pZ b2)],(.box b2 158 [iv 0,iv 0]:: .box b1 28 (y9 h):: .glob 2 156 y2:: .glob 4 305 y3:: .glob 5 308 y1:: .glob 3 246 w9:: []),[]⟩) (fun k=>11 - k) 1 ⟨by omega,rfl⟩ es ?_
  rintro k ⟨⟨k1,k3⟩,zk⟩
  obtain ⟨pi,pb,hpv⟩:∃i b,zbb (zcd h k)= .tup [iv i,bv b]:=zdf _
  obtain ⟨ei,eb⟩:=ygv hpv
  refine rn ?_;refine y0 rfl (fun hc16=> ?_) (fun hc16=> ?_)
  ·have k2:k≤10:=by have:=oT hc16;omega
   refine za5 ?_;refine rn0 ?_;refine w7 ?_;refine zdj ?_;refine w7 ?_;refine zgu 11 [5,6] [7,8,9,10] (fun he=>he=(.box b2 158 [iv 0,iv 0]:: .box b1 28 (y9 h):: .glob 2 156 y2:: .glob 4 305 y3:: .glob 5 308 y1:: .glob 3 246 w9:: [])∨∃b,he= .box b 252 (zbw h)::(.box b2 158 [iv 0,iv 0]:: .box b1 28 (y9 h):: .glob 2 156 y2:: .glob 4 305 y3:: .glob 5 308 y1:: .glob 3 246 w9:: [])) rfl rfl (.inl rfl) ?_
   refine jq rfl (fun he hC=>by rcases hC with rfl|⟨b,rfl⟩ <;> exact qrA) ?_
   refine jq rfl (fun he hC=>by rcases hC with rfl|⟨b,rfl⟩ <;> exact (by exact zah rfl rfl (by show k < 11;omega))) ?_
   refine jq rfl (fun he hC=>by rcases hC with rfl|⟨b,rfl⟩ <;> exact (by exact zac rfl (show w9[0+k * 1]? =some (ym6 k) by rw [Nat.zero_add,Nat.mul_one];exact yip k2))) ?_
   refine jq rfl (fun he hC=>by rcases hC with rfl|⟨b,rfl⟩ <;> exact qrA) ?_
   refine jq rfl (fun he hC=>by rcases hC with rfl|⟨b,rfl⟩ <;> exact (by exact zaa (out:=zbw h) rfl (by rfl))) ?_
   refine je rfl ?_;refine je rfl ?_;refine je rfl ?_;refine je rfl ?_;refine je rfl ?_;refine je rfl ?_;refine yan ?_;refine jce rfl fun u=> ?_
   refine w8 rfl rfl rfl fun b5=>⟨_,_,rfl,.inr ⟨_,rfl⟩,?_⟩
   refine jce rfl fun u=> ?_
   refine v6 rfl rfl (ydw h la3 b5 _ k1 k2) rfl ?_
   rintro _ _ ⟨rfl,rfl⟩
   rw [hpv]
   refine ⟨_,_,rfl,.inl rfl,?_⟩
   refine jcn ?_;refine lq rfl rfl (by exact qrA) ?_
   refine lq rfl rfl (by exact qrA) ?_
   refine lq rfl rfl (by exact qrA) ?_
   refine lq rfl rfl (by exact qrA) ?_
   refine ln ?_;refine rn ?_;refine y0 rfl (fun hc29=> ?_) (fun hc29=> ?_)
   ·refine rn ?_;exact zdy (.cons _ _ _ _ (.agg _ _ _ _ _ _ _ rfl inferInstance inferInstance inferInstance rfl) (.cons _ _ _ _ (.tmp _ _ rfl) (.cons _ _ _ _ (.tmp _ _ rfl) .nil))) (.drop [_,_] _ _) ⟨rfl,by
     cases hp:zcd h k with
     |none=>rw [hp] at eb;rw [eb] at hc29;cases hc29
     |some n=>rw [hp] at ei;subst ei;rw [zgt,if_pos hm,zjs,zy5 k1 k2 zk hp];rfl⟩
   ·refine rn ?_;exact ⟨k+1,⟨by omega,zvt k1 k2 zk (by cases hp:zcd h k with|none=>rfl|some n=>rw [hp] at eb;rw [eb] at hc29;cases hc29)⟩,eA,by omega⟩
  ·have k2:11≤k:=by have:=oF hc16;omega
   refine rn ?_;exact zdy (.cons _ _ _ _ (.agg _ _ _ _ _ _ _ rfl inferInstance inferInstance inferInstance rfl) (.cons _ _ _ _ (.tmp _ _ rfl) (.cons _ _ _ _ (.tmp _ _ rfl) .nil))) (.drop [_,_] _ _) ⟨rfl,by rw [zgt,if_pos hm,zjs,zvu k2 k3 zk];rfl⟩
theorem yj3 (h:Hist) (la:Lim 4611686018427387904 h):y8 Tryz.prog 94 [.agg (y9 h)] [.glob 2 156 y2,.glob 4 305 y3,.glob 5 308 y1,.glob 3 246 w9] (fun r h'=>h'= [.glob 2 156 y2,.glob 4 305 y3,.glob 5 308 y1,.glob 3 246 w9]∧r=bv (zap h)):=by
 refine z6 Tryz.func94 rfl rfl rfl ?_
 refine rn ?_;refine z7 rfl (w8 rfl rfl rfl fun b1=> ?_)
 refine q1 ?_;refine j4 (zai ?_)
 refine w7 (y6 ?_)
 obtain ⟨fi,fj,fb,fe,hf,hfb⟩:=zqa h
 refine rn ?_;refine qv rfl rfl (y4 rfl rfl (z8.qt (z8.of_fun (ykd h la)) ((pt1 _ _ _).trans (.cons _ ((pt1 _ _ _).trans (.cons _ ((pt1 _ _ _).trans (.cons _ (pt1 _ _ _))))))))) ?_
 rw [hf]
 refine rn ?_;refine z7 rfl (y7 rfl fun b3=> ?_)
 refine rn ?_;refine u6 (fun hg2_2=> ?_) (fun hg2_2=> ?_)
 ·refine rn ?_;refine rq 2 ?_
  exact ⟨rfl,congrArg bv (by rw [hfb];simp_all)⟩
 ·refine rn ?_;refine rq 2 ?_
  exact ⟨rfl,congrArg bv (by rw [hfb];simp_all)⟩
end Go.Proofs
set_option maxRecDepth 100000
namespace Go.Proofs.YtfmcbdjnmlcacaaGreatDoor
open Go Go.Ab Go.H
def yio:DataW Unit:=match (Rows.laid_yardarm_rules_asks:DataW Unit) with| .iface _ d=>d|d=>d
def zx6:List (List UInt8):=match yio with| .agg ds=>ds.map (fun d=>match d with| .iface _ (.lit (.string b))=>b|_=> [])|_=> []
def nm (k:Nat):List UInt8:=zx6.getD (k+1) []
theorem zz3:yio.funcsOut= .agg (.nil::(zx6.drop 1).map .held):=by kernel_rfl
theorem zod {w:World} {c:Array Value} {T0:TypeId} {fr:Nat×Nat} {g:Nat} {T:TypeId} {vs:List AV} (hh:w.heap[g]? =some (.cells c T0 fr)) (hl:vs.length=c.size) (h:∀j (h1:j < vs.length) (h2:j < c.size),Rel w noX vs[j] c[j]):(Res.glob g T vs).holds w noX:=
 ⟨fun h=>h,(Array.getElem?_eq_some_iff.1 hh).1,c,T0,fr,hh,hl,fun j h1 h2=>h j h1 h2⟩
theorem yew (w:World) (f:Nat):Rel w noX (.fn (.func f) [] []) (.func (.func f) #[] #[]):= .fn _ _ _ _ _ rfl rfl (fun j h=>absurd h (Nat.not_lt_zero _)) (fun j h=>absurd h (Nat.not_lt_zero _))
def fnA:List Nat:= [300,307,308,309,310,311,312,313,314,315]
theorem ydv (k:Nat) (hk:k < 10):∃b r,zx6[k+1]? =some (b::r)∧((List.range Tryz.prog.funcs.size).filter fun f=>(Tryz.prog.funcs[f]?).any (·.name.toUTF8.data.toList==b::r))= [fnA.getD k 0]∧w9[k+1]? =some (.fn (.func (fnA.getD k 0)) [] []):=by
 match k,hk with
 |0,_=>exact ⟨(nm 0).headD 0,(nm 0).tail,by kernel_rfl,by kernel_rfl,by kernel_rfl⟩
 |1,_=>exact ⟨(nm 1).headD 0,(nm 1).tail,by kernel_rfl,by kernel_rfl,by kernel_rfl⟩
 |2,_=>exact ⟨(nm 2).headD 0,(nm 2).tail,by kernel_rfl,by kernel_rfl,by kernel_rfl⟩
 |3,_=>exact ⟨(nm 3).headD 0,(nm 3).tail,by kernel_rfl,by kernel_rfl,by kernel_rfl⟩
 |4,_=>exact ⟨(nm 4).headD 0,(nm 4).tail,by kernel_rfl,by kernel_rfl,by kernel_rfl⟩
 |5,_=>exact ⟨(nm 5).headD 0,(nm 5).tail,by kernel_rfl,by kernel_rfl,by kernel_rfl⟩
 |6,_=>exact ⟨(nm 6).headD 0,(nm 6).tail,by kernel_rfl,by kernel_rfl,by kernel_rfl⟩
 |7,_=>exact ⟨(nm 7).headD 0,(nm 7).tail,by kernel_rfl,by kernel_rfl,by kernel_rfl⟩
 |8,_=>exact ⟨(nm 8).headD 0,(nm 8).tail,by kernel_rfl,by kernel_rfl,by kernel_rfl⟩
 |9,_=>exact ⟨(nm 9).headD 0,(nm 9).tail,by kernel_rfl,by kernel_rfl,by kernel_rfl⟩
end Go.Proofs.YtfmcbdjnmlcacaaGreatDoor
namespace Go.Proofs
open Go Go.Ab
open Go.H
def yiy (l:List Int):List AV:= [zb5 l]
theorem yki {P:Program} {h:List Res} {f:Operand→Option AV} {o:Oper} {b c:Bool} (hq:QR P h f o (.v (.bool b))) (e:b=c):QR P h f o (.v (.bool c)):=by subst e;exact hq
theorem nzT {a:Int} (h:(a !=0)=true):a≠0:=by simpa using h
theorem nzF {a:Int} (h:(a !=0)=false):a=0:=by simpa using h
theorem yid (l:List Ev):(zej l).length≤l.length:=by rw [zej,(zch _).length_eq,oM];exact List.length_filter_le _ _
def dnM (l:List Int):List (Int×Bool):=zpa (fun _:Int=>true) (fun t:Int=>t) [] l
theorem yoj {l:List Int} {k:Nat} (hk:k < l.length):dnM (l.take (k+1))=zdp l[k] true (dnM (l.take k)):=by
 rw [dnM,dnM,zpa,zpa,List.take_succ_eq_append_getElem hk,List.foldl_append];rfl
theorem zgb (l:List Ev) (t:Int):(za8 t (dnM (zej l))).getD false=zhq l t 5:=by
 rw [dnM,zfb]
 cases hq:zhq l t 5 with
 |true=>rw [if_pos (by rw [List.any_eq_true];exact ⟨t,zon.2 hq,by simp⟩)];rfl
 |false=>
  rw [if_neg (fun q=>by
   obtain ⟨x,hx,e⟩:=List.any_eq_true.1 q
   have e:x=t:=by simpa using e
   rw [e,zon,hq] at hx;cases hx)]
  rfl
def evD (l:List Ev) (n:Int):Ev:=(l[n.toNat]?).getD ⟨0,0,0,0,0,⟨0,0⟩,0,[]⟩
theorem zt8 {l:List Ev} {a:Nat} (ha:a < l.length):evD l (a:Int)=l[a]:=by rw [evD,Int.toNat_natCast,List.getElem?_eq_getElem ha];rfl
def zd2 (h:Hist) (n:Int):Int:=if u3 h=0 then (if 0≤n∧n < h.evs.length∧(evD h.evs n).kind=4 then 0 else 2) else u3 h
def zmu (h:Hist) (n:Int):List Seen:=if zd2 h n=0 then yft h (evD h.evs n) n.toNat else []
theorem ypf {h:Hist} {n:Int} (hc:u3 h≠0):zd2 h n=u3 h∧zmu h n= []:=by
 have e:zd2 h n=u3 h:=by rw [zd2,if_neg hc]
 exact ⟨e,by rw [zmu,e,if_neg hc]⟩
theorem ype {h:Hist} {n:Int} (hc:u3 h=0) (hn:¬(0≤n∧n < h.evs.length∧(evD h.evs n).kind=4)):zd2 h n=2∧zmu h n= []:=by
 have e:zd2 h n=2:=by rw [zd2,if_pos hc,if_neg hn]
 exact ⟨e,by rw [zmu,e];rfl⟩
theorem ypd {h:Hist} {a:Nat} (hc:u3 h=0) (ha:a < h.evs.length) (h4:h.evs[a].kind=4):zd2 h a=0∧zmu h a=(upR h.os.length).map (yd4 h.evs h.evs[a].t h.evs[a].scan a):=by
 have e:zd2 h a=0:=by rw [zd2,if_pos hc,if_pos ⟨by omega,by omega,by rw [zt8 ha];exact h4⟩]
 exact ⟨e,by rw [zmu,e,if_pos rfl,zt8 ha,Int.toNat_natCast];rfl⟩
set_option maxRecDepth 10000
instance:EqInts Tryz.prog 41 7:=⟨by kernel_rfl,fun w xs ys h1 h2=>match xs,ys,h1,h2 with
 | [a0,a1,a2,a3,a4,a5,a6],[c0,c1,c2,c3,c4,c5,c6],_,_=>by
   rw [run_equalIn_struct w 9999 41 _ _ (by kernel_rfl) (by kernel_rfl)]
   simp only [Program.fieldsOf,Tryz.underlying41]
   simp [Op.eqFields,part,run_equalIn_int _ 9998 3 .i64 .i64 _ _ Tryz.underlying3]
   by_cases h0:a0=c0
   case neg=>simp [h0]
   subst h0
   by_cases h1:a1=c1
   case neg=>simp [h1]
   subst h1
   by_cases h2:a2=c2
   case neg=>simp [h2]
   subst h2
   by_cases h3:a3=c3
   case neg=>simp [h3]
   subst h3
   by_cases h4:a4=c4
   case neg=>simp [h4]
   subst h4
   by_cases h5:a5=c5
   case neg=>simp [h5]
   subst h5
   by_cases h6:a6=c6
   case neg=>simp [h6]
   subst h6
   simp⟩
end Go.Proofs
namespace Go.Ab
open Go
end Go.Ab
set_option maxRecDepth 10000
namespace Go.Proofs
open Go Go.Ab
attribute [local irreducible] QR QV OE zb7 aw zcq zb6 zbd zas thn zev zc1 jch zel
open Go.H
theorem ylg (a:Int):y8 Tryz.prog 204 [iv a] [] (fun r h'=>h'= []∧r=bv false):=by
 refine z6 Tryz.func204 rfl rfl rfl ?_
 refine rn ?_;refine rq 0 ?_
 exact ⟨rfl,congrArg bv (bne_self_eq_false a)⟩
def ye0 (a b:Int):Int:=if a < b then -1 else if b < a then 1 else 0
theorem zqm (a b:Int) (l m:List Int):zgf (a::l) (b::m)=if ye0 a b=0 then zgf l m else ye0 a b:=by
 rw [zgf,ye0]
 by_cases h1:a < b
 ·rw [if_pos h1,if_pos h1];rfl
 ·rw [if_neg h1,if_neg h1]
  by_cases h2:b < a
  ·rw [if_pos h2,if_pos h2];rfl
  ·rw [if_neg h2,if_neg h2];rfl
theorem zvz:∀(l:List Int),l≠ []→zgf l []=1
 | [],h=>absurd rfl h
 |_::_,_=>rfl
theorem zv0:∀(l:List Int),l≠ []→zgf [] l= -1
 | [],h=>absurd rfl h
 |_::_,_=>rfl
theorem ymb (a b:Int):y8 Tryz.prog 144 [iv a,iv b] [] (fun r h'=>h'= []∧r=iv (ye0 a b)):=by
 refine z6 Tryz.func144 rfl rfl rfl ?_
 refine rn ?_;refine qv rfl rfl (y4 rfl rfl (zbh (ylg _) (Sbs.refl _))) ?_
 refine rn ?_;refine qv rfl rfl (y4 rfl rfl (zbh (ylg _) (Sbs.refl _))) ?_
 refine rn ?_;refine y0 rfl (fun hc11=> ?_) (fun hc11=> ?_)
 ·exact absurd hc11 (by decide)
 ·refine rn ?_;refine y0 rfl (fun hc13=> ?_) (fun hc13=> ?_)
  ·exact absurd hc13 (by decide)
  ·refine rn ?_;refine y0 rfl (fun hc16=> ?_) (fun hc16=> ?_)
   ·refine rn ?_;refine rq 0 ?_
    exact ⟨rfl,congrArg iv (by rw [ye0,if_pos (oT hc16)])⟩
   ·refine rn ?_;refine y0 rfl (fun hc19=> ?_) (fun hc19=> ?_)
    ·refine rn ?_;refine rq 0 ?_
     exact ⟨rfl,congrArg iv (by rw [ye0,if_neg (oF hc16),if_pos (oT hc19)])⟩
    ·refine rn ?_;refine rq 0 ?_
     exact ⟨rfl,congrArg iv (by rw [ye0,if_neg (oF hc16),if_neg (oF hc19)])⟩
theorem zwu {f g:Bool} (l m:List Int) (hl:l.length≤4611686018427387904) (hm:m.length≤4611686018427387904):y8 Tryz.prog 96 [.list f 1 (l.map zbs),.list g 1 (m.map zbs)] [] (fun r h'=>h'= []∧r=iv (zgf l m)):=by
 refine z6 Tryz.func96 rfl rfl rfl ?_
 refine rn ?_;refine zz1 (l.length) (fun k:Nat=>k≤m.length∧zgf l m=zgf (l.drop k) (m.drop k)) (fun k=> [(11,iv k)]) [(0,_),(1,_),(9,_),(10,_)] ⟨Nat.zero_le _,rfl⟩ ?_
 rintro k lk ⟨km,zk⟩
 refine rn ?_;refine y0 rfl (fun hc12=> ?_) (fun hc12=> ?_)
 ·have hk:=zef hc12
  have rk:=zcb (f:=zbs) hk
  refine rn ?_;refine y0 rfl (fun hc19=> ?_) (fun hc19=> ?_)
  ·have q:=oT hc19
   rw [oM] at q
   have qm:k=m.length:=by omega
   refine rn ?_;refine rq 0 ?_
   exact ⟨rfl,congrArg iv (by rw [zk,qm,List.drop_length,zvz _ (by rw [List.drop_eq_getElem_cons (by omega)];exact List.cons_ne_nil _ _)])⟩
  ·have q:=oF hc19
   rw [oM] at q
   have hkm:k < m.length:=by omega
   have rm:=zcb (f:=zbs) hkm
   refine rn ?_;refine qv rfl rfl (y4 rfl rfl (zbh (ymb l[k] m[k]) (Sbs.refl _))) ?_
   refine rn ?_;refine y0 rfl (fun hc28=> ?_) (fun hc28=> ?_)
   ·have hn:¬ye0 l[k] m[k]=0:=by simpa using hc28
    refine rn ?_;refine rq 0 ?_
    exact ⟨rfl,congrArg iv (by rw [zk,List.drop_eq_getElem_cons hk,List.drop_eq_getElem_cons hkm,zqm,if_neg hn])⟩
   ·refine rn ?_;exact ⟨hk,⟨hkm,by rw [zk,List.drop_eq_getElem_cons hk,List.drop_eq_getElem_cons hkm,zqm,if_pos (by simpa using hc28)]⟩,eA⟩
 ·have qk:=zeh hc12 lk
  refine rn ?_;refine y0 rfl (fun hc35=> ?_) (fun hc35=> ?_)
  ·have q:=oT hc35
   rw [oM,oM] at q
   refine rn ?_;refine rq 0 ?_
   exact ⟨rfl,congrArg iv (by rw [zk,qk,List.drop_length,zv0 _ (by rw [List.drop_eq_getElem_cons (by omega)];exact List.cons_ne_nil _ _)])⟩
  ·have q:=oF hc35
   rw [oM,oM] at q
   have qm:k=m.length:=by omega
   refine rn ?_;refine rq 0 ?_
   exact ⟨rfl,congrArg iv (by rw [zk,List.drop_eq_nil_of_le (by omega),List.drop_eq_nil_of_le (by omega)];rfl)⟩
def zid (a b:Conf):Bool:=([a.f,a.t,a.k,a.a,a.b,a.o,a.p]:List Int)== [b.f,b.t,b.k,b.a,b.b,b.o,b.p]
theorem zic (a b:Conf):zid a b=decide (a=b):=by
 rw [zid,Bool.eq_iff_iff,decide_eq_true_iff]
 obtain ⟨a1,a2,a3,a4,a5,a6,a7⟩:=a
 obtain ⟨b1,b2,b3,b4,b5,b6,b7⟩:=b
 simp
theorem zs0 (c:Conf):y8 Tryz.prog 95 [.agg (j7 c)] [] (fun r h'=>h'= []∧r= .agg (j7 c)):=by
 refine z6 Tryz.func95 rfl rfl rfl ?_
 refine rn ?_;refine z7 rfl (w8 rfl rfl rfl fun b1=> ?_)
 refine z7 rfl (y7 rfl fun b2=> ?_)
 refine j4 (zai ?_)
 refine w7 (y6 ?_)
 refine q1 ?_;refine q1 ?_;refine q1 ?_;refine q1 ?_;refine q1 ?_;refine q1 ?_;refine q1 ?_;refine q1 ?_;refine q1 ?_;refine q1 ?_;refine q1 ?_;refine q1 ?_;refine q1 ?_;refine q1 ?_;refine qq rfl rfl (zcz (out:=j7 c) rfl (by rfl)) ?_
 refine rn ?_;exact zdy (.cons _ _ _ _ (.agg _ _ _ _ _ _ _ rfl inferInstance inferInstance inferInstance rfl) .nil) (.drop [_,_] _ _) ⟨rfl,rfl⟩
theorem zhr (a b:Conf):y8 Tryz.prog 39 [.agg (j7 a),.agg (j7 b)] [] (fun r h'=>h'= []∧r=iv (ze7 a b)):=by
 refine z6 Tryz.func39 rfl rfl rfl ?_
 refine rn ?_;refine z7 rfl (w8 rfl rfl rfl fun b2=> ?_)
 refine z7 rfl (w8 rfl rfl rfl fun b3=> ?_)
 refine rn ?_;refine y0 rfl (fun hc9=> ?_) (fun hc9=> ?_)
 ·have he:a=b:=oT (by rw [←zic];exact hc9)
  refine rn ?_;refine rq 2 ?_
  exact ⟨rfl,congrArg iv (by rw [he,zig])⟩
 ·refine rn ?_;refine zad 6 rfl ?_
  refine rn ?_;refine dv rfl rfl (by exact y4 rfl rfl (zbh (zs0 a) (Sbs.refl _))) ?_
  refine rn ?_;refine dv rfl rfl (by exact y4 rfl rfl (zbh (zs0 b) (Sbs.refl _))) ?_
  refine rn ?_;refine zub rfl fun b5=> ?_
  refine zub rfl fun b6=> ?_
  refine rn ?_;refine zad 2 rfl ?_
  refine dq rfl rfl (zjg rfl) ?_
  refine dq rfl rfl (zjg rfl) ?_
  refine rn2 ?_;refine zus b5 ?_
  refine zus b6 ?_
  show zb7 _ _ _ _ _ _ ⟨_,.row (yi7 b6 7) 1 124 ((yap b).map zbs):: .row (yi7 b5 7) 1 124 ((yap a).map zbs):: .box b3 41 (j7 b):: .box b2 41 (j7 a):: [],_⟩
  refine qv rfl rfl (y4 rfl rfl (z8.lend (R:=fun x=>x=iv (ze7 a b)) (z8.of_fun (zwu (yap a) (yap b) (by show 7≤4611686018427387904;decide) (by show 7≤4611686018427387904;decide))) (fun r hr=>by rw [hr];rfl) (.refl _ _) (by exact ⟨zl3,zl3,trivial⟩))) ?_
  refine rn ?_;refine rq 4 ?_
  exact ⟨rfl,rfl⟩
end Go.Proofs
