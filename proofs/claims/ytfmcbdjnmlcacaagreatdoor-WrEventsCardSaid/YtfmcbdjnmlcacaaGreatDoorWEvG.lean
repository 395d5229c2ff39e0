/- The decoding of runes. Conditions: none. -/
import Derived.Test.YtfmcbdjnmlcacaaGreatDoorWEvF
set_option linter.unusedSectionVars false
set_option linter.unusedSimpArgs false
set_option linter.unusedVariables false
set_option maxRecDepth 10000
namespace Go.Proofs
open Go Go.Ab
attribute [local irreducible] QR QV OE zb5 aw zce zcn za2 zbr thn zd9
open Go.H
theorem zn9 (s:ByteArray) (hx:zca (bt s 0).toNat=240):y8 Tryz.prog 284 [.v (.string s)] [.glob 4 305 y3,.glob 5 308 z8] (fun r h'=>h'= [.glob 4 305 y3,.glob 5 308 z8]∧r= .tup [.v (.int .i32 (y5 s).1),iv (y5 s).2]):=by
 refine z6 Tryz.func284 rfl rfl rfl ?_
 refine rn ?_;refine y0 rfl (fun hc16=> ?_) (fun hc16=> ?_)
 ·refine rn ?_;have hd:y5 s=(65533,0):=by
   unfold y5
   rw [if_pos (by simp at hc16;omega)]
  exact zbj rfl rfl (.refl _ _) ⟨rfl,by rw [hd];rfl⟩
 ·have h1:0 < s.size:=by simp at hc16;omega
  refine rn ?_;refine qq rfl rfl (u3 0 rfl rfl (by omega)) ?_
  refine rn ?_;refine qq rfl rfl (u7 rfl rfl (zfb _ _) (zfa _ _)) ?_
  refine qq rfl rfl (k9 rfl (show _=some (.v (.int .u8 240)) from by rw [zcd (zfb s 0) (zfa s 0),hx])) ?_
  refine rn ?_;refine y0 rfl (fun hc23=> ?_) (fun hc23=> ?_)
  ·refine rn ?_;refine qq rfl rfl (u3 0 rfl rfl (by omega)) ?_
   refine rn ?_;have hd:y5 s=(bI .or .i32 (bI .andNot .i32 (IntKind.i32.wrap (bt s 0)) (zi7 240)) (bI .and .i32 65533 (zi7 240)),1):=by
    unfold y5
    rw [if_neg (by omega)]
    simp only [hx]
    rw [if_pos (by decide)]
   exact zbj rfl rfl (.refl _ _) ⟨rfl,by rw [hd];rfl⟩
  ·first|cases hc23|exact absurd hc23 (by decide)|(exfalso;simp_all;done)
theorem zn8 (s:ByteArray) (hx:zca (bt s 0).toNat=241):y8 Tryz.prog 284 [.v (.string s)] [.glob 4 305 y3,.glob 5 308 z8] (fun r h'=>h'= [.glob 4 305 y3,.glob 5 308 z8]∧r= .tup [.v (.int .i32 (y5 s).1),iv (y5 s).2]):=by
 refine z6 Tryz.func284 rfl rfl rfl ?_
 refine rn ?_;refine y0 rfl (fun hc16=> ?_) (fun hc16=> ?_)
 ·refine rn ?_;have hd:y5 s=(65533,0):=by
   unfold y5
   rw [if_pos (by simp at hc16;omega)]
  exact zbj rfl rfl (.refl _ _) ⟨rfl,by rw [hd];rfl⟩
 ·have h1:0 < s.size:=by simp at hc16;omega
  refine rn ?_;refine qq rfl rfl (u3 0 rfl rfl (by omega)) ?_
  refine rn ?_;refine qq rfl rfl (u7 rfl rfl (zfb _ _) (zfa _ _)) ?_
  refine qq rfl rfl (k9 rfl (show _=some (.v (.int .u8 241)) from by rw [zcd (zfb s 0) (zfa s 0),hx])) ?_
  refine rn ?_;refine y0 rfl (fun hc23=> ?_) (fun hc23=> ?_)
  ·refine rn ?_;refine qq rfl rfl (u3 0 rfl rfl (by omega)) ?_
   refine rn ?_;have hd:y5 s=(bI .or .i32 (bI .andNot .i32 (IntKind.i32.wrap (bt s 0)) (zi7 241)) (bI .and .i32 65533 (zi7 241)),1):=by
    unfold y5
    rw [if_neg (by omega)]
    simp only [hx]
    rw [if_pos (by decide)]
   exact zbj rfl rfl (.refl _ _) ⟨rfl,by rw [hd];rfl⟩
  ·first|cases hc23|exact absurd hc23 (by decide)|(exfalso;simp_all;done)
theorem zr6 (s:ByteArray) (hx:zca (bt s 0).toNat=2):y8 Tryz.prog 284 [.v (.string s)] [.glob 4 305 y3,.glob 5 308 z8] (fun r h'=>h'= [.glob 4 305 y3,.glob 5 308 z8]∧r= .tup [.v (.int .i32 (y5 s).1),iv (y5 s).2]):=by
 refine z6 Tryz.func284 rfl rfl rfl ?_
 refine rn ?_;refine y0 rfl (fun hc16=> ?_) (fun hc16=> ?_)
 ·refine rn ?_;have hd:y5 s=(65533,0):=by
   unfold y5
   rw [if_pos (by simp at hc16;omega)]
  exact zbj rfl rfl (.refl _ _) ⟨rfl,by rw [hd];rfl⟩
 ·have h1:0 < s.size:=by simp at hc16;omega
  refine rn ?_;refine qq rfl rfl (u3 0 rfl rfl (by omega)) ?_
  refine rn ?_;refine qq rfl rfl (u7 rfl rfl (zfb _ _) (zfa _ _)) ?_
  refine qq rfl rfl (k9 rfl (show _=some (.v (.int .u8 2)) from by rw [zcd (zfb s 0) (zfa s 0),hx])) ?_
  refine rn ?_;refine y0 rfl (fun hc23=> ?_) (fun hc23=> ?_)
  ·first|cases hc23|exact absurd hc23 (by decide)|(exfalso;simp_all;done)
  ·refine rn ?_;refine qq rfl rfl (u7 rfl rfl (by decide) (by decide)) ?_
   refine rn ?_;refine z7 rfl (y7 rfl fun b9=> ?_)
   refine rn ?_;refine y0 rfl (fun hc45=> ?_) (fun hc45=> ?_)
   ·refine rn ?_;have hd:y5 s=(65533,1):=by
     unfold y5
     rw [if_neg (by omega)]
     simp only [hx]
     rw [if_neg (by decide),if_pos (show (s.size:Int) < (2:Int) % 8 from oT hc45)]
    exact zbj rfl rfl (.drop1 _ _ _) ⟨rfl,by rw [hd];rfl⟩
   ·have h2:2≤s.size:=by
     have:¬((s.size:Int) < 2):=oF hc45
     omega
    refine rn ?_;refine qq rfl rfl (u3 1 rfl rfl (by omega)) ?_
    refine rn ?_;refine u0 (fun hg14_4=> ?_) (fun hg14_4=> ?_)
    ·refine rn ?_;refine y0 rfl (fun hc57=> ?_) (fun hc57=> ?_)
     ·refine rn ?_;have hd:y5 s=(65533,1):=by
       unfold y5
       rw [if_neg (by omega)]
       simp only [hx]
       rw [if_neg (by decide),if_neg (show ¬(s.size:Int) < (2:Int) % 8 from oF hc45),if_pos (show bt s 1 < zbu ((2:Int) / 16).toNat∨zbv ((2:Int) / 16).toNat < bt s 1 from by first|exact .inl (oT hg14_4)|exact .inr (oT hc57))]
      exact zbj rfl rfl (.drop1 _ _ _) ⟨rfl,by rw [hd];rfl⟩
     ·first|cases hc57|exact absurd hc57 (by decide)|(exfalso;simp_all;done)
    ·refine rn ?_;refine y0 rfl (fun hc57=> ?_) (fun hc57=> ?_)
     ·refine rn ?_;have hd:y5 s=(65533,1):=by
       unfold y5
       rw [if_neg (by omega)]
       simp only [hx]
       rw [if_neg (by decide),if_neg (show ¬(s.size:Int) < (2:Int) % 8 from oF hc45),if_pos (show bt s 1 < zbu ((2:Int) / 16).toNat∨zbv ((2:Int) / 16).toNat < bt s 1 from by first|exact .inl (oT hg14_4)|exact .inr (oT hc57))]
      exact zbj rfl rfl (.drop1 _ _ _) ⟨rfl,by rw [hd];rfl⟩
     ·refine rn ?_;refine y0 rfl (fun hc59=> ?_) (fun hc59=> ?_)
      ·refine rn ?_;have hd:y5 s=(bI .or .i32 (zck (bt s 0) 31 6) (zck (bt s 1) 63 0),2):=by
        unfold y5
        rw [if_neg (by omega)]
        simp only [hx]
        rw [if_neg (by decide),if_neg (show ¬(s.size:Int) < (2:Int) % 8 from oF hc45),if_neg (show ¬(bt s 1 < zbu ((2:Int) / 16).toNat∨zbv ((2:Int) / 16).toNat < bt s 1) from fun q=>q.elim (oF hg14_4) (oF hc57)),if_pos (by decide)]
       exact zbj rfl rfl (.drop1 _ _ _) ⟨rfl,by rw [hd];rfl⟩
      ·first|cases hc59|exact absurd hc59 (by decide)|(exfalso;simp_all;done)
theorem zp1 (s:ByteArray) (hx:zca (bt s 0).toNat=19):y8 Tryz.prog 284 [.v (.string s)] [.glob 4 305 y3,.glob 5 308 z8] (fun r h'=>h'= [.glob 4 305 y3,.glob 5 308 z8]∧r= .tup [.v (.int .i32 (y5 s).1),iv (y5 s).2]):=by
 refine z6 Tryz.func284 rfl rfl rfl ?_
 refine rn ?_;refine y0 rfl (fun hc16=> ?_) (fun hc16=> ?_)
 ·refine rn ?_;have hd:y5 s=(65533,0):=by
   unfold y5
   rw [if_pos (by simp at hc16;omega)]
  exact zbj rfl rfl (.refl _ _) ⟨rfl,by rw [hd];rfl⟩
 ·have h1:0 < s.size:=by simp at hc16;omega
  refine rn ?_;refine qq rfl rfl (u3 0 rfl rfl (by omega)) ?_
  refine rn ?_;refine qq rfl rfl (u7 rfl rfl (zfb _ _) (zfa _ _)) ?_
  refine qq rfl rfl (k9 rfl (show _=some (.v (.int .u8 19)) from by rw [zcd (zfb s 0) (zfa s 0),hx])) ?_
  refine rn ?_;refine y0 rfl (fun hc23=> ?_) (fun hc23=> ?_)
  ·first|cases hc23|exact absurd hc23 (by decide)|(exfalso;simp_all;done)
  ·refine rn ?_;refine qq rfl rfl (u7 rfl rfl (by decide) (by decide)) ?_
   refine rn ?_;refine z7 rfl (y7 rfl fun b9=> ?_)
   refine rn ?_;refine y0 rfl (fun hc45=> ?_) (fun hc45=> ?_)
   ·refine rn ?_;have hd:y5 s=(65533,1):=by
     unfold y5
     rw [if_neg (by omega)]
     simp only [hx]
     rw [if_neg (by decide),if_pos (show (s.size:Int) < (19:Int) % 8 from oT hc45)]
    exact zbj rfl rfl (.drop1 _ _ _) ⟨rfl,by rw [hd];rfl⟩
   ·have h2:3≤s.size:=by
     have:¬((s.size:Int) < 3):=oF hc45
     omega
    refine rn ?_;refine qq rfl rfl (u3 1 rfl rfl (by omega)) ?_
    refine rn ?_;refine u0 (fun hg14_4=> ?_) (fun hg14_4=> ?_)
    ·refine rn ?_;refine y0 rfl (fun hc57=> ?_) (fun hc57=> ?_)
     ·refine rn ?_;have hd:y5 s=(65533,1):=by
       unfold y5
       rw [if_neg (by omega)]
       simp only [hx]
       rw [if_neg (by decide),if_neg (show ¬(s.size:Int) < (19:Int) % 8 from oF hc45),if_pos (show bt s 1 < zbu ((19:Int) / 16).toNat∨zbv ((19:Int) / 16).toNat < bt s 1 from by first|exact .inl (oT hg14_4)|exact .inr (oT hc57))]
      exact zbj rfl rfl (.drop1 _ _ _) ⟨rfl,by rw [hd];rfl⟩
     ·first|cases hc57|exact absurd hc57 (by decide)|(exfalso;simp_all;done)
    ·refine rn ?_;refine y0 rfl (fun hc57=> ?_) (fun hc57=> ?_)
     ·refine rn ?_;have hd:y5 s=(65533,1):=by
       unfold y5
       rw [if_neg (by omega)]
       simp only [hx]
       rw [if_neg (by decide),if_neg (show ¬(s.size:Int) < (19:Int) % 8 from oF hc45),if_pos (show bt s 1 < zbu ((19:Int) / 16).toNat∨zbv ((19:Int) / 16).toNat < bt s 1 from by first|exact .inl (oT hg14_4)|exact .inr (oT hc57))]
      exact zbj rfl rfl (.drop1 _ _ _) ⟨rfl,by rw [hd];rfl⟩
     ·refine rn ?_;refine y0 rfl (fun hc59=> ?_) (fun hc59=> ?_)
      ·first|cases hc59|exact absurd hc59 (by decide)|(exfalso;simp_all;done)
      ·refine rn ?_;refine qq rfl rfl (u3 2 rfl rfl (by omega)) ?_
       refine rn ?_;refine u0 (fun hg19_2=> ?_) (fun hg19_2=> ?_)
       ·refine rn ?_;refine y0 rfl (fun hc75=> ?_) (fun hc75=> ?_)
        ·refine rn ?_;have hd:y5 s=(65533,1):=by
          unfold y5
          rw [if_neg (by omega)]
          simp only [hx]
          rw [if_neg (by decide),if_neg (show ¬(s.size:Int) < (19:Int) % 8 from oF hc45),if_neg (show ¬(bt s 1 < zbu ((19:Int) / 16).toNat∨zbv ((19:Int) / 16).toNat < bt s 1) from fun q=>q.elim (oF hg14_4) (oF hc57)),if_neg (by decide),if_pos (show bt s 2 < 128∨191 < bt s 2 from by first|exact .inl (oT hg19_2)|exact .inr (oT hc75))]
         exact zbj rfl rfl (.drop1 _ _ _) ⟨rfl,by rw [hd];rfl⟩
        ·first|cases hc75|exact absurd hc75 (by decide)|(exfalso;simp_all;done)
       ·refine rn ?_;refine y0 rfl (fun hc75=> ?_) (fun hc75=> ?_)
        ·refine rn ?_;have hd:y5 s=(65533,1):=by
          unfold y5
          rw [if_neg (by omega)]
          simp only [hx]
          rw [if_neg (by decide),if_neg (show ¬(s.size:Int) < (19:Int) % 8 from oF hc45),if_neg (show ¬(bt s 1 < zbu ((19:Int) / 16).toNat∨zbv ((19:Int) / 16).toNat < bt s 1) from fun q=>q.elim (oF hg14_4) (oF hc57)),if_neg (by decide),if_pos (show bt s 2 < 128∨191 < bt s 2 from by first|exact .inl (oT hg19_2)|exact .inr (oT hc75))]
         exact zbj rfl rfl (.drop1 _ _ _) ⟨rfl,by rw [hd];rfl⟩
        ·refine rn ?_;refine y0 rfl (fun hc77=> ?_) (fun hc77=> ?_)
         ·refine rn ?_;have hd:y5 s=(bI .or .i32 (bI .or .i32 (zck (bt s 0) 15 12) (zck (bt s 1) 63 6)) (zck (bt s 2) 63 0),3):=by
           unfold y5
           rw [if_neg (by omega)]
           simp only [hx]
           rw [if_neg (by decide),if_neg (show ¬(s.size:Int) < (19:Int) % 8 from oF hc45),if_neg (show ¬(bt s 1 < zbu ((19:Int) / 16).toNat∨zbv ((19:Int) / 16).toNat < bt s 1) from fun q=>q.elim (oF hg14_4) (oF hc57)),if_neg (by decide),if_neg (show ¬(bt s 2 < 128∨191 < bt s 2) from fun q=>q.elim (oF hg19_2) (oF hc75)),if_pos (by decide)]
          exact zbj rfl rfl (.drop1 _ _ _) ⟨rfl,by rw [hd];rfl⟩
         ·first|cases hc77|exact absurd hc77 (by decide)|(exfalso;simp_all;done)
theorem zr5 (s:ByteArray) (hx:zca (bt s 0).toNat=3):y8 Tryz.prog 284 [.v (.string s)] [.glob 4 305 y3,.glob 5 308 z8] (fun r h'=>h'= [.glob 4 305 y3,.glob 5 308 z8]∧r= .tup [.v (.int .i32 (y5 s).1),iv (y5 s).2]):=by
 refine z6 Tryz.func284 rfl rfl rfl ?_
 refine rn ?_;refine y0 rfl (fun hc16=> ?_) (fun hc16=> ?_)
 ·refine rn ?_;have hd:y5 s=(65533,0):=by
   unfold y5
   rw [if_pos (by simp at hc16;omega)]
  exact zbj rfl rfl (.refl _ _) ⟨rfl,by rw [hd];rfl⟩
 ·have h1:0 < s.size:=by simp at hc16;omega
  refine rn ?_;refine qq rfl rfl (u3 0 rfl rfl (by omega)) ?_
  refine rn ?_;refine qq rfl rfl (u7 rfl rfl (zfb _ _) (zfa _ _)) ?_
  refine qq rfl rfl (k9 rfl (show _=some (.v (.int .u8 3)) from by rw [zcd (zfb s 0) (zfa s 0),hx])) ?_
  refine rn ?_;refine y0 rfl (fun hc23=> ?_) (fun hc23=> ?_)
  ·first|cases hc23|exact absurd hc23 (by decide)|(exfalso;simp_all;done)
  ·refine rn ?_;refine qq rfl rfl (u7 rfl rfl (by decide) (by decide)) ?_
   refine rn ?_;refine z7 rfl (y7 rfl fun b9=> ?_)
   refine rn ?_;refine y0 rfl (fun hc45=> ?_) (fun hc45=> ?_)
   ·refine rn ?_;have hd:y5 s=(65533,1):=by
     unfold y5
     rw [if_neg (by omega)]
     simp only [hx]
     rw [if_neg (by decide),if_pos (show (s.size:Int) < (3:Int) % 8 from oT hc45)]
    exact zbj rfl rfl (.drop1 _ _ _) ⟨rfl,by rw [hd];rfl⟩
   ·have h2:3≤s.size:=by
     have:¬((s.size:Int) < 3):=oF hc45
     omega
    refine rn ?_;refine qq rfl rfl (u3 1 rfl rfl (by omega)) ?_
    refine rn ?_;refine u0 (fun hg14_4=> ?_) (fun hg14_4=> ?_)
    ·refine rn ?_;refine y0 rfl (fun hc57=> ?_) (fun hc57=> ?_)
     ·refine rn ?_;have hd:y5 s=(65533,1):=by
       unfold y5
       rw [if_neg (by omega)]
       simp only [hx]
       rw [if_neg (by decide),if_neg (show ¬(s.size:Int) < (3:Int) % 8 from oF hc45),if_pos (show bt s 1 < zbu ((3:Int) / 16).toNat∨zbv ((3:Int) / 16).toNat < bt s 1 from by first|exact .inl (oT hg14_4)|exact .inr (oT hc57))]
      exact zbj rfl rfl (.drop1 _ _ _) ⟨rfl,by rw [hd];rfl⟩
     ·first|cases hc57|exact absurd hc57 (by decide)|(exfalso;simp_all;done)
    ·refine rn ?_;refine y0 rfl (fun hc57=> ?_) (fun hc57=> ?_)
     ·refine rn ?_;have hd:y5 s=(65533,1):=by
       unfold y5
       rw [if_neg (by omega)]
       simp only [hx]
       rw [if_neg (by decide),if_neg (show ¬(s.size:Int) < (3:Int) % 8 from oF hc45),if_pos (show bt s 1 < zbu ((3:Int) / 16).toNat∨zbv ((3:Int) / 16).toNat < bt s 1 from by first|exact .inl (oT hg14_4)|exact .inr (oT hc57))]
      exact zbj rfl rfl (.drop1 _ _ _) ⟨rfl,by rw [hd];rfl⟩
     ·refine rn ?_;refine y0 rfl (fun hc59=> ?_) (fun hc59=> ?_)
      ·first|cases hc59|exact absurd hc59 (by decide)|(exfalso;simp_all;done)
      ·refine rn ?_;refine qq rfl rfl (u3 2 rfl rfl (by omega)) ?_
       refine rn ?_;refine u0 (fun hg19_2=> ?_) (fun hg19_2=> ?_)
       ·refine rn ?_;refine y0 rfl (fun hc75=> ?_) (fun hc75=> ?_)
        ·refine rn ?_;have hd:y5 s=(65533,1):=by
          unfold y5
          rw [if_neg (by omega)]
          simp only [hx]
          rw [if_neg (by decide),if_neg (show ¬(s.size:Int) < (3:Int) % 8 from oF hc45),if_neg (show ¬(bt s 1 < zbu ((3:Int) / 16).toNat∨zbv ((3:Int) / 16).toNat < bt s 1) from fun q=>q.elim (oF hg14_4) (oF hc57)),if_neg (by decide),if_pos (show bt s 2 < 128∨191 < bt s 2 from by first|exact .inl (oT hg19_2)|exact .inr (oT hc75))]
         exact zbj rfl rfl (.drop1 _ _ _) ⟨rfl,by rw [hd];rfl⟩
        ·first|cases hc75|exact absurd hc75 (by decide)|(exfalso;simp_all;done)
       ·refine rn ?_;refine y0 rfl (fun hc75=> ?_) (fun hc75=> ?_)
        ·refine rn ?_;have hd:y5 s=(65533,1):=by
          unfold y5
          rw [if_neg (by omega)]
          simp only [hx]
          rw [if_neg (by decide),if_neg (show ¬(s.size:Int) < (3:Int) % 8 from oF hc45),if_neg (show ¬(bt s 1 < zbu ((3:Int) / 16).toNat∨zbv ((3:Int) / 16).toNat < bt s 1) from fun q=>q.elim (oF hg14_4) (oF hc57)),if_neg (by decide),if_pos (show bt s 2 < 128∨191 < bt s 2 from by first|exact .inl (oT hg19_2)|exact .inr (oT hc75))]
         exact zbj rfl rfl (.drop1 _ _ _) ⟨rfl,by rw [hd];rfl⟩
        ·refine rn ?_;refine y0 rfl (fun hc77=> ?_) (fun hc77=> ?_)
         ·refine rn ?_;have hd:y5 s=(bI .or .i32 (bI .or .i32 (zck (bt s 0) 15 12) (zck (bt s 1) 63 6)) (zck (bt s 2) 63 0),3):=by
           unfold y5
           rw [if_neg (by omega)]
           simp only [hx]
           rw [if_neg (by decide),if_neg (show ¬(s.size:Int) < (3:Int) % 8 from oF hc45),if_neg (show ¬(bt s 1 < zbu ((3:Int) / 16).toNat∨zbv ((3:Int) / 16).toNat < bt s 1) from fun q=>q.elim (oF hg14_4) (oF hc57)),if_neg (by decide),if_neg (show ¬(bt s 2 < 128∨191 < bt s 2) from fun q=>q.elim (oF hg19_2) (oF hc75)),if_pos (by decide)]
          exact zbj rfl rfl (.drop1 _ _ _) ⟨rfl,by rw [hd];rfl⟩
         ·first|cases hc77|exact absurd hc77 (by decide)|(exfalso;simp_all;done)
theorem zp0 (s:ByteArray) (hx:zca (bt s 0).toNat=35):y8 Tryz.prog 284 [.v (.string s)] [.glob 4 305 y3,.glob 5 308 z8] (fun r h'=>h'= [.glob 4 305 y3,.glob 5 308 z8]∧r= .tup [.v (.int .i32 (y5 s).1),iv (y5 s).2]):=by
 refine z6 Tryz.func284 rfl rfl rfl ?_
 refine rn ?_;refine y0 rfl (fun hc16=> ?_) (fun hc16=> ?_)
 ·refine rn ?_;have hd:y5 s=(65533,0):=by
   unfold y5
   rw [if_pos (by simp at hc16;omega)]
  exact zbj rfl rfl (.refl _ _) ⟨rfl,by rw [hd];rfl⟩
 ·have h1:0 < s.size:=by simp at hc16;omega
  refine rn ?_;refine qq rfl rfl (u3 0 rfl rfl (by omega)) ?_
  refine rn ?_;refine qq rfl rfl (u7 rfl rfl (zfb _ _) (zfa _ _)) ?_
  refine qq rfl rfl (k9 rfl (show _=some (.v (.int .u8 35)) from by rw [zcd (zfb s 0) (zfa s 0),hx])) ?_
  refine rn ?_;refine y0 rfl (fun hc23=> ?_) (fun hc23=> ?_)
  ·first|cases hc23|exact absurd hc23 (by decide)|(exfalso;simp_all;done)
  ·refine rn ?_;refine qq rfl rfl (u7 rfl rfl (by decide) (by decide)) ?_
   refine rn ?_;refine z7 rfl (y7 rfl fun b9=> ?_)
   refine rn ?_;refine y0 rfl (fun hc45=> ?_) (fun hc45=> ?_)
   ·refine rn ?_;have hd:y5 s=(65533,1):=by
     unfold y5
     rw [if_neg (by omega)]
     simp only [hx]
     rw [if_neg (by decide),if_pos (show (s.size:Int) < (35:Int) % 8 from oT hc45)]
    exact zbj rfl rfl (.drop1 _ _ _) ⟨rfl,by rw [hd];rfl⟩
   ·have h2:3≤s.size:=by
     have:¬((s.size:Int) < 3):=oF hc45
     omega
    refine rn ?_;refine qq rfl rfl (u3 1 rfl rfl (by omega)) ?_
    refine rn ?_;refine u0 (fun hg14_4=> ?_) (fun hg14_4=> ?_)
    ·refine rn ?_;refine y0 rfl (fun hc57=> ?_) (fun hc57=> ?_)
     ·refine rn ?_;have hd:y5 s=(65533,1):=by
       unfold y5
       rw [if_neg (by omega)]
       simp only [hx]
       rw [if_neg (by decide),if_neg (show ¬(s.size:Int) < (35:Int) % 8 from oF hc45),if_pos (show bt s 1 < zbu ((35:Int) / 16).toNat∨zbv ((35:Int) / 16).toNat < bt s 1 from by first|exact .inl (oT hg14_4)|exact .inr (oT hc57))]
      exact zbj rfl rfl (.drop1 _ _ _) ⟨rfl,by rw [hd];rfl⟩
     ·first|cases hc57|exact absurd hc57 (by decide)|(exfalso;simp_all;done)
    ·refine rn ?_;refine y0 rfl (fun hc57=> ?_) (fun hc57=> ?_)
     ·refine rn ?_;have hd:y5 s=(65533,1):=by
       unfold y5
       rw [if_neg (by omega)]
       simp only [hx]
       rw [if_neg (by decide),if_neg (show ¬(s.size:Int) < (35:Int) % 8 from oF hc45),if_pos (show bt s 1 < zbu ((35:Int) / 16).toNat∨zbv ((35:Int) / 16).toNat < bt s 1 from by first|exact .inl (oT hg14_4)|exact .inr (oT hc57))]
      exact zbj rfl rfl (.drop1 _ _ _) ⟨rfl,by rw [hd];rfl⟩
     ·refine rn ?_;refine y0 rfl (fun hc59=> ?_) (fun hc59=> ?_)
      ·first|cases hc59|exact absurd hc59 (by decide)|(exfalso;simp_all;done)
      ·refine rn ?_;refine qq rfl rfl (u3 2 rfl rfl (by omega)) ?_
       refine rn ?_;refine u0 (fun hg19_2=> ?_) (fun hg19_2=> ?_)
       ·refine rn ?_;refine y0 rfl (fun hc75=> ?_) (fun hc75=> ?_)
        ·refine rn ?_;have hd:y5 s=(65533,1):=by
          unfold y5
          rw [if_neg (by omega)]
          simp only [hx]
          rw [if_neg (by decide),if_neg (show ¬(s.size:Int) < (35:Int) % 8 from oF hc45),if_neg (show ¬(bt s 1 < zbu ((35:Int) / 16).toNat∨zbv ((35:Int) / 16).toNat < bt s 1) from fun q=>q.elim (oF hg14_4) (oF hc57)),if_neg (by decide),if_pos (show bt s 2 < 128∨191 < bt s 2 from by first|exact .inl (oT hg19_2)|exact .inr (oT hc75))]
         exact zbj rfl rfl (.drop1 _ _ _) ⟨rfl,by rw [hd];rfl⟩
        ·first|cases hc75|exact absurd hc75 (by decide)|(exfalso;simp_all;done)
       ·refine rn ?_;refine y0 rfl (fun hc75=> ?_) (fun hc75=> ?_)
        ·refine rn ?_;have hd:y5 s=(65533,1):=by
          unfold y5
          rw [if_neg (by omega)]
          simp only [hx]
          rw [if_neg (by decide),if_neg (show ¬(s.size:Int) < (35:Int) % 8 from oF hc45),if_neg (show ¬(bt s 1 < zbu ((35:Int) / 16).toNat∨zbv ((35:Int) / 16).toNat < bt s 1) from fun q=>q.elim (oF hg14_4) (oF hc57)),if_neg (by decide),if_pos (show bt s 2 < 128∨191 < bt s 2 from by first|exact .inl (oT hg19_2)|exact .inr (oT hc75))]
         exact zbj rfl rfl (.drop1 _ _ _) ⟨rfl,by rw [hd];rfl⟩
        ·refine rn ?_;refine y0 rfl (fun hc77=> ?_) (fun hc77=> ?_)
         ·refine rn ?_;have hd:y5 s=(bI .or .i32 (bI .or .i32 (zck (bt s 0) 15 12) (zck (bt s 1) 63 6)) (zck (bt s 2) 63 0),3):=by
           unfold y5
           rw [if_neg (by omega)]
           simp only [hx]
           rw [if_neg (by decide),if_neg (show ¬(s.size:Int) < (35:Int) % 8 from oF hc45),if_neg (show ¬(bt s 1 < zbu ((35:Int) / 16).toNat∨zbv ((35:Int) / 16).toNat < bt s 1) from fun q=>q.elim (oF hg14_4) (oF hc57)),if_neg (by decide),if_neg (show ¬(bt s 2 < 128∨191 < bt s 2) from fun q=>q.elim (oF hg19_2) (oF hc75)),if_pos (by decide)]
          exact zbj rfl rfl (.drop1 _ _ _) ⟨rfl,by rw [hd];rfl⟩
         ·first|cases hc77|exact absurd hc77 (by decide)|(exfalso;simp_all;done)
theorem zpz (s:ByteArray) (hx:zca (bt s 0).toNat=52):y8 Tryz.prog 284 [.v (.string s)] [.glob 4 305 y3,.glob 5 308 z8] (fun r h'=>h'= [.glob 4 305 y3,.glob 5 308 z8]∧r= .tup [.v (.int .i32 (y5 s).1),iv (y5 s).2]):=by
 refine z6 Tryz.func284 rfl rfl rfl ?_
 refine rn ?_;refine y0 rfl (fun hc16=> ?_) (fun hc16=> ?_)
 ·refine rn ?_;have hd:y5 s=(65533,0):=by
   unfold y5
   rw [if_pos (by simp at hc16;omega)]
  exact zbj rfl rfl (.refl _ _) ⟨rfl,by rw [hd];rfl⟩
 ·have h1:0 < s.size:=by simp at hc16;omega
  refine rn ?_;refine qq rfl rfl (u3 0 rfl rfl (by omega)) ?_
  refine rn ?_;refine qq rfl rfl (u7 rfl rfl (zfb _ _) (zfa _ _)) ?_
  refine qq rfl rfl (k9 rfl (show _=some (.v (.int .u8 52)) from by rw [zcd (zfb s 0) (zfa s 0),hx])) ?_
  refine rn ?_;refine y0 rfl (fun hc23=> ?_) (fun hc23=> ?_)
  ·first|cases hc23|exact absurd hc23 (by decide)|(exfalso;simp_all;done)
  ·refine rn ?_;refine qq rfl rfl (u7 rfl rfl (by decide) (by decide)) ?_
   refine rn ?_;refine z7 rfl (y7 rfl fun b9=> ?_)
   refine rn ?_;refine y0 rfl (fun hc45=> ?_) (fun hc45=> ?_)
   ·refine rn ?_;have hd:y5 s=(65533,1):=by
     unfold y5
     rw [if_neg (by omega)]
     simp only [hx]
     rw [if_neg (by decide),if_pos (show (s.size:Int) < (52:Int) % 8 from oT hc45)]
    exact zbj rfl rfl (.drop1 _ _ _) ⟨rfl,by rw [hd];rfl⟩
   ·have h2:4≤s.size:=by
     have:¬((s.size:Int) < 4):=oF hc45
     omega
    refine rn ?_;refine qq rfl rfl (u3 1 rfl rfl (by omega)) ?_
    refine rn ?_;refine u0 (fun hg14_4=> ?_) (fun hg14_4=> ?_)
    ·refine rn ?_;refine y0 rfl (fun hc57=> ?_) (fun hc57=> ?_)
     ·refine rn ?_;have hd:y5 s=(65533,1):=by
       unfold y5
       rw [if_neg (by omega)]
       simp only [hx]
       rw [if_neg (by decide),if_neg (show ¬(s.size:Int) < (52:Int) % 8 from oF hc45),if_pos (show bt s 1 < zbu ((52:Int) / 16).toNat∨zbv ((52:Int) / 16).toNat < bt s 1 from by first|exact .inl (oT hg14_4)|exact .inr (oT hc57))]
      exact zbj rfl rfl (.drop1 _ _ _) ⟨rfl,by rw [hd];rfl⟩
     ·first|cases hc57|exact absurd hc57 (by decide)|(exfalso;simp_all;done)
    ·refine rn ?_;refine y0 rfl (fun hc57=> ?_) (fun hc57=> ?_)
     ·refine rn ?_;have hd:y5 s=(65533,1):=by
       unfold y5
       rw [if_neg (by omega)]
       simp only [hx]
       rw [if_neg (by decide),if_neg (show ¬(s.size:Int) < (52:Int) % 8 from oF hc45),if_pos (show bt s 1 < zbu ((52:Int) / 16).toNat∨zbv ((52:Int) / 16).toNat < bt s 1 from by first|exact .inl (oT hg14_4)|exact .inr (oT hc57))]
      exact zbj rfl rfl (.drop1 _ _ _) ⟨rfl,by rw [hd];rfl⟩
     ·refine rn ?_;refine y0 rfl (fun hc59=> ?_) (fun hc59=> ?_)
      ·first|cases hc59|exact absurd hc59 (by decide)|(exfalso;simp_all;done)
      ·refine rn ?_;refine qq rfl rfl (u3 2 rfl rfl (by omega)) ?_
       refine rn ?_;refine u0 (fun hg19_2=> ?_) (fun hg19_2=> ?_)
       ·refine rn ?_;refine y0 rfl (fun hc75=> ?_) (fun hc75=> ?_)
        ·refine rn ?_;have hd:y5 s=(65533,1):=by
          unfold y5
          rw [if_neg (by omega)]
          simp only [hx]
          rw [if_neg (by decide),if_neg (show ¬(s.size:Int) < (52:Int) % 8 from oF hc45),if_neg (show ¬(bt s 1 < zbu ((52:Int) / 16).toNat∨zbv ((52:Int) / 16).toNat < bt s 1) from fun q=>q.elim (oF hg14_4) (oF hc57)),if_neg (by decide),if_pos (show bt s 2 < 128∨191 < bt s 2 from by first|exact .inl (oT hg19_2)|exact .inr (oT hc75))]
         exact zbj rfl rfl (.drop1 _ _ _) ⟨rfl,by rw [hd];rfl⟩
        ·first|cases hc75|exact absurd hc75 (by decide)|(exfalso;simp_all;done)
       ·refine rn ?_;refine y0 rfl (fun hc75=> ?_) (fun hc75=> ?_)
        ·refine rn ?_;have hd:y5 s=(65533,1):=by
          unfold y5
          rw [if_neg (by omega)]
          simp only [hx]
          rw [if_neg (by decide),if_neg (show ¬(s.size:Int) < (52:Int) % 8 from oF hc45),if_neg (show ¬(bt s 1 < zbu ((52:Int) / 16).toNat∨zbv ((52:Int) / 16).toNat < bt s 1) from fun q=>q.elim (oF hg14_4) (oF hc57)),if_neg (by decide),if_pos (show bt s 2 < 128∨191 < bt s 2 from by first|exact .inl (oT hg19_2)|exact .inr (oT hc75))]
         exact zbj rfl rfl (.drop1 _ _ _) ⟨rfl,by rw [hd];rfl⟩
        ·refine rn ?_;refine y0 rfl (fun hc77=> ?_) (fun hc77=> ?_)
         ·first|cases hc77|exact absurd hc77 (by decide)|(exfalso;simp_all;done)
         ·refine rn ?_;refine qq rfl rfl (u3 3 rfl rfl (by omega)) ?_
          refine rn ?_;refine u0 (fun hg24_2=> ?_) (fun hg24_2=> ?_)
          ·refine rn ?_;refine y0 rfl (fun hc98=> ?_) (fun hc98=> ?_)
           ·refine rn ?_;have hd:y5 s=(65533,1):=by
             unfold y5
             rw [if_neg (by omega)]
             simp only [hx]
             rw [if_neg (by decide),if_neg (show ¬(s.size:Int) < (52:Int) % 8 from oF hc45),if_neg (show ¬(bt s 1 < zbu ((52:Int) / 16).toNat∨zbv ((52:Int) / 16).toNat < bt s 1) from fun q=>q.elim (oF hg14_4) (oF hc57)),if_neg (by decide),if_neg (show ¬(bt s 2 < 128∨191 < bt s 2) from fun q=>q.elim (oF hg19_2) (oF hc75)),if_neg (by decide),if_pos (show bt s 3 < 128∨191 < bt s 3 from by first|exact .inl (oT hg24_2)|exact .inr (oT hc98))]
            exact zbj rfl rfl (.drop1 _ _ _) ⟨rfl,by rw [hd];rfl⟩
           ·first|cases hc98|exact absurd hc98 (by decide)|(exfalso;simp_all;done)
          ·refine rn ?_;refine y0 rfl (fun hc98=> ?_) (fun hc98=> ?_)
           ·refine rn ?_;have hd:y5 s=(65533,1):=by
             unfold y5
             rw [if_neg (by omega)]
             simp only [hx]
             rw [if_neg (by decide),if_neg (show ¬(s.size:Int) < (52:Int) % 8 from oF hc45),if_neg (show ¬(bt s 1 < zbu ((52:Int) / 16).toNat∨zbv ((52:Int) / 16).toNat < bt s 1) from fun q=>q.elim (oF hg14_4) (oF hc57)),if_neg (by decide),if_neg (show ¬(bt s 2 < 128∨191 < bt s 2) from fun q=>q.elim (oF hg19_2) (oF hc75)),if_neg (by decide),if_pos (show bt s 3 < 128∨191 < bt s 3 from by first|exact .inl (oT hg24_2)|exact .inr (oT hc98))]
            exact zbj rfl rfl (.drop1 _ _ _) ⟨rfl,by rw [hd];rfl⟩
           ·refine rn ?_;have hd:y5 s=(bI .or .i32 (bI .or .i32 (bI .or .i32 (zck (bt s 0) 7 18) (zck (bt s 1) 63 12)) (zck (bt s 2) 63 6)) (zck (bt s 3) 63 0),4):=by
             unfold y5
             rw [if_neg (by omega)]
             simp only [hx]
             rw [if_neg (by decide),if_neg (show ¬(s.size:Int) < (52:Int) % 8 from oF hc45),if_neg (show ¬(bt s 1 < zbu ((52:Int) / 16).toNat∨zbv ((52:Int) / 16).toNat < bt s 1) from fun q=>q.elim (oF hg14_4) (oF hc57)),if_neg (by decide),if_neg (show ¬(bt s 2 < 128∨191 < bt s 2) from fun q=>q.elim (oF hg19_2) (oF hc75)),if_neg (by decide),if_neg (show ¬(bt s 3 < 128∨191 < bt s 3) from fun q=>q.elim (oF hg24_2) (oF hc98))]
            exact zbj rfl rfl (.drop1 _ _ _) ⟨rfl,by rw [hd];rfl⟩
theorem zr4 (s:ByteArray) (hx:zca (bt s 0).toNat=4):y8 Tryz.prog 284 [.v (.string s)] [.glob 4 305 y3,.glob 5 308 z8] (fun r h'=>h'= [.glob 4 305 y3,.glob 5 308 z8]∧r= .tup [.v (.int .i32 (y5 s).1),iv (y5 s).2]):=by
 refine z6 Tryz.func284 rfl rfl rfl ?_
 refine rn ?_;refine y0 rfl (fun hc16=> ?_) (fun hc16=> ?_)
 ·refine rn ?_;have hd:y5 s=(65533,0):=by
   unfold y5
   rw [if_pos (by simp at hc16;omega)]
  exact zbj rfl rfl (.refl _ _) ⟨rfl,by rw [hd];rfl⟩
 ·have h1:0 < s.size:=by simp at hc16;omega
  refine rn ?_;refine qq rfl rfl (u3 0 rfl rfl (by omega)) ?_
  refine rn ?_;refine qq rfl rfl (u7 rfl rfl (zfb _ _) (zfa _ _)) ?_
  refine qq rfl rfl (k9 rfl (show _=some (.v (.int .u8 4)) from by rw [zcd (zfb s 0) (zfa s 0),hx])) ?_
  refine rn ?_;refine y0 rfl (fun hc23=> ?_) (fun hc23=> ?_)
  ·first|cases hc23|exact absurd hc23 (by decide)|(exfalso;simp_all;done)
  ·refine rn ?_;refine qq rfl rfl (u7 rfl rfl (by decide) (by decide)) ?_
   refine rn ?_;refine z7 rfl (y7 rfl fun b9=> ?_)
   refine rn ?_;refine y0 rfl (fun hc45=> ?_) (fun hc45=> ?_)
   ·refine rn ?_;have hd:y5 s=(65533,1):=by
     unfold y5
     rw [if_neg (by omega)]
     simp only [hx]
     rw [if_neg (by decide),if_pos (show (s.size:Int) < (4:Int) % 8 from oT hc45)]
    exact zbj rfl rfl (.drop1 _ _ _) ⟨rfl,by rw [hd];rfl⟩
   ·have h2:4≤s.size:=by
     have:¬((s.size:Int) < 4):=oF hc45
     omega
    refine rn ?_;refine qq rfl rfl (u3 1 rfl rfl (by omega)) ?_
    refine rn ?_;refine u0 (fun hg14_4=> ?_) (fun hg14_4=> ?_)
    ·refine rn ?_;refine y0 rfl (fun hc57=> ?_) (fun hc57=> ?_)
     ·refine rn ?_;have hd:y5 s=(65533,1):=by
       unfold y5
       rw [if_neg (by omega)]
       simp only [hx]
       rw [if_neg (by decide),if_neg (show ¬(s.size:Int) < (4:Int) % 8 from oF hc45),if_pos (show bt s 1 < zbu ((4:Int) / 16).toNat∨zbv ((4:Int) / 16).toNat < bt s 1 from by first|exact .inl (oT hg14_4)|exact .inr (oT hc57))]
      exact zbj rfl rfl (.drop1 _ _ _) ⟨rfl,by rw [hd];rfl⟩
     ·first|cases hc57|exact absurd hc57 (by decide)|(exfalso;simp_all;done)
    ·refine rn ?_;refine y0 rfl (fun hc57=> ?_) (fun hc57=> ?_)
     ·refine rn ?_;have hd:y5 s=(65533,1):=by
       unfold y5
       rw [if_neg (by omega)]
       simp only [hx]
       rw [if_neg (by decide),if_neg (show ¬(s.size:Int) < (4:Int) % 8 from oF hc45),if_pos (show bt s 1 < zbu ((4:Int) / 16).toNat∨zbv ((4:Int) / 16).toNat < bt s 1 from by first|exact .inl (oT hg14_4)|exact .inr (oT hc57))]
      exact zbj rfl rfl (.drop1 _ _ _) ⟨rfl,by rw [hd];rfl⟩
     ·refine rn ?_;refine y0 rfl (fun hc59=> ?_) (fun hc59=> ?_)
      ·first|cases hc59|exact absurd hc59 (by decide)|(exfalso;simp_all;done)
      ·refine rn ?_;refine qq rfl rfl (u3 2 rfl rfl (by omega)) ?_
       refine rn ?_;refine u0 (fun hg19_2=> ?_) (fun hg19_2=> ?_)
       ·refine rn ?_;refine y0 rfl (fun hc75=> ?_) (fun hc75=> ?_)
        ·refine rn ?_;have hd:y5 s=(65533,1):=by
          unfold y5
          rw [if_neg (by omega)]
          simp only [hx]
          rw [if_neg (by decide),if_neg (show ¬(s.size:Int) < (4:Int) % 8 from oF hc45),if_neg (show ¬(bt s 1 < zbu ((4:Int) / 16).toNat∨zbv ((4:Int) / 16).toNat < bt s 1) from fun q=>q.elim (oF hg14_4) (oF hc57)),if_neg (by decide),if_pos (show bt s 2 < 128∨191 < bt s 2 from by first|exact .inl (oT hg19_2)|exact .inr (oT hc75))]
         exact zbj rfl rfl (.drop1 _ _ _) ⟨rfl,by rw [hd];rfl⟩
        ·first|cases hc75|exact absurd hc75 (by decide)|(exfalso;simp_all;done)
       ·refine rn ?_;refine y0 rfl (fun hc75=> ?_) (fun hc75=> ?_)
        ·refine rn ?_;have hd:y5 s=(65533,1):=by
          unfold y5
          rw [if_neg (by omega)]
          simp only [hx]
          rw [if_neg (by decide),if_neg (show ¬(s.size:Int) < (4:Int) % 8 from oF hc45),if_neg (show ¬(bt s 1 < zbu ((4:Int) / 16).toNat∨zbv ((4:Int) / 16).toNat < bt s 1) from fun q=>q.elim (oF hg14_4) (oF hc57)),if_neg (by decide),if_pos (show bt s 2 < 128∨191 < bt s 2 from by first|exact .inl (oT hg19_2)|exact .inr (oT hc75))]
         exact zbj rfl rfl (.drop1 _ _ _) ⟨rfl,by rw [hd];rfl⟩
        ·refine rn ?_;refine y0 rfl (fun hc77=> ?_) (fun hc77=> ?_)
         ·first|cases hc77|exact absurd hc77 (by decide)|(exfalso;simp_all;done)
         ·refine rn ?_;refine qq rfl rfl (u3 3 rfl rfl (by omega)) ?_
          refine rn ?_;refine u0 (fun hg24_2=> ?_) (fun hg24_2=> ?_)
          ·refine rn ?_;refine y0 rfl (fun hc98=> ?_) (fun hc98=> ?_)
           ·refine rn ?_;have hd:y5 s=(65533,1):=by
             unfold y5
             rw [if_neg (by omega)]
             simp only [hx]
             rw [if_neg (by decide),if_neg (show ¬(s.size:Int) < (4:Int) % 8 from oF hc45),if_neg (show ¬(bt s 1 < zbu ((4:Int) / 16).toNat∨zbv ((4:Int) / 16).toNat < bt s 1) from fun q=>q.elim (oF hg14_4) (oF hc57)),if_neg (by decide),if_neg (show ¬(bt s 2 < 128∨191 < bt s 2) from fun q=>q.elim (oF hg19_2) (oF hc75)),if_neg (by decide),if_pos (show bt s 3 < 128∨191 < bt s 3 from by first|exact .inl (oT hg24_2)|exact .inr (oT hc98))]
            exact zbj rfl rfl (.drop1 _ _ _) ⟨rfl,by rw [hd];rfl⟩
           ·first|cases hc98|exact absurd hc98 (by decide)|(exfalso;simp_all;done)
          ·refine rn ?_;refine y0 rfl (fun hc98=> ?_) (fun hc98=> ?_)
           ·refine rn ?_;have hd:y5 s=(65533,1):=by
             unfold y5
             rw [if_neg (by omega)]
             simp only [hx]
             rw [if_neg (by decide),if_neg (show ¬(s.size:Int) < (4:Int) % 8 from oF hc45),if_neg (show ¬(bt s 1 < zbu ((4:Int) / 16).toNat∨zbv ((4:Int) / 16).toNat < bt s 1) from fun q=>q.elim (oF hg14_4) (oF hc57)),if_neg (by decide),if_neg (show ¬(bt s 2 < 128∨191 < bt s 2) from fun q=>q.elim (oF hg19_2) (oF hc75)),if_neg (by decide),if_pos (show bt s 3 < 128∨191 < bt s 3 from by first|exact .inl (oT hg24_2)|exact .inr (oT hc98))]
            exact zbj rfl rfl (.drop1 _ _ _) ⟨rfl,by rw [hd];rfl⟩
           ·refine rn ?_;have hd:y5 s=(bI .or .i32 (bI .or .i32 (bI .or .i32 (zck (bt s 0) 7 18) (zck (bt s 1) 63 12)) (zck (bt s 2) 63 6)) (zck (bt s 3) 63 0),4):=by
             unfold y5
             rw [if_neg (by omega)]
             simp only [hx]
             rw [if_neg (by decide),if_neg (show ¬(s.size:Int) < (4:Int) % 8 from oF hc45),if_neg (show ¬(bt s 1 < zbu ((4:Int) / 16).toNat∨zbv ((4:Int) / 16).toNat < bt s 1) from fun q=>q.elim (oF hg14_4) (oF hc57)),if_neg (by decide),if_neg (show ¬(bt s 2 < 128∨191 < bt s 2) from fun q=>q.elim (oF hg19_2) (oF hc75)),if_neg (by decide),if_neg (show ¬(bt s 3 < 128∨191 < bt s 3) from fun q=>q.elim (oF hg24_2) (oF hc98))]
            exact zbj rfl rfl (.drop1 _ _ _) ⟨rfl,by rw [hd];rfl⟩
theorem zpy (s:ByteArray) (hx:zca (bt s 0).toNat=68):y8 Tryz.prog 284 [.v (.string s)] [.glob 4 305 y3,.glob 5 308 z8] (fun r h'=>h'= [.glob 4 305 y3,.glob 5 308 z8]∧r= .tup [.v (.int .i32 (y5 s).1),iv (y5 s).2]):=by
 refine z6 Tryz.func284 rfl rfl rfl ?_
 refine rn ?_;refine y0 rfl (fun hc16=> ?_) (fun hc16=> ?_)
 ·refine rn ?_;have hd:y5 s=(65533,0):=by
   unfold y5
   rw [if_pos (by simp at hc16;omega)]
  exact zbj rfl rfl (.refl _ _) ⟨rfl,by rw [hd];rfl⟩
 ·have h1:0 < s.size:=by simp at hc16;omega
  refine rn ?_;refine qq rfl rfl (u3 0 rfl rfl (by omega)) ?_
  refine rn ?_;refine qq rfl rfl (u7 rfl rfl (zfb _ _) (zfa _ _)) ?_
  refine qq rfl rfl (k9 rfl (show _=some (.v (.int .u8 68)) from by rw [zcd (zfb s 0) (zfa s 0),hx])) ?_
  refine rn ?_;refine y0 rfl (fun hc23=> ?_) (fun hc23=> ?_)
  ·first|cases hc23|exact absurd hc23 (by decide)|(exfalso;simp_all;done)
  ·refine rn ?_;refine qq rfl rfl (u7 rfl rfl (by decide) (by decide)) ?_
   refine rn ?_;refine z7 rfl (y7 rfl fun b9=> ?_)
   refine rn ?_;refine y0 rfl (fun hc45=> ?_) (fun hc45=> ?_)
   ·refine rn ?_;have hd:y5 s=(65533,1):=by
     unfold y5
     rw [if_neg (by omega)]
     simp only [hx]
     rw [if_neg (by decide),if_pos (show (s.size:Int) < (68:Int) % 8 from oT hc45)]
    exact zbj rfl rfl (.drop1 _ _ _) ⟨rfl,by rw [hd];rfl⟩
   ·have h2:4≤s.size:=by
     have:¬((s.size:Int) < 4):=oF hc45
     omega
    refine rn ?_;refine qq rfl rfl (u3 1 rfl rfl (by omega)) ?_
    refine rn ?_;refine u0 (fun hg14_4=> ?_) (fun hg14_4=> ?_)
    ·refine rn ?_;refine y0 rfl (fun hc57=> ?_) (fun hc57=> ?_)
     ·refine rn ?_;have hd:y5 s=(65533,1):=by
       unfold y5
       rw [if_neg (by omega)]
       simp only [hx]
       rw [if_neg (by decide),if_neg (show ¬(s.size:Int) < (68:Int) % 8 from oF hc45),if_pos (show bt s 1 < zbu ((68:Int) / 16).toNat∨zbv ((68:Int) / 16).toNat < bt s 1 from by first|exact .inl (oT hg14_4)|exact .inr (oT hc57))]
      exact zbj rfl rfl (.drop1 _ _ _) ⟨rfl,by rw [hd];rfl⟩
     ·first|cases hc57|exact absurd hc57 (by decide)|(exfalso;simp_all;done)
    ·refine rn ?_;refine y0 rfl (fun hc57=> ?_) (fun hc57=> ?_)
     ·refine rn ?_;have hd:y5 s=(65533,1):=by
       unfold y5
       rw [if_neg (by omega)]
       simp only [hx]
       rw [if_neg (by decide),if_neg (show ¬(s.size:Int) < (68:Int) % 8 from oF hc45),if_pos (show bt s 1 < zbu ((68:Int) / 16).toNat∨zbv ((68:Int) / 16).toNat < bt s 1 from by first|exact .inl (oT hg14_4)|exact .inr (oT hc57))]
      exact zbj rfl rfl (.drop1 _ _ _) ⟨rfl,by rw [hd];rfl⟩
     ·refine rn ?_;refine y0 rfl (fun hc59=> ?_) (fun hc59=> ?_)
      ·first|cases hc59|exact absurd hc59 (by decide)|(exfalso;simp_all;done)
      ·refine rn ?_;refine qq rfl rfl (u3 2 rfl rfl (by omega)) ?_
       refine rn ?_;refine u0 (fun hg19_2=> ?_) (fun hg19_2=> ?_)
       ·refine rn ?_;refine y0 rfl (fun hc75=> ?_) (fun hc75=> ?_)
        ·refine rn ?_;have hd:y5 s=(65533,1):=by
          unfold y5
          rw [if_neg (by omega)]
          simp only [hx]
          rw [if_neg (by decide),if_neg (show ¬(s.size:Int) < (68:Int) % 8 from oF hc45),if_neg (show ¬(bt s 1 < zbu ((68:Int) / 16).toNat∨zbv ((68:Int) / 16).toNat < bt s 1) from fun q=>q.elim (oF hg14_4) (oF hc57)),if_neg (by decide),if_pos (show bt s 2 < 128∨191 < bt s 2 from by first|exact .inl (oT hg19_2)|exact .inr (oT hc75))]
         exact zbj rfl rfl (.drop1 _ _ _) ⟨rfl,by rw [hd];rfl⟩
        ·first|cases hc75|exact absurd hc75 (by decide)|(exfalso;simp_all;done)
       ·refine rn ?_;refine y0 rfl (fun hc75=> ?_) (fun hc75=> ?_)
        ·refine rn ?_;have hd:y5 s=(65533,1):=by
          unfold y5
          rw [if_neg (by omega)]
          simp only [hx]
          rw [if_neg (by decide),if_neg (show ¬(s.size:Int) < (68:Int) % 8 from oF hc45),if_neg (show ¬(bt s 1 < zbu ((68:Int) / 16).toNat∨zbv ((68:Int) / 16).toNat < bt s 1) from fun q=>q.elim (oF hg14_4) (oF hc57)),if_neg (by decide),if_pos (show bt s 2 < 128∨191 < bt s 2 from by first|exact .inl (oT hg19_2)|exact .inr (oT hc75))]
         exact zbj rfl rfl (.drop1 _ _ _) ⟨rfl,by rw [hd];rfl⟩
        ·refine rn ?_;refine y0 rfl (fun hc77=> ?_) (fun hc77=> ?_)
         ·first|cases hc77|exact absurd hc77 (by decide)|(exfalso;simp_all;done)
         ·refine rn ?_;refine qq rfl rfl (u3 3 rfl rfl (by omega)) ?_
          refine rn ?_;refine u0 (fun hg24_2=> ?_) (fun hg24_2=> ?_)
          ·refine rn ?_;refine y0 rfl (fun hc98=> ?_) (fun hc98=> ?_)
           ·refine rn ?_;have hd:y5 s=(65533,1):=by
             unfold y5
             rw [if_neg (by omega)]
             simp only [hx]
             rw [if_neg (by decide),if_neg (show ¬(s.size:Int) < (68:Int) % 8 from oF hc45),if_neg (show ¬(bt s 1 < zbu ((68:Int) / 16).toNat∨zbv ((68:Int) / 16).toNat < bt s 1) from fun q=>q.elim (oF hg14_4) (oF hc57)),if_neg (by decide),if_neg (show ¬(bt s 2 < 128∨191 < bt s 2) from fun q=>q.elim (oF hg19_2) (oF hc75)),if_neg (by decide),if_pos (show bt s 3 < 128∨191 < bt s 3 from by first|exact .inl (oT hg24_2)|exact .inr (oT hc98))]
            exact zbj rfl rfl (.drop1 _ _ _) ⟨rfl,by rw [hd];rfl⟩
           ·first|cases hc98|exact absurd hc98 (by decide)|(exfalso;simp_all;done)
          ·refine rn ?_;refine y0 rfl (fun hc98=> ?_) (fun hc98=> ?_)
           ·refine rn ?_;have hd:y5 s=(65533,1):=by
             unfold y5
             rw [if_neg (by omega)]
             simp only [hx]
             rw [if_neg (by decide),if_neg (show ¬(s.size:Int) < (68:Int) % 8 from oF hc45),if_neg (show ¬(bt s 1 < zbu ((68:Int) / 16).toNat∨zbv ((68:Int) / 16).toNat < bt s 1) from fun q=>q.elim (oF hg14_4) (oF hc57)),if_neg (by decide),if_neg (show ¬(bt s 2 < 128∨191 < bt s 2) from fun q=>q.elim (oF hg19_2) (oF hc75)),if_neg (by decide),if_pos (show bt s 3 < 128∨191 < bt s 3 from by first|exact .inl (oT hg24_2)|exact .inr (oT hc98))]
            exact zbj rfl rfl (.drop1 _ _ _) ⟨rfl,by rw [hd];rfl⟩
           ·refine rn ?_;have hd:y5 s=(bI .or .i32 (bI .or .i32 (bI .or .i32 (zck (bt s 0) 7 18) (zck (bt s 1) 63 12)) (zck (bt s 2) 63 6)) (zck (bt s 3) 63 0),4):=by
             unfold y5
             rw [if_neg (by omega)]
             simp only [hx]
             rw [if_neg (by decide),if_neg (show ¬(s.size:Int) < (68:Int) % 8 from oF hc45),if_neg (show ¬(bt s 1 < zbu ((68:Int) / 16).toNat∨zbv ((68:Int) / 16).toNat < bt s 1) from fun q=>q.elim (oF hg14_4) (oF hc57)),if_neg (by decide),if_neg (show ¬(bt s 2 < 128∨191 < bt s 2) from fun q=>q.elim (oF hg19_2) (oF hc75)),if_neg (by decide),if_neg (show ¬(bt s 3 < 128∨191 < bt s 3) from fun q=>q.elim (oF hg24_2) (oF hc98))]
            exact zbj rfl rfl (.drop1 _ _ _) ⟨rfl,by rw [hd];rfl⟩
theorem zm5 (s:ByteArray):y8 Tryz.prog 284 [.v (.string s)] [.glob 4 305 y3,.glob 5 308 z8] (fun r h'=>h'= [.glob 4 305 y3,.glob 5 308 z8]∧r= .tup [.v (.int .i32 (y5 s).1),iv (y5 s).2]):=by
 rcases zps (bt s 0).toNat with hx|hx|hx|hx|hx|hx|hx|hx|hx
 ·exact zn9 s hx
 ·exact zn8 s hx
 ·exact zr6 s hx
 ·exact zp1 s hx
 ·exact zr5 s hx
 ·exact zp0 s hx
 ·exact zpz s hx
 ·exact zr4 s hx
 ·exact zpy s hx
theorem zve (s:ByteArray):y8 Tryz.prog 281 [.v (.string s)] [.glob 4 305 y3,.glob 5 308 z8] (fun r h'=>h'= [.glob 4 305 y3,.glob 5 308 z8]∧r= .tup [.v (.int .i32 (zib s).1),iv (zib s).2]):=by
 refine z6 Tryz.func281 rfl rfl rfl ?_
 refine rn ?_;refine u0 (fun hg1_2=> ?_) (fun hg1_2=> ?_)
 ·refine rn ?_;have h1:0 < s.size:=zwa hg1_2
  refine qq rfl rfl (u3 0 rfl rfl (by omega)) ?_
  refine rn ?_;refine y0 rfl (fun hc10=> ?_) (fun hc10=> ?_)
  ·refine rn ?_;refine qq rfl rfl (u3 0 rfl rfl (by omega)) ?_
   refine rn ?_;have hd:zib s=(bt s 0,1):=by
    unfold zib
    exact if_pos ⟨zwa hg1_2,oT hc10⟩
   exact zbj rfl rfl (.refl _ _) ⟨rfl,by rw [hd];exact congrArg (fun c=>AV.tup [.v (.int .i32 c),iv 1]) (zy8 s 0)⟩
  ·refine rn ?_;refine qv rfl rfl (y4 rfl rfl (y1.of_fun (zm5 s))) ?_
   refine rn ?_;have hd:zib s=y5 s:=by
    unfold zib
    exact if_neg fun q=>by first|exact yc8 hg1_2 q.1|exact absurd q.2 (oF hc10)
   exact zbj rfl rfl (.refl _ _) ⟨rfl,by rw [hd];rfl⟩
 ·refine rn ?_;refine zof rfl ?_;refine rn ?_;refine qv rfl rfl (y4 rfl rfl (y1.of_fun (zm5 s))) ?_
  refine rn ?_;have hd:zib s=y5 s:=by
   unfold zib
   exact if_neg fun q=>by first|exact yc8 hg1_2 q.1|exact absurd q.2 (oF hc10)
  exact zbj rfl rfl (.refl _ _) ⟨rfl,by rw [hd];rfl⟩
theorem zyp {f g:Bool} (l m:List Seen) (hl:l.length≤4611686018427387904) (hm:m.length≤4611686018427387904):y8 Tryz.prog 271 [.list f 3 (l.map zav),.list g 3 (m.map zav)] [] (fun r h'=>h'= []∧r=bv (eqF zjf l m)):=by
 refine z6 Tryz.func271 rfl rfl rfl ?_
 refine rn ?_;refine y0 rfl (fun hc10=> ?_) (fun hc10=> ?_)
 ·refine rn ?_;have hne:(l.length==m.length)=false:=beq_eq_false_iff_ne.2 fun q=>by simp [q] at hc10
  exact zal rfl (.refl _ _) ⟨rfl,by rw [eqF,hne,Bool.false_and];rfl⟩
 ·have hlm:l.length=m.length:=by simp at hc10;omega
  refine rn ?_;refine zab (fun k:Nat=>k≤l.length∧zt8 zjf l m=zt8 zjf (l.drop k) (m.drop k)) (fun k=>⟨[(13,iv k),(12,iv (l.map zav).length),(0,.list f 3 (l.map zav)),(1,.list g 3 (m.map zav))],[],[]⟩) (fun k=>l.length - k) 0 ⟨Nat.zero_le _,by simp⟩
   (v1 (.cons _ _ _ rfl (.cons _ _ _ rfl (.cons _ _ _ rfl (.cons _ _ _ rfl (.nil)))))) ?_
  rintro k ⟨hk,hz⟩
  refine rn ?_;refine y0 rfl (fun hc14=> ?_) (fun hc14=> ?_)
  ·have hk2:k < l.length:=by simpa using hc14
   have hk3:k < m.length:=by omega
   have hrow1:(l.map zav)[k]? =some (zav l[k]):=by simp [hk2]
   have hrow2:(m.map zav)[k]? =some (zav m[k]):=by simp [hk3]
   have hd1:=List.drop_eq_getElem_cons hk2
   have hd2:=List.drop_eq_getElem_cons hk3
   refine rn ?_;refine j4 8 rfl ?_
   refine rn ?_;refine y0 rfl (fun hc24=> ?_) (fun hc24=> ?_)
   ·refine rn ?_;exact zal rfl (.refl _ _) ⟨rfl,by rw [eqF,hz,hd1,hd2,zt8,show zjf l[k] m[k]=false from ybg hc24,Bool.false_and,Bool.and_false];rfl⟩
   ·refine rn ?_;exact ⟨k+1,⟨by omega,by rw [hz,hd1,hd2,zt8,show zjf l[k] m[k]=true from ybh hc24,Bool.true_and]⟩,(v1 (.cons _ _ _ rfl (.cons _ _ _ rfl (.cons _ _ _ rfl (.cons _ _ _ rfl (.nil)))))),by omega⟩
  ·have hk3:k=l.length:=by
    have:l.length≤k:=by simpa using hc14
    omega
   refine rn ?_;exact zal rfl (.refl _ _) ⟨rfl,by rw [eqF,hz,hk3,List.drop_length,zse,hlm,beq_self_eq_true];rfl⟩
theorem zu1 (l:Int):y8 Tryz.prog 232 [iv l] [] (fun r h'=>h'= []∧r=iv (yj0 l)):=by
 refine z6 Tryz.func232 rfl rfl rfl ?_
 refine rn ?_;refine u0 (fun hg1_2=> ?_) (fun hg1_2=> ?_)
 ·refine rn ?_;refine zsb rfl ?_;refine rn ?_;exact zal rfl (.refl _ _) ⟨rfl,congrArg iv (by simp_all [yj0])⟩
 ·refine rn ?_;refine y0 rfl (fun hc8=> ?_) (fun hc8=> ?_)
  ·refine rn ?_;exact zal rfl (.refl _ _) ⟨rfl,congrArg iv (by simp_all [yj0])⟩
  ·refine rn ?_;exact zal rfl (.refl _ _) ⟨rfl,congrArg iv (by simp_all [yj0])⟩
theorem zpl (c:Int):y8 Tryz.prog 224 [.v (.int .i32 c)] [] (fun r h'=>h'= []∧r=bv (zxl c)):=by
 refine z6 Tryz.func224 rfl rfl rfl ?_
 refine rn ?_;refine u0 (fun hg1_2=> ?_) (fun hg1_2=> ?_)
 ·refine rn ?_;exact zal rfl (.refl _ _) ⟨rfl,congrArg bv (by first|(simp only [zxl, *,Bool.true_and,Bool.false_and,Bool.and_false,Bool.and_true,Bool.true_or,Bool.or_false,Bool.false_or,Bool.or_true,if_true,if_false,Bool.false_eq_true,Bool.not_true,Bool.not_false];done)|(simp_all [zxl];done)|(simp_all [zxl] <;> omega))⟩
 ·refine rn ?_;exact zal rfl (.refl _ _) ⟨rfl,congrArg bv (by first|(simp only [zxl, *,Bool.true_and,Bool.false_and,Bool.and_false,Bool.and_true,Bool.true_or,Bool.or_false,Bool.false_or,Bool.or_true,if_true,if_false,Bool.false_eq_true,Bool.not_true,Bool.not_false];done)|(simp_all [zxl];done)|(simp_all [zxl] <;> omega))⟩
theorem bvz0_4916 {a b:Bool} (h:a=b:=by first|(simp only [ygm, *,Bool.true_and,Bool.false_and,Bool.and_false,Bool.and_true,Bool.true_or,Bool.or_false,Bool.false_or,Bool.or_true,if_true,if_false,Bool.false_eq_true,Bool.not_true,Bool.not_false];done)|(simp_all [ygm];done)|(simp_all [ygm] <;> omega)):bv a=bv b:=congrArg bv h
theorem zxy (c:Int):y8 Tryz.prog 267 [.v (.int .i32 c)] [] (fun r h'=>h'= []∧r=bv (ygm c)):=by
 refine z6 Tryz.func267 rfl rfl rfl ?_
 refine rn ?_;refine u0 (fun hg1_2=> ?_) (fun hg1_2=> ?_)
 ·refine rn ?_;exact zal rfl (.refl _ _) ⟨rfl,bvz0_4916⟩
 ·refine rn ?_;refine u0 (fun hg1_5=> ?_) (fun hg1_5=> ?_)
  ·refine rn ?_;refine u0 (fun hg1_10=> ?_) (fun hg1_10=> ?_)
   ·refine rn ?_;exact zal rfl (.refl _ _) ⟨rfl,bvz0_4916⟩
   ·refine rn ?_;refine u0 (fun hg1_13=> ?_) (fun hg1_13=> ?_)
    ·refine rn ?_;refine u0 (fun hg1_18=> ?_) (fun hg1_18=> ?_)
     ·refine rn ?_;exact zal rfl (.refl _ _) ⟨rfl,bvz0_4916⟩
     ·refine rn ?_;exact zal rfl (.refl _ _) ⟨rfl,bvz0_4916⟩
    ·refine rn ?_;exact zal rfl (.refl _ _) ⟨rfl,bvz0_4916⟩
  ·refine rn ?_;refine u0 (fun hg1_13=> ?_) (fun hg1_13=> ?_)
   ·refine rn ?_;refine u0 (fun hg1_18=> ?_) (fun hg1_18=> ?_)
    ·refine rn ?_;exact zal rfl (.refl _ _) ⟨rfl,bvz0_4916⟩
    ·refine rn ?_;exact zal rfl (.refl _ _) ⟨rfl,bvz0_4916⟩
   ·refine rn ?_;exact zal rfl (.refl _ _) ⟨rfl,bvz0_4916⟩
theorem zxz (c:Int):y8 Tryz.prog 226 [.v (.int .i32 c)] [] (fun r h'=>h'= []∧r=bv (ygm c||zxl c)):=by
 refine z6 Tryz.func226 rfl rfl rfl ?_
 refine rn ?_;refine qv rfl rfl (y4 rfl rfl (zax (zxy _) (Sbs.refl _))) ?_
 refine rn ?_;refine u0 (fun hg1_2=> ?_) (fun hg1_2=> ?_)
 ·refine rn ?_;exact zal rfl (.refl _ _) ⟨rfl,congrArg bv (by first|(simp only [*,Bool.true_and,Bool.false_and,Bool.and_false,Bool.and_true,Bool.true_or,Bool.or_false,Bool.false_or,Bool.or_true,if_true,if_false,Bool.false_eq_true,Bool.not_true,Bool.not_false];done)|(simp_all;done)|(simp_all <;> omega))⟩
 ·refine rn ?_;refine qv rfl rfl (y4 rfl rfl (zax (zpl _) (Sbs.refl _))) ?_
  refine rn ?_;exact zal rfl (.refl _ _) ⟨rfl,congrArg bv (by first|(simp only [*,Bool.true_and,Bool.false_and,Bool.and_false,Bool.and_true,Bool.true_or,Bool.or_false,Bool.false_or,Bool.or_true,if_true,if_false,Bool.false_eq_true,Bool.not_true,Bool.not_false];done)|(simp_all;done)|(simp_all <;> omega))⟩
theorem yf8 (h:Hist):y8 Tryz.prog 142 [.agg (y9 h)] [] (fun r h'=>h'= []∧r= .agg (zji h)):=by
 refine z6 Tryz.func142 rfl rfl rfl ?_
 refine rn ?_;refine z7 rfl (w7 rfl rfl rfl fun b1=> ?_)
 refine z7 rfl (y7 rfl fun b2=> ?_)
 refine rn ?_;exact zdt (.cons _ _ _ _ (.agg _ _ _ _ _ _ _ rfl inferInstance inferInstance inferInstance rfl) .nil) (.drop [_,_] _ _) ⟨rfl,rfl⟩
theorem zvl (h:Hist) (sort:Nat) (n:Int) (l:List ByteArray) (hs:(zji h)[sort]? =some (zci l)) (hs4:sort < 4):y8 Tryz.prog 191 [.agg (y9 h),iv sort,iv n] [] (fun r h'=>h'= []∧r=bv (zd0 l n)):=by
 refine z6 Tryz.func191 rfl rfl rfl ?_
 refine rn ?_;refine z7 rfl (w7 rfl rfl rfl fun b3=> ?_)
 refine rn ?_;refine u0 (fun hg1_2=> ?_) (fun hg1_2=> ?_)
 ·refine rn ?_;refine qv rfl rfl (y4 rfl rfl (zax (yf8 _) (Sbs.refl _))) ?_
  refine q1 ?_;refine qq rfl rfl (zbz rfl rfl (by omega) (by simpa using hs)) ?_
  refine rn ?_;exact zal rfl (.drop1 _ _ _) ⟨rfl,congrArg bv (by first|(simp only [zd0, *,Bool.true_and,Bool.false_and,Bool.and_false,Bool.and_true,Bool.true_or,Bool.or_false,Bool.false_or,Bool.or_true,if_true,if_false,Bool.false_eq_true,Bool.not_true,Bool.not_false];done)|(simp_all [zd0];done)|(simp_all [zd0] <;> omega))⟩
 ·refine rn ?_;exact zal rfl (.drop1 _ _ _) ⟨rfl,congrArg bv (by first|(simp only [zd0, *,Bool.true_and,Bool.false_and,Bool.and_false,Bool.and_true,Bool.true_or,Bool.or_false,Bool.false_or,Bool.or_true,if_true,if_false,Bool.false_eq_true,Bool.not_true,Bool.not_false];done)|(simp_all [zd0];done)|(simp_all [zd0] <;> omega))⟩
theorem bvz1_6991 {a b:Bool} (h:a=b:=by first|(simp only [zv4, *,Bool.true_and,Bool.false_and,Bool.and_false,Bool.and_true,Bool.true_or,Bool.or_false,Bool.false_or,Bool.or_true,if_true,if_false,Bool.false_eq_true,Bool.not_true,Bool.not_false];done)|(simp_all [zv4];done)|(simp_all [zv4] <;> omega)):bv a=bv b:=congrArg bv h
theorem zqt (h:Hist) (v:Ver):y8 Tryz.prog 234 [.agg (y9 h),.agg (yac v)] [] (fun r h'=>h'= []∧r=bv (zv4 h.ts v)):=by
 refine z6 Tryz.func234 rfl rfl rfl ?_
 refine rn ?_;refine z7 rfl (w7 rfl rfl rfl fun b2=> ?_)
 refine z7 rfl (w7 rfl rfl rfl fun b3=> ?_)
 refine rn ?_;refine y0 rfl (fun hc7=> ?_) (fun hc7=> ?_)
 ·refine rn ?_;exact zal rfl (.drop [_,_] _ _) ⟨rfl,bvz1_6991⟩
 ·refine rn ?_;refine qv rfl rfl (y4 rfl rfl (zax (zvl _ 0 _ _ rfl (by decide)) (Sbs.refl _))) ?_
  refine rn ?_;refine u0 (fun hg3_4=> ?_) (fun hg3_4=> ?_)
  ·refine rn ?_;refine u0 (fun hg3_9=> ?_) (fun hg3_9=> ?_)
   ·refine rn ?_;exact zal rfl (.drop [_,_] _ _) ⟨rfl,bvz1_6991⟩
   ·refine rn ?_;exact zal rfl (.drop [_,_] _ _) ⟨rfl,bvz1_6991⟩
  ·refine rn ?_;exact zal rfl (.drop [_,_] _ _) ⟨rfl,bvz1_6991⟩
theorem bvz2_5960 {a b:Bool} (h:a=b:=by first|(simp only [yg9, *,Bool.true_and,Bool.false_and,Bool.and_false,Bool.and_true,Bool.true_or,Bool.or_false,Bool.false_or,Bool.or_true,if_true,if_false,Bool.false_eq_true,Bool.not_true,Bool.not_false];done)|(simp_all [yg9];done)|(simp_all [yg9] <;> omega)):bv a=bv b:=congrArg bv h
theorem zws (a b:Ev) (ha:a.scan.length≤4611686018427387904) (hb:b.scan.length≤4611686018427387904):y8 Tryz.prog 241 [.agg (evR a),.agg (evR b)] [] (fun r h'=>h'= []∧r=bv (yg9 a b)):=by
 refine z6 Tryz.func241 rfl rfl rfl ?_
 refine rn ?_;refine z7 rfl (w7 rfl rfl rfl fun b2=> ?_)
 refine z7 rfl (w7 rfl rfl rfl fun b3=> ?_)
 refine rn ?_;refine u0 (fun hg1_5=> ?_) (fun hg1_5=> ?_)
 ·refine rn ?_;refine u0 (fun hg1_12=> ?_) (fun hg1_12=> ?_)
  ·refine rn ?_;refine u0 (fun hg1_19=> ?_) (fun hg1_19=> ?_)
   ·refine rn ?_;refine u0 (fun hg2_1=> ?_) (fun hg2_1=> ?_)
    ·refine rn ?_;refine u0 (fun hg2_8=> ?_) (fun hg2_8=> ?_)
     ·refine rn ?_;refine u0 (fun hg2_15=> ?_) (fun hg2_15=> ?_)
      ·refine rn ?_;refine u0 (fun hg2_22=> ?_) (fun hg2_22=> ?_)
       ·refine rn ?_;refine qv rfl rfl (y4 rfl rfl (zax (zyp _ _ ha hb) (Sbs.refl _))) ?_
        refine rn ?_;exact zal rfl (.drop [_,_] _ _) ⟨rfl,bvz2_5960⟩
       ·refine rn ?_;exact zal rfl (.drop [_,_] _ _) ⟨rfl,bvz2_5960⟩
      ·refine rn ?_;exact zal rfl (.drop [_,_] _ _) ⟨rfl,bvz2_5960⟩
     ·refine rn ?_;exact zal rfl (.drop [_,_] _ _) ⟨rfl,bvz2_5960⟩
    ·refine rn ?_;exact zal rfl (.drop [_,_] _ _) ⟨rfl,bvz2_5960⟩
   ·refine rn ?_;exact zal rfl (.drop [_,_] _ _) ⟨rfl,bvz2_5960⟩
  ·refine rn ?_;exact zal rfl (.drop [_,_] _ _) ⟨rfl,bvz2_5960⟩
 ·refine rn ?_;exact zal rfl (.drop [_,_] _ _) ⟨rfl,bvz2_5960⟩
theorem yaq (s:ByteArray) (i:Nat) (c:Int) (bs bi bc:Nat) (hi:i≤s.size):y8 Tryz.prog 280 [pZ bs,pZ bi,pZ bc] [.box bs 9 [sv s],.box bi 3 [iv (i:Nat)],.box bc 21 [.v (.int .i32 c)],.glob 4 305 y3,.glob 5 308 z8] (fun r h'=>h'= [.box bs 9 [sv s],.box bi 3 [iv (i:Nat)],.box bc 21 [.v (.int .i32 c)],.glob 4 305 y3,.glob 5 308 z8]∧r= .tup [.v (.int .i32 c),bv (zqv s i c)]):=by
 refine z6 Tryz.func280 rfl rfl rfl ?_
 refine w8 (y6 ?_)
 refine q1 ?_;refine q1 ?_;refine v8 (zak ?_)
 refine w8 (y6 ?_)
 refine q1 ?_;refine q1 ?_;refine qq rfl rfl (zes rfl rfl hi) ?_
 refine qv rfl rfl (y4 rfl rfl (y1.quiet (R:=fun x=>x=_) (h2:= [_,_,_]) (List.perm_append_comm (l₁:= [_,_,_])) (y1.of_fun (zve (s.extract i s.size))))) ?_
 refine rn ?_;refine u0 (fun hg2_3=> ?_) (fun hg2_3=> ?_)
 ·refine rn ?_;exact zbj rfl rfl (.refl _ _) ⟨rfl,congrArg (fun b=>AV.tup [.v (.int .i32 c),bv b]) (by first|(simp only [zqv, *,Bool.true_and,Bool.false_and,Bool.and_false,Bool.and_true,Bool.true_or,Bool.or_false,Bool.false_or,Bool.or_true,if_true,if_false,Bool.false_eq_true,Bool.not_true,Bool.not_false];done)|(simp_all [zqv];done))⟩
 ·refine rn ?_;exact zbj rfl rfl (.refl _ _) ⟨rfl,congrArg (fun b=>AV.tup [.v (.int .i32 c),bv b]) (by first|(simp only [zqv, *,Bool.true_and,Bool.false_and,Bool.and_false,Bool.and_true,Bool.true_or,Bool.or_false,Bool.false_or,Bool.or_true,if_true,if_false,Bool.false_eq_true,Bool.not_true,Bool.not_false];done)|(simp_all [zqv];done))⟩
theorem zwu (s:ByteArray) (bs:Nat) (y:AV) (p:Nat→Int→Bool) (I:List Res→Prop) (J:Nat→List Res→Prop) (hy:∀(i bi bc it:Nat) (L:List Res),i < s.size→I L→y1 Tryz.prog y [iv i,.fn (.func 280) [] [pZ bs,pZ bi,pZ bc]] (.box bc 21 [.v (.int .i32 (Utf8.decode s i).1)]:: .box bi 3 [iv (i:Nat)]:: .obj it (.stringIter s (i+(Utf8.decode s i).2)):: .box bs 9 [sv s]::L) (fun r h'=>∃L',h'= .box bc 21 [.v (.int .i32 (Utf8.decode s i).1)]:: .box bi 3 [iv (i:Nat)]:: .obj it (.stringIter s (i+(Utf8.decode s i).2)):: .box bs 9 [sv s]::L'∧((p i (Utf8.decode s i).1=true∧r=bv true∧I L')∨(p i (Utf8.decode s i).1=false∧r=bv false∧J i L')))) (L0:List Res) (h0:I L0):y8 Tryz.prog 279 [y,pZ bs] (.box bs 9 [sv s]::L0) (fun r h'=>∃L',h'= .box bs 9 [sv s]::L'∧((zdl s p 0=s.size∧I L')∨(zdl s p 0 < s.size∧J (zdl s p 0) L'))):=by
 refine z6 Tryz.func279 rfl rfl rfl ?_
 refine rn ?_;refine z7 rfl (zpe rfl rfl fun b7=> ?_)
 refine rn ?_;refine zab (fun x:Nat×List Res=>zdl s p 0=zdl s p x.1∧I x.2) (fun x=>⟨[(7,pZ b7),(0,y),(1,pZ bs)],.obj b7 (.stringIter s x.1):: .box bs 9 [sv s]::x.2,[]⟩) (fun x=>s.size - x.1) (0,L0) ⟨rfl,h0⟩
  (v1 (.cons _ _ _ rfl (.cons _ _ _ rfl (.cons _ _ _ rfl (.nil))))) ?_
 rintro ⟨k,L⟩ ⟨hw,hI⟩
 simp only at hw hI
 refine w8 (y6 ?_)
 refine z7 rfl (zrf rfl rfl (fun hp=> ?_) (fun hp=> ?_))
 ·refine rn ?_;refine y0 rfl (fun hc9=> ?_) (fun hc9=> ?_)
  ·first|cases hc9|exact absurd hc9 (by decide)|(exfalso;simp_all;done)
  ·refine rn ?_;exact zc3 .nil (.drop1 _ _ _) ⟨_,rfl,.inl ⟨by rw [hw,zme hp],hI⟩⟩
 ·refine rn ?_;refine y0 rfl (fun hc9=> ?_) (fun hc9=> ?_)
  ·refine rn ?_;refine z7 rfl (y7 rfl fun b3=> ?_)
   refine z7 rfl (y7 rfl fun b4=> ?_)
   first|refine z7 rfl (u5 rfl rfl rfl ?_)|refine z7 rfl (zaf rfl rfl rfl rfl (Nat.le_of_ble_eq_true rfl) ?_)
   first|refine z7 rfl (u5 rfl rfl rfl ?_)|refine z7 rfl (zaf rfl rfl rfl rfl (Nat.le_of_ble_eq_true rfl) ?_)
   refine v8 (zak ?_)
   refine w8 (y6 ?_)
   refine q1 ?_;refine q1 ?_;refine v8 (zak ?_)
   refine w8 (y6 ?_)
   refine q1 ?_;refine q1 ?_;refine q1 ?_;refine z7 rfl (q7 rfl rfl (hy k b3 b4 b7 L hp hI) rfl ?_)
   rintro av h' ⟨L',rfl,⟨hp1,rfl,hI2⟩|⟨hp1,rfl,hJ⟩⟩
   ·refine rn ?_;refine y0 rfl (fun hc17=> ?_) (fun hc17=> ?_)
    ·first|cases hc17|exact absurd hc17 (by decide)|(exfalso;simp_all;done)
    ·refine rn ?_;exact ⟨(k+(Utf8.decode s k).2,L'),⟨hw.trans (zot hp hp1),hI2⟩,(v6 (zb3 (h1:= [_,_])) (v1 (.cons _ _ _ rfl (.cons _ _ _ rfl (.cons _ _ _ rfl (.nil)))))),by have:=zos s k;simp only at hp ⊢;omega⟩
   ·refine rn ?_;refine y0 rfl (fun hc17=> ?_) (fun hc17=> ?_)
    ·refine rn ?_;exact zdt .nil (.drop [_,_,_] _ _) ⟨_,rfl,.inr (by rw [hw,zqr hp hp1];exact ⟨hp,hJ⟩)⟩
    ·first|cases hc17|exact absurd hc17 (by decide)|(exfalso;simp_all;done)
  ·first|cases hc9|exact absurd hc9 (by decide)|(exfalso;simp_all;done)
theorem yin (s:ByteArray) (h:List Res):y8 Tryz.prog 266 [sv s] h (fun r h'=>∃bs,h'= .box bs 9 [sv s]::h∧r= .fn (.func 279) [] [pZ bs]):=by
 refine z6 Tryz.func266 rfl rfl rfl ?_
 refine rn ?_;refine z7 rfl (w7 rfl rfl rfl fun b1=> ?_)
 refine rn ?_;exact zal rfl (.refl _ _) ⟨_,rfl,rfl⟩
theorem ybv (s:ByteArray) (fv:AV) (g:Int→Bool) (hone:fv.cellsOf=some [fv]) (hgo:∀c h,y1 Tryz.prog fv [.v (.int .i32 c)] h (fun r h'=>h'=h∧r=bv (g c))):y8 Tryz.prog 225 [sv s,fv] [.glob 4 305 y3,.glob 5 308 z8] (fun r h'=>h'= [.glob 4 305 y3,.glob 5 308 z8]∧r=iv (zdl s (zfg s g) 0:Nat)):=by
 refine z6 Tryz.func225 rfl rfl rfl ?_
 refine rn ?_;refine z7 rfl (w7 rfl hone rfl fun b3=> ?_)
 refine rn ?_;refine zif ?_;refine rn ?_;refine z7 rfl (y7 rfl fun b5=> ?_)
 refine rn ?_;refine z7 rfl (q7 rfl rfl (y1.of_fun (yin s _)) rfl ?_)
 rintro _ _ ⟨bs,rfl,rfl⟩
 refine rn ?_;refine zjz (fun pend h''=>(pend=none∨pend=some (.exit 0))∧h''= .box bs 9 [sv s]:: .box b5 3 [iv (zdl s (zfg s g) 0:Nat)]:: .box b3 270 [fv]:: [.glob 4 305 y3,.glob 5 308 z8]) rfl (fun fn l q lp hlp=> ?_) (fun q h'' hK=> ?_) (fun q h'' c hK=> ?_)
 ·suffices hy:∀(i bi bc it:Nat) (L:List Res),i < s.size→L=lp .ready none:: .defs q:: .box b5 3 [iv s.size]:: .box b3 270 [fv]:: [.glob 4 305 y3,.glob 5 308 z8]→y1 Tryz.prog (yv l) [iv i,.fn (.func 280) [] [pZ bs,pZ bi,pZ bc]] (.box bc 21 [.v (.int .i32 (Utf8.decode s i).1)]:: .box bi 3 [iv (i:Nat)]:: .obj it (.stringIter s (i+(Utf8.decode s i).2)):: .box bs 9 [sv s]::L)
   (fun r h'=>∃L',h'= .box bc 21 [.v (.int .i32 (Utf8.decode s i).1)]:: .box bi 3 [iv (i:Nat)]:: .obj it (.stringIter s (i+(Utf8.decode s i).2)):: .box bs 9 [sv s]::L'∧((zfg s g i (Utf8.decode s i).1=true∧r=bv true∧L'=lp .ready none:: .defs q:: .box b5 3 [iv s.size]:: .box b3 270 [fv]:: [.glob 4 305 y3,.glob 5 308 z8])∨(zfg s g i (Utf8.decode s i).1=false∧r=bv false∧L'=lp .done (some (.exit 0)):: .defs q:: .box b5 3 [iv (i:Nat)]:: .box b3 270 [fv]:: [.glob 4 305 y3,.glob 5 308 z8]))) by
   refine y8.mono (y8.perm (pt2 _ _ _ _) (zwu s bs (yv l) (zfg s g) _ (fun i L=>L=lp .done (some (.exit 0)):: .defs q:: .box b5 3 [iv (i:Nat)]:: .box b3 270 [fv]:: [.glob 4 305 y3,.glob 5 308 z8]) hy _ rfl)) ?_
   rintro _ _ ⟨L',rfl,⟨hw,rfl⟩|⟨hw,rfl⟩⟩
   ·exact ⟨_,_,_,(pt2 _ _ _ _).symm,by simp,.inl rfl,by rw [hw]⟩
   ·exact ⟨_,_,_,(pt2 _ _ _ _).symm,by simp,.inr rfl,rfl⟩
  rintro i bi bc it _ hi rfl
  refine y1.perm (pt4 _ _ _ _ _ _) (y1.permR (zts hlp rfl rfl ?_))
  refine rn ?_;refine ⟨[(6,iv (i:Nat)),(7,.fn (.func 280) [] [pZ bs,pZ bi,pZ bc]),(5,pZ b5),(3,pZ b3)],v1 (.cons _ _ _ rfl (.cons _ _ _ rfl (.cons _ _ _ rfl (.cons _ _ _ rfl .nil)))),?_⟩
  refine rn ?_;refine qv rfl rfl (y4 rfl rfl (y1.qt (y1.of_acall (fs:= []) (cs:= [pZ bs,pZ bi,pZ bc]) (yaq s i (Utf8.decode s i).1 bs bi bc (by omega))) ((pt4 _ _ _ _ _ _).trans (.cons _ ((pt2 _ _ _ _).trans (.cons _ ((pt1 _ _ _).trans (.cons _ ((pt5 _ _ _ _ _ _ _).trans (.cons _ (pt5 _ _ _ _ _ _ _))))))))))) ?_
  refine rn ?_;refine u0 (fun hg6_2=> ?_) (fun hg6_2=> ?_)
  ·refine rn ?_;refine zsb rfl ?_;refine rn ?_;exact zwy (.refl _) ⟨_,((pt1 _ _ _).trans (.cons _ ((pt1 _ _ _).trans (.cons _ ((pt1 _ _ _).trans (.cons _ (pt1 _ _ _))))))),_,rfl,.inr ⟨by simp_all [zfg],rfl,rfl⟩⟩
  ·refine rn ?_;refine qv rfl rfl (y4 rfl rfl (hgo _ _)) ?_
   refine rn ?_;refine y0 rfl (fun hc28=> ?_) (fun hc28=> ?_)
   ·refine rn ?_;exact zwy (.refl _) ⟨_,((pt1 _ _ _).trans (.cons _ ((pt1 _ _ _).trans (.cons _ ((pt1 _ _ _).trans (.cons _ (pt1 _ _ _))))))),_,rfl,.inr ⟨by simp_all [zfg],rfl,rfl⟩⟩
   ·refine rn ?_;exact zcf (.refl _) ⟨_,((pt1 _ _ _).trans (.cons _ ((pt1 _ _ _).trans (.cons _ ((pt1 _ _ _).trans (.cons _ (pt1 _ _ _))))))),_,rfl,.inl ⟨by simp_all [zfg],rfl,rfl⟩⟩
 ·obtain ⟨_,rfl⟩:=hK
  refine rn ?_;refine ⟨fun l h=>(by cases h),?_⟩
  exact zfy (.refl _) (.cons _ _ _ _ (.tmp _ _ rfl) .nil) (.drop [_,_,_] _ _) ⟨rfl,rfl⟩
 ·obtain ⟨hc,rfl⟩:=hK
  obtain rfl:c= .exit 0:=by simpa using hc
  refine rn ?_;refine ⟨fun l h=>(by cases h),?_⟩
  exact zfy (.refl _) (.cons _ _ _ _ (.tmp _ _ rfl) .nil) (.drop [_,_,_] _ _) ⟨rfl,rfl⟩
theorem bvz3_3455 {a b:Bool} (h:a=b:=by first|(simp only [zil, *,Bool.true_and,Bool.false_and,Bool.and_false,Bool.and_true,Bool.true_or,Bool.or_false,Bool.false_or,Bool.or_true,if_true,if_false,Bool.false_eq_true,Bool.not_true,Bool.not_false];done)|(simp_all [zil,zy8];done)):bv a=bv b:=congrArg bv h
theorem yoc (s:ByteArray):y8 Tryz.prog 187 [sv s] [.glob 4 305 y3,.glob 5 308 z8] (fun r h'=>h'= [.glob 4 305 y3,.glob 5 308 z8]∧r=bv (zil s)):=by
 refine z6 Tryz.func187 rfl rfl rfl ?_
 refine rn ?_;refine u0 (fun hg1_2=> ?_) (fun hg1_2=> ?_)
 ·refine rn ?_;refine u0 (fun hg1_7=> ?_) (fun hg1_7=> ?_)
  ·refine rn ?_;have h1:0 < s.size:=zwa hg1_2
   refine qq rfl rfl (u3 0 rfl rfl (by omega)) ?_
   refine rn ?_;refine qv rfl rfl (y4 rfl rfl (zax (zpl _) (Sbs.refl _))) ?_
   refine rn ?_;refine u0 (fun hg1_14=> ?_) (fun hg1_14=> ?_)
   ·refine rn ?_;refine qv rfl rfl (y4 rfl rfl (y1.of_fun (ybv s (.fn (.func 226) [] []) zlk rfl (fun c h=>(zax (zxz c) (Sbs.refl _)))))) ?_
    refine rn ?_;exact zal rfl (.refl _ _) ⟨rfl,bvz3_3455⟩
   ·refine rn ?_;exact zal rfl (.refl _ _) ⟨rfl,bvz3_3455⟩
  ·refine rn ?_;exact zal rfl (.refl _ _) ⟨rfl,bvz3_3455⟩
 ·refine rn ?_;exact zal rfl (.refl _ _) ⟨rfl,bvz3_3455⟩
theorem yks (e:Ev) (h:Hist) (be bh:Nat):y8 Tryz.prog 231 [pZ be,pZ bh] [.box be 60 (evR e),.box bh 28 (y9 h)] (fun r h'=>h'= [.box be 60 (evR e),.box bh 28 (y9 h)]∧r= .tup [.agg (evR ⟨0,0,e.s,e.l,0,⟨0,0⟩,0,[]⟩),bv (zdi h e)]):=by
 refine z6 Tryz.func231 rfl rfl rfl ?_
 refine rn ?_;refine z7 rfl (y7 rfl fun b2=> ?_)
 refine rn ?_;refine zdj 16 [(b2,60,_)] rfl (List.perm_append_comm (l₁:= [_])) ?_
 refine rn ?_;refine dv rfl rfl (by exact y4 rfl rfl (zax (zvl _ 1 _ _ rfl (by decide)) (Sbs.refl _))) ?_
 refine rn ?_;refine zcu (fun hg1_9=> ?_) (fun hg1_9=> ?_)
 ·refine rn ?_;refine dv rfl rfl (by exact y4 rfl rfl (zax (zu1 _) (Sbs.refl _))) ?_
  refine rn ?_;refine dw 0 rfl rfl rfl rfl rfl (Nat.le_of_ble_eq_true rfl) ?_
  refine rn2 ?_;show zb5 _ _ _ _ _ _ ⟨_,.box b2 60 _::_,_⟩
  refine rn ?_;exact zdt (.cons _ _ _ _ (.agg _ _ _ _ _ _ _ rfl inferInstance inferInstance inferInstance rfl) (.cons _ _ _ _ (.tmp _ _ rfl) .nil)) (.trans (.drop1 _ _ _) (zbp (by exact Sb.aggs (by exact ⟨.refl _,.refl _,.refl _,.refl _,.refl _,.refl _,.refl _,.refl _,.nil _ _,trivial⟩)) (by exact .refl _))) ⟨rfl,congrArg (fun b=>AV.tup [.agg (evR ⟨0,0,e.s,e.l,0,⟨0,0⟩,0,[]⟩),bv b]) (by first|(simp only [zdi, *,Bool.true_and,Bool.false_and,Bool.and_false,Bool.and_true,Bool.true_or,Bool.or_false,Bool.false_or,Bool.or_true,if_true,if_false,Bool.false_eq_true,Bool.not_true,Bool.not_false];done)|(simp_all [zdi];done)|(simp_all [zdi] <;> omega))⟩
 ·refine rn ?_;refine dw 0 rfl rfl rfl rfl rfl (Nat.le_of_ble_eq_true rfl) ?_
  refine rn2 ?_;show zb5 _ _ _ _ _ _ ⟨_,.box b2 60 _::_,_⟩
  refine rn ?_;exact zdt (.cons _ _ _ _ (.agg _ _ _ _ _ _ _ rfl inferInstance inferInstance inferInstance rfl) (.cons _ _ _ _ (.tmp _ _ rfl) .nil)) (.trans (.drop1 _ _ _) (zbp (by exact Sb.aggs (by exact ⟨.refl _,.refl _,.refl _,.refl _,.refl _,.refl _,.refl _,.refl _,.nil _ _,trivial⟩)) (by exact .refl _))) ⟨rfl,congrArg (fun b=>AV.tup [.agg (evR ⟨0,0,e.s,e.l,0,⟨0,0⟩,0,[]⟩),bv b]) (by first|(simp only [zdi, *,Bool.true_and,Bool.false_and,Bool.and_false,Bool.and_true,Bool.true_or,Bool.or_false,Bool.false_or,Bool.or_true,if_true,if_false,Bool.false_eq_true,Bool.not_true,Bool.not_false];done)|(simp_all [zdi];done)|(simp_all [zdi] <;> omega))⟩
theorem ykr (e:Ev) (h:Hist) (be bh:Nat):y8 Tryz.prog 233 [pZ be,pZ bh] [.box be 60 (evR e),.box bh 28 (y9 h)] (fun r h'=>h'= [.box be 60 (evR e),.box bh 28 (y9 h)]∧r= .tup [.agg (evR ⟨0,0,0,0,e.o,e.v,0,[]⟩),bv (zbg h e)]):=by
 refine z6 Tryz.func233 rfl rfl rfl ?_
 refine rn ?_;refine z7 rfl (y7 rfl fun b2=> ?_)
 refine rn ?_;refine zdj 30 [(b2,60,_)] rfl (List.perm_append_comm (l₁:= [_])) ?_
 refine rn ?_;refine dv rfl rfl (by exact y4 rfl rfl (zax (zvl _ 2 _ _ rfl (by decide)) (Sbs.refl _))) ?_
 refine rn ?_;refine zcu (fun hg1_9=> ?_) (fun hg1_9=> ?_)
 ·refine rn ?_;refine dv rfl rfl (by exact y4 rfl rfl (zax (zqt h e.v) (Sbs.refl _))) ?_
  refine rn ?_;refine zcu (fun hg1_15=> ?_) (fun hg1_15=> ?_)
  ·refine rn ?_;refine zcu (fun hg1_23=> ?_) (fun hg1_23=> ?_)
   ·refine rn ?_;refine dw 0 rfl rfl rfl rfl rfl (Nat.le_of_ble_eq_true rfl) ?_
    refine rn2 ?_;show zb5 _ _ _ _ _ _ ⟨_,.box b2 60 _::_,_⟩
    refine rn ?_;exact zdt (.cons _ _ _ _ (.agg _ _ _ _ _ _ _ rfl inferInstance inferInstance inferInstance rfl) (.cons _ _ _ _ (.tmp _ _ rfl) .nil)) (.trans (.drop1 _ _ _) (zbp (by exact Sb.aggs (by exact ⟨.refl _,.refl _,.refl _,.refl _,.refl _,.refl _,.refl _,.refl _,.nil _ _,trivial⟩)) (by exact .refl _))) ⟨rfl,congrArg (fun b=>AV.tup [.agg (evR ⟨0,0,0,0,e.o,e.v,0,[]⟩),bv b]) (by first|(simp only [zbg, *,Bool.true_and,Bool.false_and,Bool.and_false,Bool.and_true,Bool.true_or,Bool.or_false,Bool.false_or,Bool.or_true,if_true,if_false,Bool.false_eq_true,Bool.not_true,Bool.not_false];done)|(simp_all [zbg];done)|(simp_all [zbg] <;> omega))⟩
   ·refine rn ?_;refine dw 0 rfl rfl rfl rfl rfl (Nat.le_of_ble_eq_true rfl) ?_
    refine rn2 ?_;show zb5 _ _ _ _ _ _ ⟨_,.box b2 60 _::_,_⟩
    refine rn ?_;exact zdt (.cons _ _ _ _ (.agg _ _ _ _ _ _ _ rfl inferInstance inferInstance inferInstance rfl) (.cons _ _ _ _ (.tmp _ _ rfl) .nil)) (.trans (.drop1 _ _ _) (zbp (by exact Sb.aggs (by exact ⟨.refl _,.refl _,.refl _,.refl _,.refl _,.refl _,.refl _,.refl _,.nil _ _,trivial⟩)) (by exact .refl _))) ⟨rfl,congrArg (fun b=>AV.tup [.agg (evR ⟨0,0,0,0,e.o,e.v,0,[]⟩),bv b]) (by first|(simp only [zbg, *,Bool.true_and,Bool.false_and,Bool.and_false,Bool.and_true,Bool.true_or,Bool.or_false,Bool.false_or,Bool.or_true,if_true,if_false,Bool.false_eq_true,Bool.not_true,Bool.not_false];done)|(simp_all [zbg];done)|(simp_all [zbg] <;> omega))⟩
  ·refine rn ?_;refine dw 0 rfl rfl rfl rfl rfl (Nat.le_of_ble_eq_true rfl) ?_
   refine rn2 ?_;show zb5 _ _ _ _ _ _ ⟨_,.box b2 60 _::_,_⟩
   refine rn ?_;exact zdt (.cons _ _ _ _ (.agg _ _ _ _ _ _ _ rfl inferInstance inferInstance inferInstance rfl) (.cons _ _ _ _ (.tmp _ _ rfl) .nil)) (.trans (.drop1 _ _ _) (zbp (by exact Sb.aggs (by exact ⟨.refl _,.refl _,.refl _,.refl _,.refl _,.refl _,.refl _,.refl _,.nil _ _,trivial⟩)) (by exact .refl _))) ⟨rfl,congrArg (fun b=>AV.tup [.agg (evR ⟨0,0,0,0,e.o,e.v,0,[]⟩),bv b]) (by first|(simp only [zbg, *,Bool.true_and,Bool.false_and,Bool.and_false,Bool.and_true,Bool.true_or,Bool.or_false,Bool.false_or,Bool.or_true,if_true,if_false,Bool.false_eq_true,Bool.not_true,Bool.not_false];done)|(simp_all [zbg];done)|(simp_all [zbg] <;> omega))⟩
 ·refine rn ?_;refine dw 0 rfl rfl rfl rfl rfl (Nat.le_of_ble_eq_true rfl) ?_
  refine rn2 ?_;show zb5 _ _ _ _ _ _ ⟨_,.box b2 60 _::_,_⟩
  refine rn ?_;exact zdt (.cons _ _ _ _ (.agg _ _ _ _ _ _ _ rfl inferInstance inferInstance inferInstance rfl) (.cons _ _ _ _ (.tmp _ _ rfl) .nil)) (.trans (.drop1 _ _ _) (zbp (by exact Sb.aggs (by exact ⟨.refl _,.refl _,.refl _,.refl _,.refl _,.refl _,.refl _,.refl _,.nil _ _,trivial⟩)) (by exact .refl _))) ⟨rfl,congrArg (fun b=>AV.tup [.agg (evR ⟨0,0,0,0,e.o,e.v,0,[]⟩),bv b]) (by first|(simp only [zbg, *,Bool.true_and,Bool.false_and,Bool.and_false,Bool.and_true,Bool.true_or,Bool.or_false,Bool.false_or,Bool.or_true,if_true,if_false,Bool.false_eq_true,Bool.not_true,Bool.not_false];done)|(simp_all [zbg];done)|(simp_all [zbg] <;> omega))⟩
theorem ykq (e:Ev) (h:Hist) (be bh:Nat):y8 Tryz.prog 235 [pZ be,pZ bh] [.box be 60 (evR e),.box bh 28 (y9 h)] (fun r h'=>h'= [.box be 60 (evR e),.box bh 28 (y9 h)]∧r= .tup [.agg (evR ⟨0,0,0,0,e.o,e.v,0,[]⟩),bv (zdv h e)]):=by
 refine z6 Tryz.func235 rfl rfl rfl ?_
 refine rn ?_;refine z7 rfl (y7 rfl fun b2=> ?_)
 refine rn ?_;refine zdj 16 [(b2,60,_)] rfl (List.perm_append_comm (l₁:= [_])) ?_
 refine rn ?_;refine dv rfl rfl (by exact y4 rfl rfl (zax (zvl _ 2 _ _ rfl (by decide)) (Sbs.refl _))) ?_
 refine rn ?_;refine zcu (fun hg1_9=> ?_) (fun hg1_9=> ?_)
 ·refine rn ?_;refine dv rfl rfl (by exact y4 rfl rfl (zax (zqt h e.v) (Sbs.refl _))) ?_
  refine rn ?_;refine dw 0 rfl rfl rfl rfl rfl (Nat.le_of_ble_eq_true rfl) ?_
  refine rn2 ?_;show zb5 _ _ _ _ _ _ ⟨_,.box b2 60 _::_,_⟩
  refine rn ?_;exact zdt (.cons _ _ _ _ (.agg _ _ _ _ _ _ _ rfl inferInstance inferInstance inferInstance rfl) (.cons _ _ _ _ (.tmp _ _ rfl) .nil)) (.trans (.drop1 _ _ _) (zbp (by exact Sb.aggs (by exact ⟨.refl _,.refl _,.refl _,.refl _,.refl _,.refl _,.refl _,.refl _,.nil _ _,trivial⟩)) (by exact .refl _))) ⟨rfl,congrArg (fun b=>AV.tup [.agg (evR ⟨0,0,0,0,e.o,e.v,0,[]⟩),bv b]) (by first|(simp only [zdv, *,Bool.true_and,Bool.false_and,Bool.and_false,Bool.and_true,Bool.true_or,Bool.or_false,Bool.false_or,Bool.or_true,if_true,if_false,Bool.false_eq_true,Bool.not_true,Bool.not_false];done)|(simp_all [zdv];done)|(simp_all [zdv] <;> omega))⟩
 ·refine rn ?_;refine dw 0 rfl rfl rfl rfl rfl (Nat.le_of_ble_eq_true rfl) ?_
  refine rn2 ?_;show zb5 _ _ _ _ _ _ ⟨_,.box b2 60 _::_,_⟩
  refine rn ?_;exact zdt (.cons _ _ _ _ (.agg _ _ _ _ _ _ _ rfl inferInstance inferInstance inferInstance rfl) (.cons _ _ _ _ (.tmp _ _ rfl) .nil)) (.trans (.drop1 _ _ _) (zbp (by exact Sb.aggs (by exact ⟨.refl _,.refl _,.refl _,.refl _,.refl _,.refl _,.refl _,.refl _,.nil _ _,trivial⟩)) (by exact .refl _))) ⟨rfl,congrArg (fun b=>AV.tup [.agg (evR ⟨0,0,0,0,e.o,e.v,0,[]⟩),bv b]) (by first|(simp only [zdv, *,Bool.true_and,Bool.false_and,Bool.and_false,Bool.and_true,Bool.true_or,Bool.or_false,Bool.false_or,Bool.or_true,if_true,if_false,Bool.false_eq_true,Bool.not_true,Bool.not_false];done)|(simp_all [zdv];done)|(simp_all [zdv] <;> omega))⟩
theorem yg6 (s:Seen) (h:Hist) (bh:Nat):y8 Tryz.prog 237 [.agg (zav s),pZ bh] [.box bh 28 (y9 h)] (fun r h'=>h'= [.box bh 28 (y9 h)]∧r=bv (zio h s)):=by
 refine z6 Tryz.func237 rfl rfl rfl ?_
 refine rn ?_;refine z7 rfl (w7 rfl rfl rfl fun b2=> ?_)
 refine rn ?_;refine qv rfl rfl (y4 rfl rfl (zax (zvl _ 2 _ _ rfl (by decide)) (Sbs.refl _))) ?_
 refine rn ?_;refine u0 (fun hg1_4=> ?_) (fun hg1_4=> ?_)
 ·refine rn ?_;refine qv rfl rfl (y4 rfl rfl (zax (zqt h s.v) (Sbs.refl _))) ?_
  refine rn ?_;exact zal rfl (.drop1 _ _ _) ⟨rfl,congrArg bv (by first|(simp only [zio, *,Bool.true_and,Bool.false_and,Bool.and_false,Bool.and_true,Bool.true_or,Bool.or_false,Bool.false_or,Bool.or_true,if_true,if_false,Bool.false_eq_true,Bool.not_true,Bool.not_false];done)|(simp_all [zio];done)|(simp_all [zio] <;> omega))⟩
 ·refine rn ?_;exact zal rfl (.drop1 _ _ _) ⟨rfl,congrArg bv (by first|(simp only [zio, *,Bool.true_and,Bool.false_and,Bool.and_false,Bool.and_true,Bool.true_or,Bool.or_false,Bool.false_or,Bool.or_true,if_true,if_false,Bool.false_eq_true,Bool.not_true,Bool.not_false];done)|(simp_all [zio];done)|(simp_all [zio] <;> omega))⟩
theorem ykp (e:Ev) (h:Hist) (be bh:Nat) (hl:e.scan.length≤4611686018427387904):y8 Tryz.prog 236 [pZ bh,pZ be] [.box be 60 (evR e),.box bh 28 (y9 h)] (fun r h'=>h'= [.box be 60 (evR e),.box bh 28 (y9 h)]∧r= .tup [.agg (evR ⟨0,0,0,0,0,⟨0,0⟩,e.p,e.scan⟩),bv (zcg h e)]):=by
 refine z6 Tryz.func236 rfl rfl rfl ?_
 refine rn ?_;refine z7 rfl (y7 rfl fun b2=> ?_)
 refine rn ?_;refine zdj 22 [(b2,60,_)] rfl (List.perm_append_comm (l₁:= [_])) ?_
 refine rn ?_;refine dv rfl rfl (by exact y4 rfl rfl (zax (zvl _ 3 _ _ rfl (by decide)) (Sbs.refl _))) ?_
 refine rn ?_;refine zcu (fun hg2_9=> ?_) (fun hg2_9=> ?_)
 ·refine rn ?_;refine zcu (fun hg2_15=> ?_) (fun hg2_15=> ?_)
  ·refine rn ?_;refine dv rfl rfl (by exact y4 rfl rfl (y1.of_fun (yhp e.scan (.fn (.func 237) [] [pZ bh]) (zio h) [.box be 60 (evR e),.box bh 28 (y9 h)] rfl (fun s hs=>y1.quiet (R:=fun x=>x=bv (zio h s)) (h2:= [_]) (List.perm_append_comm (l₁:= [_])) (y1.of_acall (fs:= []) (cs:= [pZ bh]) (yg6 s h bh))) hl))) ?_
   refine rn ?_;refine dw 0 rfl rfl rfl rfl rfl (Nat.le_of_ble_eq_true rfl) ?_
   refine rn2 ?_;show zb5 _ _ _ _ _ _ ⟨_,.box b2 60 _::_,_⟩
   refine rn ?_;exact zdt (.cons _ _ _ _ (.agg _ _ _ _ _ _ _ rfl inferInstance inferInstance inferInstance rfl) (.cons _ _ _ _ (.tmp _ _ rfl) .nil)) (.trans (.drop1 _ _ _) (zbp (by exact Sb.aggs (by exact ⟨.refl _,.refl _,.refl _,.refl _,.refl _,.refl _,.refl _,.refl _,.refl _,trivial⟩)) (by exact .refl _))) ⟨rfl,congrArg (fun b=>AV.tup [.agg (evR ⟨0,0,0,0,0,⟨0,0⟩,e.p,e.scan⟩),bv b]) (by first|(simp only [zcg, *,Bool.true_and,Bool.false_and,Bool.and_false,Bool.and_true,Bool.true_or,Bool.or_false,Bool.false_or,Bool.or_true,if_true,if_false,Bool.false_eq_true,Bool.not_true,Bool.not_false];done)|(simp_all [zcg];done)|(simp_all [zcg] <;> omega))⟩
  ·refine rn ?_;refine dw 0 rfl rfl rfl rfl rfl (Nat.le_of_ble_eq_true rfl) ?_
   refine rn2 ?_;show zb5 _ _ _ _ _ _ ⟨_,.box b2 60 _::_,_⟩
   refine rn ?_;exact zdt (.cons _ _ _ _ (.agg _ _ _ _ _ _ _ rfl inferInstance inferInstance inferInstance rfl) (.cons _ _ _ _ (.tmp _ _ rfl) .nil)) (.trans (.drop1 _ _ _) (zbp (by exact Sb.aggs (by exact ⟨.refl _,.refl _,.refl _,.refl _,.refl _,.refl _,.refl _,.refl _,.refl _,trivial⟩)) (by exact .refl _))) ⟨rfl,congrArg (fun b=>AV.tup [.agg (evR ⟨0,0,0,0,0,⟨0,0⟩,e.p,e.scan⟩),bv b]) (by first|(simp only [zcg, *,Bool.true_and,Bool.false_and,Bool.and_false,Bool.and_true,Bool.true_or,Bool.or_false,Bool.false_or,Bool.or_true,if_true,if_false,Bool.false_eq_true,Bool.not_true,Bool.not_false];done)|(simp_all [zcg];done)|(simp_all [zcg] <;> omega))⟩
 ·refine rn ?_;refine dw 0 rfl rfl rfl rfl rfl (Nat.le_of_ble_eq_true rfl) ?_
  refine rn2 ?_;show zb5 _ _ _ _ _ _ ⟨_,.box b2 60 _::_,_⟩
  refine rn ?_;exact zdt (.cons _ _ _ _ (.agg _ _ _ _ _ _ _ rfl inferInstance inferInstance inferInstance rfl) (.cons _ _ _ _ (.tmp _ _ rfl) .nil)) (.trans (.drop1 _ _ _) (zbp (by exact Sb.aggs (by exact ⟨.refl _,.refl _,.refl _,.refl _,.refl _,.refl _,.refl _,.refl _,.refl _,trivial⟩)) (by exact .refl _))) ⟨rfl,congrArg (fun b=>AV.tup [.agg (evR ⟨0,0,0,0,0,⟨0,0⟩,e.p,e.scan⟩),bv b]) (by first|(simp only [zcg, *,Bool.true_and,Bool.false_and,Bool.and_false,Bool.and_true,Bool.true_or,Bool.or_false,Bool.false_or,Bool.or_true,if_true,if_false,Bool.false_eq_true,Bool.not_true,Bool.not_false];done)|(simp_all [zcg];done)|(simp_all [zcg] <;> omega))⟩
theorem yko  :y8 Tryz.prog 239 [] [] (fun r h'=>h'= []∧r= .tup [.agg (evR ⟨0,0,0,0,0,⟨0,0⟩,0,[]⟩),bv true]):=by
 refine z6 Tryz.func239 rfl rfl rfl ?_
 refine rn ?_;refine z7 rfl (y7 rfl fun b0=> ?_)
 refine rn ?_;exact zdt (.cons _ _ _ _ (.agg _ _ _ _ _ _ _ rfl inferInstance inferInstance inferInstance rfl) (.cons _ _ _ _ (.tmp _ _ rfl) .nil)) (.trans (.drop1 _ _ _) (zbp (by exact Sb.aggs (by exact ⟨.refl _,.refl _,.refl _,.refl _,.refl _,.refl _,.refl _,.refl _,.nil _ _,trivial⟩)) (by exact .refl _))) ⟨rfl,congrArg (fun b=>AV.tup [.agg (evR ⟨0,0,0,0,0,⟨0,0⟩,0,[]⟩),bv b]) (by rfl)⟩
theorem ykn  :y8 Tryz.prog 240 [] [] (fun r h'=>h'= []∧r= .tup [.agg (evR ⟨0,0,0,0,0,⟨0,0⟩,0,[]⟩),bv true]):=by
 refine z6 Tryz.func240 rfl rfl rfl ?_
 refine rn ?_;refine z7 rfl (y7 rfl fun b0=> ?_)
 refine rn ?_;exact zdt (.cons _ _ _ _ (.agg _ _ _ _ _ _ _ rfl inferInstance inferInstance inferInstance rfl) (.cons _ _ _ _ (.tmp _ _ rfl) .nil)) (.trans (.drop1 _ _ _) (zbp (by exact Sb.aggs (by exact ⟨.refl _,.refl _,.refl _,.refl _,.refl _,.refl _,.refl _,.refl _,.nil _ _,trivial⟩)) (by exact .refl _))) ⟨rfl,congrArg (fun b=>AV.tup [.agg (evR ⟨0,0,0,0,0,⟨0,0⟩,0,[]⟩),bv b]) (by rfl)⟩
theorem ycc (h:Hist) (e:Ev) (b2 b3 k:Nat) (hl:e.scan.length≤4611686018427387904) (hk:e.kind=k) (h1:1≤k) (h7:k < 7):
 ∃av,(([.v .nilFunc,.fn (.func 231) [] [pZ b3,pZ b2],.fn (.func 233) [] [pZ b3,pZ b2],.fn (.func 235) [] [pZ b3,pZ b2],.fn (.func 236) [] [pZ b2,pZ b3],.fn (.func 239) [] [],.fn (.func 240) [] []]):List AV)[k * 1]? =some av∧y1 Tryz.prog av [] [.box b3 60 (evR e),.box b2 28 (y9 h)] (fun r h'=>h'= [.box b3 60 (evR e),.box b2 28 (y9 h)]∧r= .tup [.agg (evR (zg5 h e).1),bv (zg5 h e).2]):=by
 rcases (by omega:k=1∨k=2∨k=3∨k=4∨k=5∨k=6) with rfl|rfl|rfl|rfl|rfl|rfl
 ·refine ⟨_,rfl,?_⟩
  have hc:zg5 h e=(⟨0,0,e.s,e.l,0,⟨0,0⟩,0,[]⟩,zdi h e):=by unfold zg5;rw [hk];rfl
  rw [hc]
  exact y1.of_acall (fs:= []) (cs:= [pZ b3,pZ b2]) (yks e h b3 b2)
 ·refine ⟨_,rfl,?_⟩
  have hc:zg5 h e=(⟨0,0,0,0,e.o,e.v,0,[]⟩,zbg h e):=by unfold zg5;rw [hk];rfl
  rw [hc]
  exact y1.of_acall (fs:= []) (cs:= [pZ b3,pZ b2]) (ykr e h b3 b2)
 ·refine ⟨_,rfl,?_⟩
  have hc:zg5 h e=(⟨0,0,0,0,e.o,e.v,0,[]⟩,zdv h e):=by unfold zg5;rw [hk];rfl
  rw [hc]
  exact y1.of_acall (fs:= []) (cs:= [pZ b3,pZ b2]) (ykq e h b3 b2)
 ·refine ⟨_,rfl,?_⟩
  have hc:zg5 h e=(⟨0,0,0,0,0,⟨0,0⟩,e.p,e.scan⟩,zcg h e):=by unfold zg5;rw [hk];rfl
  rw [hc]
  exact y1.of_acall (fs:= []) (cs:= [pZ b2,pZ b3]) (ykp e h b3 b2 hl)
 ·refine ⟨_,rfl,?_⟩
  have hc:zg5 h e=(⟨0,0,0,0,0,⟨0,0⟩,0,[]⟩,true):=by unfold zg5;rw [hk];rfl
  rw [hc]
  exact y1.pure (R:=fun x=>x=_) (y1.of_acall (fs:= []) (cs:= []) yko)
 ·refine ⟨_,rfl,?_⟩
  have hc:zg5 h e=(⟨0,0,0,0,0,⟨0,0⟩,0,[]⟩,true):=by unfold zg5;rw [hk];rfl
  rw [hc]
  exact y1.pure (R:=fun x=>x=_) (y1.of_acall (fs:= []) (cs:= []) ykn)
theorem bvz4_6887 {a b:Bool} (h:a=b:=by first|(simp only [zdq, *,Bool.true_and,Bool.false_and,Bool.and_false,Bool.and_true,Bool.true_or,Bool.or_false,Bool.false_or,Bool.or_true,if_true,if_false,Bool.false_eq_true,Bool.not_true,Bool.not_false];done)|(simp_all [zdq];done)|(simp_all [zdq] <;> omega)):bv a=bv b:=congrArg bv h
theorem yni (h:Hist) (e:Ev) (hl:e.scan.length≤4611686018427387904):y8 Tryz.prog 194 [.agg (y9 h),.agg (evR e)] [] (fun r h'=>h'= []∧r=bv (zdq h e)):=by
 refine z6 Tryz.func194 rfl rfl rfl ?_
 refine rn ?_;refine z7 rfl (w7 rfl rfl rfl fun b2=> ?_)
 refine z7 rfl (w7 rfl rfl rfl fun b3=> ?_)
 refine rn ?_;refine z7 rfl (y7 rfl fun b5=> ?_)
 refine rn ?_;refine u0 (fun hg2_3=> ?_) (fun hg2_3=> ?_)
 ·refine rn ?_;refine zsb rfl ?_;refine rn ?_;exact zal rfl (.drop [_,_,_] _ _) ⟨rfl,bvz4_6887⟩
 ·refine rn ?_;refine u0 (fun hg2_8=> ?_) (fun hg2_8=> ?_)
  ·refine rn ?_;refine zsb rfl ?_;refine rn ?_;exact zal rfl (.drop [_,_,_] _ _) ⟨rfl,bvz4_6887⟩
  ·refine rn ?_;refine qv rfl rfl (y4 rfl rfl (zax (zvl h 0 e.t _ rfl (by decide)) (Sbs.refl _))) ?_
   refine rn ?_;refine y0 rfl (fun hc27=> ?_) (fun hc27=> ?_)
   ·refine rn ?_;exact zal rfl (.drop [_,_,_] _ _) ⟨rfl,bvz4_6887⟩
   ·have hlo:1≤e.kind:=by simpa using hg2_3
    have hhi:e.kind < 7:=by simpa using hg2_8
    obtain ⟨k,hk⟩:=Int.eq_ofNat_of_zero_le (show 0≤e.kind by omega)
    obtain ⟨av,hav,hfc⟩:=ycc h e b2 b3 k hl hk (by omega) (by omega)
    refine zbs ?_;refine zak ?_;refine w8 (y6 ?_)
    refine q1 ?_;refine q1 ?_;refine qq rfl rfl (zah rfl (by rw [←hk];rfl) (by omega)) ?_
    refine qq rfl rfl (k9 rfl (by simpa using hav)) ?_
    refine qv rfl rfl (y4 rfl rfl (y1.quiet (R:=fun x=>x=_) (h2:= [_]) (List.perm_append_comm (l₁:= [_])) hfc)) ?_
    refine rn ?_;refine z7 rfl (y7 rfl fun b6=> ?_)
    refine rn ?_;refine zdj 6 [(b6,60,_)] rfl (List.perm_append_comm (l₁:= [_])) ?_
    refine rn ?_;refine dw 0 rfl rfl rfl rfl rfl (Nat.le_of_ble_eq_true rfl) ?_
    refine rn2 ?_;show zb5 _ _ _ _ _ _ ⟨_,[.box b6 60 _,.box b5 _ _,.box b3 60 (evR e),.box b2 28 (y9 h)],_⟩
    refine rn ?_;refine u0 (fun hg6_1=> ?_) (fun hg6_1=> ?_)
    ·refine rn ?_;refine qv rfl rfl (y4 rfl rfl (zax (zws {(zg5 h e).1 with kind:=e.kind,t:=e.t} e (zy7 h e hl) hl) (by exact Sbs.refl _))) ?_
     refine rn ?_;exact zal rfl (.drop [_,_,_,_] _ _) ⟨rfl,bvz4_6887⟩
    ·refine rn ?_;exact zal rfl (.drop [_,_,_,_] _ _) ⟨rfl,bvz4_6887⟩
theorem yan (h:Hist) (b:Nat) (t:Int):y8 Tryz.prog 190 [iv t,pZ b] [.box b 28 (y9 h)] (fun r h'=>h'= [.box b 28 (y9 h)]∧r=bv (zd0 h.ts t)):=by
 refine z6 Tryz.func190 rfl rfl rfl ?_
 refine rn ?_;refine qv rfl rfl (y4 rfl rfl (zax (zvl h 0 _ _ rfl (by decide)) (Sbs.refl _))) ?_
 refine rn ?_;exact zal rfl (.refl _ _) ⟨rfl,congrArg bv (by rfl)⟩
theorem zwm {full:Bool} (h:Hist) (b:Nat) (ts:List Int) (hl:ts.length≤4611686018427387904):y8 Tryz.prog 188 [.list full 1 (ts.map za9),pZ b] [.box b 28 (y9 h)] (fun r h'=>h'= [.box b 28 (y9 h)]∧r=bv (tsB h ts)):=by
 refine z6 Tryz.func188 rfl rfl rfl ?_
 refine rn ?_;refine u0 (fun hg1_3=> ?_) (fun hg1_3=> ?_)
 ·refine rn ?_;refine qv rfl rfl (y4 rfl rfl (y1.of_fun (yle ts (.fn (.func 190) [] [pZ b]) (zd0 h.ts) [.box b 28 (y9 h)] rfl (fun t _=>y1.of_acall (fs:= []) (cs:= [pZ b]) (yan h b t)) hl))) ?_
  refine rn ?_;exact zal rfl (.refl _ _) ⟨rfl,congrArg bv (by first|(simp only [tsB, *,Bool.true_and,Bool.false_and,Bool.and_false,Bool.and_true,Bool.true_or,Bool.or_false,Bool.false_or,Bool.or_true,if_true,if_false,Bool.false_eq_true,Bool.not_true,Bool.not_false];done)|(simp_all [tsB];done)|(simp_all [tsB] <;> omega))⟩
 ·refine rn ?_;exact zal rfl (.refl _ _) ⟨rfl,congrArg bv (by first|(simp only [tsB, *,Bool.true_and,Bool.false_and,Bool.and_false,Bool.and_true,Bool.true_or,Bool.or_false,Bool.false_or,Bool.or_true,if_true,if_false,Bool.false_eq_true,Bool.not_true,Bool.not_false];done)|(simp_all [tsB];done)|(simp_all [tsB] <;> omega))⟩
theorem yfa (h:Hist) (b:Nat) (e:Ev) (hl:e.scan.length≤4611686018427387904):y8 Tryz.prog 193 [.agg (evR e),pZ b] [.box b 28 (y9 h)] (fun r h'=>h'= [.box b 28 (y9 h)]∧r=bv (zdq h e)):=by
 refine z6 Tryz.func193 rfl rfl rfl ?_
 refine rn ?_;refine z7 rfl (w7 rfl rfl rfl fun b2=> ?_)
 refine rn ?_;refine qv rfl rfl (y4 rfl rfl (zax (yni h e hl) (Sbs.refl _))) ?_
 refine rn ?_;exact zal rfl (.drop1 _ _ _) ⟨rfl,congrArg bv (by rfl)⟩
theorem ye9 (h:Hist) (b c:Nat) (m:H.Ord) (hl:m.ts.length≤4611686018427387904):y8 Tryz.prog 196 [.agg (zeo m),pZ b,pZ c] [.box b 28 (y9 h),.box c 231 [.fn (.func 188) [] [pZ b]]] (fun r h'=>h'= [.box b 28 (y9 h),.box c 231 [.fn (.func 188) [] [pZ b]]]∧r=bv (zvn h m)):=by
 refine z6 Tryz.func196 rfl rfl rfl ?_
 refine rn ?_;refine z7 rfl (w7 rfl rfl rfl fun b3=> ?_)
 refine rn ?_;refine qv rfl rfl (y4 rfl rfl (zax (zvl h 2 _ _ rfl (by decide)) (Sbs.refl _))) ?_
 refine rn ?_;refine u0 (fun hg1_4=> ?_) (fun hg1_4=> ?_)
 ·refine rn ?_;refine qv rfl rfl (y4 rfl rfl (y1.quiet (R:=fun x=>x=bv (tsB h m.ts)) (h2:= [_,_]) (List.Perm.swap _ _ _) (y1.of_acall (fs:= []) (cs:= [pZ b]) (zwm h b m.ts hl)))) ?_
  refine rn ?_;exact zal rfl (.drop1 _ _ _) ⟨rfl,congrArg bv (by first|(simp only [zvn, *,Bool.true_and,Bool.false_and,Bool.and_false,Bool.and_true,Bool.true_or,Bool.or_false,Bool.false_or,Bool.or_true,if_true,if_false,Bool.false_eq_true,Bool.not_true,Bool.not_false];done)|(simp_all [zvn];done)|(simp_all [zvn] <;> omega))⟩
 ·refine rn ?_;exact zal rfl (.drop1 _ _ _) ⟨rfl,congrArg bv (by first|(simp only [zvn, *,Bool.true_and,Bool.false_and,Bool.and_false,Bool.and_true,Bool.true_or,Bool.or_false,Bool.false_or,Bool.or_true,if_true,if_false,Bool.false_eq_true,Bool.not_true,Bool.not_false];done)|(simp_all [zvn];done)|(simp_all [zvn] <;> omega))⟩
theorem bvz5_1469 {a b:Bool} (h:a=b:=by first|(simp only [ybr, *,Bool.true_and,Bool.false_and,Bool.and_false,Bool.and_true,Bool.true_or,Bool.or_false,Bool.false_or,Bool.or_true,if_true,if_false,Bool.false_eq_true,Bool.not_true,Bool.not_false];done)|(simp_all [ybr];done)|(simp_all [ybr] <;> omega)):bv a=bv b:=congrArg bv h
theorem ye8 (h:Hist) (b c:Nat) (m:Mat) (hl:m.ts.length≤4611686018427387904):y8 Tryz.prog 198 [.agg (zee m),pZ b,pZ c] [.box b 28 (y9 h),.box c 231 [.fn (.func 188) [] [pZ b]]] (fun r h'=>h'= [.box b 28 (y9 h),.box c 231 [.fn (.func 188) [] [pZ b]]]∧r=bv (ybr h m)):=by
 refine z6 Tryz.func198 rfl rfl rfl ?_
 refine rn ?_;refine z7 rfl (w7 rfl rfl rfl fun b3=> ?_)
 refine rn ?_;refine qv rfl rfl (y4 rfl rfl (zax (zvl h 3 _ _ rfl (by decide)) (Sbs.refl _))) ?_
 refine rn ?_;refine u0 (fun hg1_4=> ?_) (fun hg1_4=> ?_)
 ·refine rn ?_;refine qv rfl rfl (y4 rfl rfl (zax (zvl h 2 _ _ rfl (by decide)) (Sbs.refl _))) ?_
  refine rn ?_;refine u0 (fun hg1_10=> ?_) (fun hg1_10=> ?_)
  ·refine rn ?_;refine qv rfl rfl (y4 rfl rfl (y1.quiet (R:=fun x=>x=bv (tsB h m.ts)) (h2:= [_,_]) (List.Perm.swap _ _ _) (y1.of_acall (fs:= []) (cs:= [pZ b]) (zwm h b m.ts hl)))) ?_
   refine rn ?_;exact zal rfl (.drop1 _ _ _) ⟨rfl,bvz5_1469⟩
  ·refine rn ?_;exact zal rfl (.drop1 _ _ _) ⟨rfl,bvz5_1469⟩
 ·refine rn ?_;exact zal rfl (.drop1 _ _ _) ⟨rfl,bvz5_1469⟩
theorem bvz6_997 {a b:Bool} (h:a=b:=by first|(simp only [yc4, *,Bool.true_and,Bool.false_and,Bool.and_false,Bool.and_true,Bool.true_or,Bool.or_false,Bool.false_or,Bool.or_true,if_true,if_false,Bool.false_eq_true,Bool.not_true,Bool.not_false];done)|(simp_all [yc4];done)|(simp_all [yc4] <;> omega)):bv a=bv b:=congrArg bv h
theorem ye7 (h:Hist) (b:Nat) (w:Wan):y8 Tryz.prog 200 [.agg (zfo w),pZ b] [.box b 28 (y9 h)] (fun r h'=>h'= [.box b 28 (y9 h)]∧r=bv (yc4 h w)):=by
 refine z6 Tryz.func200 rfl rfl rfl ?_
 refine rn ?_;refine z7 rfl (w7 rfl rfl rfl fun b2=> ?_)
 refine rn ?_;refine qv rfl rfl (y4 rfl rfl (zax (zvl h 1 _ _ rfl (by decide)) (Sbs.refl _))) ?_
 refine rn ?_;refine u0 (fun hg1_4=> ?_) (fun hg1_4=> ?_)
 ·refine rn ?_;refine u0 (fun hg1_9=> ?_) (fun hg1_9=> ?_)
  ·refine rn ?_;exact zal rfl (.drop1 _ _ _) ⟨rfl,bvz6_997⟩
  ·refine rn ?_;exact zal rfl (.drop1 _ _ _) ⟨rfl,bvz6_997⟩
 ·refine rn ?_;exact zal rfl (.drop1 _ _ _) ⟨rfl,bvz6_997⟩
theorem bvz7_7666 {a b:Bool} (h:a=b:=by first|(simp only [za4, *,Bool.true_and,Bool.false_and,Bool.and_false,Bool.and_true,Bool.true_or,Bool.or_false,Bool.false_or,Bool.or_true,if_true,if_false,Bool.false_eq_true,Bool.not_true,Bool.not_false];done)|(simp_all [za4];done)):bv a=bv b:=congrArg bv h
theorem yig (h:Hist) (la:Lim 4611686018427387904 h):y8 Tryz.prog 140 [.agg (y9 h)] [.glob 2 156 y2,.glob 4 305 y3,.glob 5 308 z8] (fun r h'=>h'= [.glob 2 156 y2,.glob 4 305 y3,.glob 5 308 z8]∧r=bv (za4 h)):=by
 refine z6 Tryz.func140 rfl rfl rfl ?_
 refine rn ?_;refine z7 rfl (w7 rfl rfl rfl fun b1=> ?_)
 refine rn ?_;refine zif ?_;refine zqi (⟨[(1,pZ b1),(3,bv (okK h 0))],.box b1 28 (y9 h):: [.glob 2 156 y2,.glob 4 305 y3,.glob 5 308 z8],[]⟩) ?_ ?_
 ·refine rn ?_;refine u0 (fun hg1_4=> ?_) (fun hg1_4=> ?_)
  ·refine rn ?_;rw [show okK h 0=_ from zs1 h,hg1_4]
   exact (v1 (.cons _ _ _ rfl (.cons _ _ _ rfl (.nil))))
  ·refine rn ?_;rw [show okK h 0=_ from zs1 h,hg1_4]
   exact (v1 (.cons _ _ _ rfl (.cons _ _ _ rfl (.nil))))
 ·refine w8 ?_;refine zt4 ?_;refine rn0 ?_;refine zqi (⟨[(3,bv (okK h 4)),(1,pZ b1)],.box b1 28 (y9 h):: [.glob 2 156 y2,.glob 4 305 y3,.glob 5 308 z8],[]⟩) ?_ ?_
  ·refine rn ?_;refine qv rfl rfl (y4 rfl rfl (zax (yf8 _) (Sbs.refl _))) ?_
   refine rn ?_;refine zab (fun k:Nat=>k≤4) (fun k=>⟨[(29,iv k),(28,.agg (zji h)),(1,pZ b1),(3,bv (okK h k))],.box b1 28 (y9 h):: [.glob 2 156 y2,.glob 4 305 y3,.glob 5 308 z8],[]⟩) (fun k=>4 - k) 0 (by omega)
    (v1 (.cons _ _ _ rfl (.cons _ _ _ rfl (.cons _ _ _ rfl (.cons _ _ _ rfl (.nil)))))) ?_
   rintro k hk
   refine rn ?_;refine y0 rfl (fun hc30=> ?_) (fun hc30=> ?_)
   ·have hk4:k < 4:=by simp at hc30;omega
    refine zbs ?_;refine zak ?_;refine w8 ?_;refine zc8 ?_;refine w8 (y6 ?_)
    refine q1 ?_;refine qq rfl rfl (zbz rfl rfl (by omega) (by have:=zxm h hk4;simpa using this)) ?_
    refine rn ?_;refine z7 rfl (zac (enc:=zwb) rfl fun b33=> ?_)
    refine rn0 ?_;refine zqi (⟨[(5,zci (nmK h k)),(3,bv (okj h k 0)),(6,.v (.map (some b33))),(29,iv k),(28,.agg (zji h)),(1,pZ b1)],.map b33 (j9 zwb []):: .box b1 28 (y9 h):: [.glob 2 156 y2,.glob 4 305 y3,.glob 5 308 z8],[]⟩) ?_ ?_
    ·refine rn ?_;refine u0 (fun hg6_1=> ?_) (fun hg6_1=> ?_)
     ·refine q1 ?_;refine q1 ?_;refine q1 ?_;refine qq rfl rfl (zah rfl rfl (by omega)) ?_
      refine qq rfl rfl (k9 rfl (zrn hk4)) ?_
      refine rn ?_;rw [ydi h k,hg6_1]
      first|exact (v1 (.cons _ _ _ rfl (.cons _ _ _ rfl (.cons _ _ _ rfl (.cons _ _ _ rfl (.cons _ _ _ rfl (.cons _ _ _ rfl (.nil))))))))|(rw [Bool.true_and];exact (v1 (.cons _ _ _ rfl (.cons _ _ _ rfl (.cons _ _ _ rfl (.cons _ _ _ rfl (.cons _ _ _ rfl (.cons _ _ _ rfl (.nil)))))))))
     ·refine rn ?_;rw [ydi h k,hg6_1]
      first|exact (v1 (.cons _ _ _ rfl (.cons _ _ _ rfl (.cons _ _ _ rfl (.cons _ _ _ rfl (.cons _ _ _ rfl (.cons _ _ _ rfl (.nil))))))))|(rw [Bool.true_and];exact (v1 (.cons _ _ _ rfl (.cons _ _ _ rfl (.cons _ _ _ rfl (.cons _ _ _ rfl (.cons _ _ _ rfl (.cons _ _ _ rfl (.nil)))))))))
    ·refine rn ?_;refine zab (fun j:Nat=>j≤(nmK h k).length∧(0 < j→okj h k 0=true)∧zeg [] (nmK h k)=zeg ((nmK h k).take j) ((nmK h k).drop j)) (fun j=>⟨[(45,iv j),(43,zci (nmK h k)),(44,iv ((nmK h k).map zfk).length),(3,bv (okj h k 0)),(6,.v (.map (some b33))),(29,iv k),(28,.agg (zji h)),(1,pZ b1)],.map b33 (j9 zwb (ydk ((nmK h k).take j))):: .box b1 28 (y9 h):: [.glob 2 156 y2,.glob 4 305 y3,.glob 5 308 z8],[]⟩) (fun j=>(nmK h k).length - j) 0 ⟨by omega,by omega,by simp⟩
      (v1 (.cons _ _ _ rfl (.cons _ _ _ rfl (.cons _ _ _ rfl (.cons _ _ _ rfl (.cons _ _ _ rfl (.cons _ _ _ rfl (.cons _ _ _ rfl (.cons _ _ _ rfl (.nil)))))))))) ?_
     rintro j ⟨hj,hok,hf⟩
     have hlk:=la.nm k
     refine rn ?_;refine y0 rfl (fun hc46=> ?_) (fun hc46=> ?_)
     ·have hj2:j < (nmK h k).length:=by simpa using hc46
      have hrow:(zci (nmK h k))= .list false 1 ((nmK h k).map zfk):=rfl
      have hrow2:((nmK h k).map zfk)[j]? =some (zfk (nmK h k)[j]):=by simp [hj2]
      have hd:=List.drop_eq_getElem_cons hj2
      refine zbs ?_;refine rn0 ?_;refine w8 ?_;refine zc8 ?_;refine w8 (y6 ?_)
      refine rn0 ?_;refine w8 ?_;refine zqi (⟨[(3,bv (okj h k 0 && zil (nmK h k)[j] && !ybk (nmK h k)[j] ((nmK h k).take j))),(8,sv (nmK h k)[j]),(45,iv j),(43,zci (nmK h k)),(44,iv ((nmK h k).map zfk).length),(6,.v (.map (some b33))),(29,iv k),(28,.agg (zji h)),(1,pZ b1)],.map b33 (j9 zwb (ydk ((nmK h k).take j))):: .box b1 28 (y9 h):: [.glob 2 156 y2,.glob 4 305 y3,.glob 5 308 z8],[]⟩) ?_ ?_
      ·refine rn ?_;refine u0 (fun hg10_1=> ?_) (fun hg10_1=> ?_)
       ·refine rn ?_;refine qv rfl rfl (y4 rfl rfl (y1.qt (y1.of_fun (yoc ((nmK h k)[j]))) ((pt3 _ _ _ _ _).trans (.cons _ (pt3 _ _ _ _ _))))) ?_
        refine rn ?_;refine u0 (fun hg10_5=> ?_) (fun hg10_5=> ?_)
        ·refine rn ?_;refine qq rfl rfl (zo7 (enc:=zwb) (k:=(nmK h k)[j]) rfl rfl (zu0 _ _)) ?_
         refine rn ?_;first|(rw [hg10_1,hg10_5];exact (v1 (.cons _ _ _ rfl (.cons _ _ _ rfl (.cons _ _ _ rfl (.cons _ _ _ rfl (.cons _ _ _ rfl (.cons _ _ _ rfl (.cons _ _ _ rfl (.cons _ _ _ rfl (.cons _ _ _ rfl (.nil))))))))))))|(rw [hg10_1];exact (v1 (.cons _ _ _ rfl (.cons _ _ _ rfl (.cons _ _ _ rfl (.cons _ _ _ rfl (.cons _ _ _ rfl (.cons _ _ _ rfl (.cons _ _ _ rfl (.cons _ _ _ rfl (.cons _ _ _ rfl (.nil))))))))))))
        ·refine rn ?_;first|(rw [hg10_1,hg10_5];exact (v1 (.cons _ _ _ rfl (.cons _ _ _ rfl (.cons _ _ _ rfl (.cons _ _ _ rfl (.cons _ _ _ rfl (.cons _ _ _ rfl (.cons _ _ _ rfl (.cons _ _ _ rfl (.cons _ _ _ rfl (.nil))))))))))))|(rw [hg10_1];exact (v1 (.cons _ _ _ rfl (.cons _ _ _ rfl (.cons _ _ _ rfl (.cons _ _ _ rfl (.cons _ _ _ rfl (.cons _ _ _ rfl (.cons _ _ _ rfl (.cons _ _ _ rfl (.cons _ _ _ rfl (.nil))))))))))))
       ·refine rn ?_;first|(rw [hg10_1,hg10_5];exact (v1 (.cons _ _ _ rfl (.cons _ _ _ rfl (.cons _ _ _ rfl (.cons _ _ _ rfl (.cons _ _ _ rfl (.cons _ _ _ rfl (.cons _ _ _ rfl (.cons _ _ _ rfl (.cons _ _ _ rfl (.nil))))))))))))|(rw [hg10_1];exact (v1 (.cons _ _ _ rfl (.cons _ _ _ rfl (.cons _ _ _ rfl (.cons _ _ _ rfl (.cons _ _ _ rfl (.cons _ _ _ rfl (.cons _ _ _ rfl (.cons _ _ _ rfl (.cons _ _ _ rfl (.nil))))))))))))
      ·refine rn ?_;refine y0 rfl (fun hc61=> ?_) (fun hc61=> ?_)
       ·have hfl:(okj h k 0 && zil (nmK h k)[j] && !ybk (nmK h k)[j] ((nmK h k).take j))=false:=ybg hc61
        have hbad:okK h 4=false:=yjm hk4 (ymv (hf.trans (by rw [hd])) hfl)
        refine rn ?_;first
         |exact (v1 (.cons _ _ _ rfl (.cons _ _ _ rfl (.nil))))
         |(rw [hbad,←hfl];exact (v6 (zb3 (h1:= [_])) (v1 (.cons _ _ _ rfl (.cons _ _ _ rfl (.nil))))))
       ·obtain ⟨hok2,hw,hfresh⟩:=yjn (ybh hc61)
        refine rn ?_;refine z7 rfl (zjh (enc:=zwb) (k:=(nmK h k)[j]) rfl rfl rfl ?_)
        refine rn ?_;have hu:=zss ((nmK h k)[j]) ((nmK h k).take j) (yjs.1 hfresh)
        rw [←List.take_succ_eq_append_getElem hj2] at hu
        exact ⟨j+1,⟨by omega,fun _=>hok2,by rw [hf,hd,zeg,hw,List.take_succ_eq_append_getElem hj2];simp [hfresh]⟩,by simp only [hu,hok2,hw,hfresh,Bool.true_and,Bool.not_false];exact (v1 (.cons _ _ _ rfl (.cons _ _ _ rfl (.cons _ _ _ rfl (.cons _ _ _ rfl (.cons _ _ _ rfl (.cons _ _ _ rfl (.cons _ _ _ rfl (.cons _ _ _ rfl (.nil)))))))))),by omega⟩
     ·have hj3:j=(nmK h k).length:=by
       have:(nmK h k).length≤j:=by simpa using hc46
       omega
      refine rn ?_;have hend:=yjl (h:=h) (k:=k) (by rw [hf,hj3,List.drop_length];rfl)
      exact ⟨k+1,by omega,by rw [←hend];exact (v6 (zb3 (h1:= [_])) (v1 (.cons _ _ _ rfl (.cons _ _ _ rfl (.cons _ _ _ rfl (.cons _ _ _ rfl (.nil))))))),by omega⟩
   ·have hk4:k=4:=by simp at hc30;omega
    subst hk4
    refine rn ?_;first
     |exact (v1 (.cons _ _ _ rfl (.cons _ _ _ rfl (.nil))))
     |(rw [hbad,←hfl];exact (v6 (zb3 (h1:= [_])) (v1 (.cons _ _ _ rfl (.cons _ _ _ rfl (.nil))))))
  ·refine rn ?_;refine z7 rfl (y7 rfl fun b9=> ?_)
   refine rn ?_;refine u0 (fun hg16_1=> ?_) (fun hg16_1=> ?_)
   ·refine rn ?_;refine qv rfl rfl (y4 rfl rfl (y1.of_fun (yns h.evs (.fn (.func 193) [] [pZ b1]) (zdq h) (.box b9 231 [.fn (.func 188) [] [pZ b1]]:: .box b1 28 (y9 h):: [.glob 2 156 y2,.glob 4 305 y3,.glob 5 308 z8]) rfl (fun e he=>y1.qt (y1.of_acall (fs:= []) (cs:= [pZ b1]) (yfa h b1 e (la.scans e he))) (pt1 _ _ _)) la.evs))) ?_
    refine rn ?_;refine u0 (fun hg16_7=> ?_) (fun hg16_7=> ?_)
    ·refine rn ?_;refine qv rfl rfl (y4 rfl rfl (y1.of_fun (ylc h.ords (.fn (.func 196) [] [pZ b1,pZ b9]) (zvn h) (.box b9 231 [.fn (.func 188) [] [pZ b1]]:: .box b1 28 (y9 h):: [.glob 2 156 y2,.glob 4 305 y3,.glob 5 308 z8]) rfl (fun e he=>y1.qt (y1.of_acall (fs:= []) (cs:= [pZ b1,pZ b9]) (ye9 h b1 b9 e (la.ordts e he))) (pt1 _ _ _)) la.ords))) ?_
     refine rn ?_;refine u0 (fun hg16_13=> ?_) (fun hg16_13=> ?_)
     ·refine rn ?_;refine qv rfl rfl (y4 rfl rfl (y1.of_fun (yld h.mats (.fn (.func 198) [] [pZ b1,pZ b9]) (ybr h) (.box b9 231 [.fn (.func 188) [] [pZ b1]]:: .box b1 28 (y9 h):: [.glob 2 156 y2,.glob 4 305 y3,.glob 5 308 z8]) rfl (fun e he=>y1.qt (y1.of_acall (fs:= []) (cs:= [pZ b1,pZ b9]) (ye8 h b1 b9 e (la.matts e he))) (pt1 _ _ _)) la.mats))) ?_
      refine rn ?_;refine u0 (fun hg16_19=> ?_) (fun hg16_19=> ?_)
      ·refine rn ?_;refine qv rfl rfl (y4 rfl rfl (y1.of_fun (ylb h.wants (.fn (.func 200) [] [pZ b1]) (yc4 h) (.box b9 231 [.fn (.func 188) [] [pZ b1]]:: .box b1 28 (y9 h):: [.glob 2 156 y2,.glob 4 305 y3,.glob 5 308 z8]) rfl (fun e he=>y1.qt (y1.of_acall (fs:= []) (cs:= [pZ b1]) (ye7 h b1 e)) (pt1 _ _ _)) la.wants))) ?_
       refine rn ?_;refine ⟨fun l h=>(by cases h),?_⟩
       exact zal rfl (.drop [_,_] _ _) ⟨rfl,bvz7_7666⟩
      ·refine rn ?_;refine ⟨fun l h=>(by cases h),?_⟩
       exact zal rfl (.drop [_,_] _ _) ⟨rfl,bvz7_7666⟩
     ·refine rn ?_;refine ⟨fun l h=>(by cases h),?_⟩
      exact zal rfl (.drop [_,_] _ _) ⟨rfl,bvz7_7666⟩
    ·refine rn ?_;refine ⟨fun l h=>(by cases h),?_⟩
     exact zal rfl (.drop [_,_] _ _) ⟨rfl,bvz7_7666⟩
   ·refine rn ?_;refine ⟨fun l h=>(by cases h),?_⟩
    exact zal rfl (.drop [_,_] _ _) ⟨rfl,bvz7_7666⟩
theorem zun {σ:Type} (step:σ→Nat×Int→Option σ) (ok:Nat×Int→Prop) (IJ:Option σ→List Res→Prop) (y:AV) (hy:∀(s:σ) (L:List Res) (sort:Nat) (n:Int) (cells:List AV),ok (sort,n)→IJ (some s) L→y1 Tryz.prog y [iv sort,.pp (iv n::cells)] L (fun r h'=>r=bv (step s (sort,n)).isSome∧IJ (step s (sort,n)) h')) (sort:Nat) (n:Int) (hs:ok (sort,n)) (cells:List AV) (bm by_:Nat) (st:Option σ) (L:List Res) (hI:IJ st L):y8 Tryz.prog 202 [iv sort,.pp (iv n::cells),pZ bm,pZ by_] (.box bm 4 [bv (st).isSome]:: .box by_ 239 [y]::L) (fun r h'=>∃L',IJ (goes step st [(sort,n)]) L'∧h'= .box bm 4 [bv (goes step st [(sort,n)]).isSome]:: .box by_ 239 [y]::L'):=by
 refine z6 Tryz.func202 rfl rfl rfl ?_
 refine rn ?_;refine u0 (fun hg0_1=> ?_) (fun hg0_1=> ?_)
 ·refine rn ?_;obtain ⟨s,rfl⟩:=Option.isSome_iff_exists.1 hg0_1
  refine z7 rfl (q7 rfl rfl (y1.fr2 (hy s L sort n cells hs hI)) rfl ?_)
  rintro _ _ ⟨L2,rfl,rfl,hI2⟩
  refine rn ?_;first
   |exact zc3 .nil (.refl _ _) ⟨L2,hI2,rfl⟩
   |(obtain rfl:=Option.not_isSome_iff_eq_none.1 (show ¬st.isSome=true by simp [hg0_1])
     exact zc3 .nil (.refl _ _) ⟨L,hI,rfl⟩)
 ·refine rn ?_;first
   |exact zc3 .nil (.refl _ _) ⟨L2,hI2,rfl⟩
   |(obtain rfl:=Option.not_isSome_iff_eq_none.1 (show ¬st.isSome=true by simp [hg0_1])
     exact zc3 .nil (.refl _ _) ⟨L,hI,rfl⟩)
theorem ygk {σ:Type} (step:σ→Nat×Int→Option σ) (ok:Nat×Int→Prop) (IJ:Option σ→List Res→Prop) (y:AV) (hy:∀(s:σ) (L:List Res) (sort:Nat) (n:Int) (cells:List AV),ok (sort,n)→IJ (some s) L→y1 Tryz.prog y [iv sort,.pp (iv n::cells)] L (fun r h'=>r=bv (step s (sort,n)).isSome∧IJ (step s (sort,n)) h')) (v:Ver) (hv:∀x∈zf2 v,ok x) (cells:List AV) (bs bm by_:Nat) (st:Option σ) (L:List Res) (hI:IJ st L):y8 Tryz.prog 203 [.pp (iv v.t::iv v.k::cells),pZ bs] (.box bs 240 [.fn (.func 202) [] [pZ bm,pZ by_]]:: .box bm 4 [bv (st).isSome]:: .box by_ 239 [y]::L) (fun r h'=>∃L',IJ (goes step st (zf2 v)) L'∧h'= .box bs 240 [.fn (.func 202) [] [pZ bm,pZ by_]]:: .box bm 4 [bv (goes step st (zf2 v)).isSome]:: .box by_ 239 [y]::L'):=by
 refine z6 Tryz.func203 rfl rfl rfl ?_
 refine rn ?_;refine y0 rfl (fun hc7=> ?_) (fun hc7=> ?_)
 ·refine j4 4 rfl ?_
  refine rn ?_;refine z7 rfl (q7 rfl rfl (y1.fr1 (y1.of_acall (fs:= []) (cs:= [pZ bm,pZ by_]) (zun step ok IJ y hy 0 v.t (hv _ (by rw [zf2,if_pos hc7];simp)) (iv v.k::cells) bm by_ _ _ hI))) rfl ?_)
  rintro _ _ ⟨_,rfl,L2,hI2,rfl⟩
  refine rn ?_;first
   |(have hm:zf2 v= [(0,v.t)]:=by rw [zf2,if_pos hc7]
     rw [hm];exact zc3 .nil (.refl _ _) ⟨L2,hI2,rfl⟩)
   |(have hm:zf2 v= []:=by rw [zf2,if_neg (by rw [hc7];decide)]
     rw [hm];exact zc3 .nil (.refl _ _) ⟨L,hI,rfl⟩)
 ·refine rn ?_;first
   |(have hm:zf2 v= [(0,v.t)]:=by rw [zf2,if_pos hc7]
     rw [hm];exact zc3 .nil (.refl _ _) ⟨L2,hI2,rfl⟩)
   |(have hm:zf2 v= []:=by rw [zf2,if_neg (by rw [hc7];decide)]
     rw [hm];exact zc3 .nil (.refl _ _) ⟨L,hI,rfl⟩)
theorem ye3 {σ:Type} (step:σ→Nat×Int→Option σ) (ok:Nat×Int→Prop) (IJ:Option σ→List Res→Prop) (y:AV) (hone:y.cellsOf=some [y]) (hy:∀(s:σ) (L:List Res) (sort:Nat) (n:Int) (cells:List AV),ok (sort,n)→IJ (some s) L→y1 Tryz.prog y [iv sort,.pp (iv n::cells)] L (fun r h'=>r=bv (step s (sort,n)).isSome∧IJ (step s (sort,n)) h')) (h:Hist) (la:Lim 4611686018427387904 h) (b1 bh:Nat) (hok:∀x∈zcy h,ok x) (s0:σ) (L0:List Res) (h0:IJ (some s0) L0):y8 Tryz.prog 201 [y,pZ b1] (.box b1 184 [pZ bh]:: .box bh 28 (y9 h)::L0) (fun r h'=>∃L',IJ (goes step (some s0) (zcy h)) L'∧h'= .box b1 184 [pZ bh]:: .box bh 28 (y9 h)::L'):=by
 refine z6 Tryz.func201 rfl rfl rfl ?_
 refine rn ?_;refine z7 rfl (w7 rfl hone rfl fun by_=> ?_)
 refine rn ?_;refine z7 rfl (y7 rfl fun bm=> ?_)
 refine rn ?_;refine z7 rfl (y7 rfl fun bs=> ?_)
 refine rn ?_;refine zab (fun x:Nat×Option σ×List Res=>x.1≤h.evs.length∧IJ x.2.1 x.2.2∧Rem step ok x.2.1 (((h.evs.drop x.1).flatMap evL)++(h.ords.flatMap yf1++(h.mats.flatMap ybo++h.wants.flatMap zzt))) (goes step (some s0) (zcy h))) (fun x=>⟨[(22,iv x.1),(21,iv (h.evs.map evR).length),(1,pZ b1),(4,pZ bs),(5,.fn (.func 203) [] [pZ bs])],.box b1 184 [pZ bh]:: .box bh 28 (y9 h):: .box bs 240 [.fn (.func 202) [] [pZ bm,pZ by_]]:: .box bm 4 [bv (x.2.1).isSome]:: .box by_ 239 [y]::x.2.2,[]⟩) (fun x=>h.evs.length - x.1) (0,some s0,L0) ⟨by omega,h0,rfl,hok⟩
  (v6 (zas ((pt3 _ _ _ _ _).trans (.cons _ (pt3 _ _ _ _ _)))) (v1 (.cons _ _ _ rfl (.cons _ _ _ rfl (.cons _ _ _ rfl (.cons _ _ _ rfl (.cons _ _ _ rfl (.nil)))))))) ?_
 rintro ⟨k,st,L⟩ ⟨hk,hI,hF⟩
 simp only at hk hI hF
 refine rn ?_;refine y0 rfl (fun hc23=> ?_) (fun hc23=> ?_)
 ·have k2:k < h.evs.length:=by simpa using hc23
  obtain ⟨e,he⟩:∃e,e=h.evs[k]:=⟨_,rfl⟩
  have hrowe:(h.evs.map evR)[k]? =some (evR e):=by rw [he];simp [k2]
  have hde:=List.drop_eq_getElem_cons k2
  rw [hde,←he] at hF
  simp only [List.flatMap_cons,evL,List.cons_append,List.append_assoc] at hF
  obtain ⟨hx,hF⟩:=hF.cons
  obtain ⟨hkx,hF⟩:=hF.app
  have hle:=la.evs
  have hls:=la.scans e (by rw [he];simp)
  refine rn ?_;refine j4 4 rfl ?_
  refine rn ?_;refine z7 rfl (q7 rfl rfl (y1.fr3 (y1.of_acall (fs:= []) (cs:= [pZ bm,pZ by_]) (zun step ok IJ y hy 0 e.t hx _ bm by_ _ _ hI))) rfl ?_)
  rintro _ _ ⟨_,rfl,L,hI,rfl⟩
  refine rn0 ?_;refine zzc (fun L=>IJ (goes step (goes step st [(0,e.t)]) (zf5 e)) L) (fun L=>⟨[(7,.pp (evR e)),(22,iv k),(21,iv (h.evs.map evR).length),(1,pZ b1),(4,pZ bs),(5,.fn (.func 203) [] [pZ bs])],.box b1 184 [pZ bh]:: .box bh 28 (y9 h):: .box bs 240 [.fn (.func 202) [] [pZ bm,pZ by_]]:: .box bm 4 [bv (goes step (goes step st [(0,e.t)]) (zf5 e)).isSome]:: .box by_ 239 [y]::L,[]⟩) ?_ ?_
  ·refine rn ?_;refine y0 rfl (fun hc40=> ?_) (fun hc40=> ?_)
   ·have hkl:=zx3 (e:=e) (by simpa using hc40)
    refine j4 4 rfl ?_
    refine rn ?_;refine z7 rfl (q7 rfl rfl (y1.fr3 (y1.of_acall (fs:= []) (cs:= [pZ bm,pZ by_]) (zun step ok IJ y hy 1 e.s (hkx _ (by rw [hkl];simp)) _ bm by_ _ _ hI))) rfl ?_)
    rintro _ _ ⟨_,rfl,L,hI,rfl⟩
    refine rn ?_;refine ⟨L,?_,?_⟩
    ·show IJ (goes step _ (zf5 e)) L
     rw [hkl];exact hI
    ·rw [hkl];exact (v1 (.cons _ _ _ rfl (.cons _ _ _ rfl (.cons _ _ _ rfl (.cons _ _ _ rfl (.cons _ _ _ rfl (.cons _ _ _ rfl (.nil))))))))
   ·have hn1:e.kind≠1:=by simpa using hc40
    refine rn ?_;refine y0 rfl (fun hc47=> ?_) (fun hc47=> ?_)
    ·have hk23:e.kind=2∨e.kind=3:=by simp at hc47;omega
     have hkl:=zld hk23
     refine rn ?_;refine y0 rfl (fun hc47=> ?_) (fun hc47=> ?_)
     ·have hk23:e.kind=2∨e.kind=3:=by simp at hc47;omega
      have hkl:=zld hk23
      refine rn ?_;refine j4 4 rfl ?_
      refine rn ?_;refine z7 rfl (q7 rfl rfl (y1.fr3 (y1.of_acall (fs:= []) (cs:= [pZ bm,pZ by_]) (zun step ok IJ y hy 2 e.o (hkx _ (by rw [hkl];simp)) _ bm by_ _ _ hI))) rfl ?_)
      rintro _ _ ⟨_,rfl,L,hI,rfl⟩
      refine rn ?_;refine z7 rfl (q7 rfl rfl (y1.fr2 (y1.of_acall (fs:= []) (cs:= [pZ bs]) (ygk step ok IJ y hy e.v (fun x hx=>hkx x (by rw [hkl];simp [hx])) _ bs bm by_ _ _ hI))) rfl ?_)
      rintro _ _ ⟨_,rfl,L,hI,rfl⟩
      refine rn ?_;refine ⟨L,?_,?_⟩
      ·show IJ (goes step _ (zf5 e)) L
       rw [hkl];exact hI
      ·rw [hkl];exact (v1 (.cons _ _ _ rfl (.cons _ _ _ rfl (.cons _ _ _ rfl (.cons _ _ _ rfl (.cons _ _ _ rfl (.cons _ _ _ rfl (.nil))))))))
     ·first|cases hc47|exact absurd hc47 (by decide)|(exfalso;simp_all;done)
    ·have hn23:=hc47
     simp at hn23
     refine rn ?_;refine y0 rfl (fun hc47=> ?_) (fun hc47=> ?_)
     ·have hk23:e.kind=2∨e.kind=3:=by simp at hc47;omega
      have hkl:=zld hk23
      refine rn ?_;refine j4 4 rfl ?_
      refine rn ?_;refine z7 rfl (q7 rfl rfl (y1.fr3 (y1.of_acall (fs:= []) (cs:= [pZ bm,pZ by_]) (zun step ok IJ y hy 2 e.o (hkx _ (by rw [hkl];simp)) _ bm by_ _ _ hI))) rfl ?_)
      rintro _ _ ⟨_,rfl,L,hI,rfl⟩
      refine rn ?_;refine z7 rfl (q7 rfl rfl (y1.fr2 (y1.of_acall (fs:= []) (cs:= [pZ bs]) (ygk step ok IJ y hy e.v (fun x hx=>hkx x (by rw [hkl];simp [hx])) _ bs bm by_ _ _ hI))) rfl ?_)
      rintro _ _ ⟨_,rfl,L,hI,rfl⟩
      refine rn ?_;refine ⟨L,?_,?_⟩
      ·show IJ (goes step _ (zf5 e)) L
       rw [hkl];exact hI
      ·rw [hkl];exact (v1 (.cons _ _ _ rfl (.cons _ _ _ rfl (.cons _ _ _ rfl (.cons _ _ _ rfl (.cons _ _ _ rfl (.cons _ _ _ rfl (.nil))))))))
     ·have hn23:=hc47
      simp at hn23
      refine rn ?_;refine y0 rfl (fun hc60=> ?_) (fun hc60=> ?_)
      ·have hkl:=zx2 (e:=e) (by simpa using hc60)
       refine j4 4 rfl ?_
       refine rn ?_;refine z7 rfl (q7 rfl rfl (y1.fr3 (y1.of_acall (fs:= []) (cs:= [pZ bm,pZ by_]) (zun step ok IJ y hy 3 e.p (hkx _ (by rw [hkl];simp)) _ bm by_ _ _ hI))) rfl ?_)
       rintro _ _ ⟨_,rfl,L,hI,rfl⟩
       refine rn ?_;refine ⟨L,?_,?_⟩
       ·show IJ (goes step _ (zf5 e)) L
        rw [hkl];exact hI
       ·rw [hkl];exact (v1 (.cons _ _ _ rfl (.cons _ _ _ rfl (.cons _ _ _ rfl (.cons _ _ _ rfl (.cons _ _ _ rfl (.cons _ _ _ rfl (.nil))))))))
      ·have hn4:e.kind≠4:=by simpa using hc60
       have hkl:=zx4 (e:=e) hn1 (by omega) (by omega) hn4
       refine rn ?_;refine ⟨L,?_,?_⟩
       ·show IJ (goes step _ (zf5 e)) L
        rw [hkl];exact hI
       ·rw [hkl];exact (v1 (.cons _ _ _ rfl (.cons _ _ _ rfl (.cons _ _ _ rfl (.cons _ _ _ rfl (.cons _ _ _ rfl (.cons _ _ _ rfl (.nil))))))))
  ·rintro L hI
   revert hI hF
   generalize goes step (goes step st [(0,e.t)]) (zf5 e)=st2
   intro hF hI
   refine rn ?_;refine zab (fun x:Nat×Option σ×List Res=>x.1≤e.scan.length∧IJ x.2.1 x.2.2∧Rem step ok x.2.1 (((e.scan.drop x.1).flatMap zwo)++(((h.evs.drop (k+1)).flatMap evL)++(h.ords.flatMap yf1++(h.mats.flatMap ybo++h.wants.flatMap zzt)))) (goes step (some s0) (zcy h))) (fun x=>⟨[(72,iv x.1),(71,iv (e.scan.map zav).length),(7,.pp (evR e)),(22,iv k),(21,iv (h.evs.map evR).length),(1,pZ b1),(4,pZ bs),(5,.fn (.func 203) [] [pZ bs])],.box b1 184 [pZ bh]:: .box bh 28 (y9 h):: .box bs 240 [.fn (.func 202) [] [pZ bm,pZ by_]]:: .box bm 4 [bv (x.2.1).isSome]:: .box by_ 239 [y]::x.2.2,[]⟩) (fun x=>e.scan.length - x.1) (0,st2,L) ⟨by omega,hI,hF⟩
    (v1 (.cons _ _ _ rfl (.cons _ _ _ rfl (.cons _ _ _ rfl (.cons _ _ _ rfl (.cons _ _ _ rfl (.cons _ _ _ rfl (.cons _ _ _ rfl (.cons _ _ _ rfl (.nil)))))))))) ?_
   rintro ⟨j,st,L⟩ ⟨hj,hI,hF⟩
   simp only at hj hI hF
   refine rn ?_;refine y0 rfl (fun hc73=> ?_) (fun hc73=> ?_)
   ·have j2:j < e.scan.length:=by simpa using hc73
    obtain ⟨x,hx⟩:∃x,x=e.scan[j]:=⟨_,rfl⟩
    have hrowx:(e.scan.map zav)[j]? =some (zav x):=by rw [hx];simp [j2]
    have hdx:=List.drop_eq_getElem_cons j2
    rw [hdx,←hx] at hF
    simp only [List.flatMap_cons,zwo,List.cons_append,List.append_assoc] at hF
    obtain ⟨hx,hF⟩:=hF.cons
    obtain ⟨hkx,hF⟩:=hF.app
    refine rn ?_;refine j4 8 rfl ?_
    refine rn ?_;refine z7 rfl (q7 rfl rfl (y1.fr3 (y1.of_acall (fs:= []) (cs:= [pZ bm,pZ by_]) (zun step ok IJ y hy 2 x.o hx _ bm by_ _ _ hI))) rfl ?_)
    rintro _ _ ⟨_,rfl,L,hI,rfl⟩
    refine rn ?_;refine z7 rfl (q7 rfl rfl (y1.fr2 (y1.of_acall (fs:= []) (cs:= [pZ bs]) (ygk step ok IJ y hy x.v hkx _ bs bm by_ _ _ hI))) rfl ?_)
    rintro _ _ ⟨_,rfl,L,hI,rfl⟩
    refine rn ?_;exact ⟨(j+1,_,L),⟨by omega,hI,hF⟩,(v1 (.cons _ _ _ rfl (.cons _ _ _ rfl (.cons _ _ _ rfl (.cons _ _ _ rfl (.cons _ _ _ rfl (.cons _ _ _ rfl (.cons _ _ _ rfl (.cons _ _ _ rfl (.nil)))))))))),by simp only;omega⟩
   ·obtain rfl:j=e.scan.length:=by
     have:e.scan.length≤j:=by simpa using hc73
     omega
    rw [List.drop_length,List.flatMap_nil,List.nil_append] at hF
    refine rn ?_;exact ⟨(k+1,_,L),⟨by omega,hI,hF⟩,(v1 (.cons _ _ _ rfl (.cons _ _ _ rfl (.cons _ _ _ rfl (.cons _ _ _ rfl (.cons _ _ _ rfl (.nil))))))),by simp only;omega⟩
 ·obtain rfl:k=h.evs.length:=by
   have:h.evs.length≤k:=by simpa using hc23
   omega
  rw [List.drop_length,List.flatMap_nil,List.nil_append] at hF
  refine rn ?_;refine zab (fun x:Nat×Option σ×List Res=>x.1≤h.ords.length∧IJ x.2.1 x.2.2∧Rem step ok x.2.1 (((h.ords.drop x.1).flatMap yf1)++(h.mats.flatMap ybo++h.wants.flatMap zzt)) (goes step (some s0) (zcy h))) (fun x=>⟨[(100,iv x.1),(99,iv (h.ords.map zeo).length),(1,pZ b1),(4,pZ bs),(5,.fn (.func 203) [] [pZ bs])],.box b1 184 [pZ bh]:: .box bh 28 (y9 h):: .box bs 240 [.fn (.func 202) [] [pZ bm,pZ by_]]:: .box bm 4 [bv (x.2.1).isSome]:: .box by_ 239 [y]::x.2.2,[]⟩) (fun x=>h.ords.length - x.1) (0,st,L) ⟨by omega,hI,hF⟩
   (v1 (.cons _ _ _ rfl (.cons _ _ _ rfl (.cons _ _ _ rfl (.cons _ _ _ rfl (.cons _ _ _ rfl (.nil))))))) ?_
  rintro ⟨k,st,L⟩ ⟨hk,hI,hF⟩
  simp only at hk hI hF
  refine rn ?_;refine y0 rfl (fun hc101=> ?_) (fun hc101=> ?_)
  ·have k2:k < h.ords.length:=by simpa using hc101
   obtain ⟨r,hr⟩:∃r,r=h.ords[k]:=⟨_,rfl⟩
   have hrowr:(h.ords.map zeo)[k]? =some (zeo r):=by rw [hr];simp [k2]
   have hdr:=List.drop_eq_getElem_cons k2
   rw [hdr,←hr] at hF
   simp only [List.flatMap_cons,yf1,List.cons_append,List.append_assoc] at hF
   obtain ⟨hx,hF⟩:=hF.cons
   have hle:=la.ords
   have hls:=la.ordts r (by rw [hr];simp)
   refine rn ?_;refine j4 8 rfl ?_
   refine rn ?_;refine z7 rfl (q7 rfl rfl (y1.fr3 (y1.of_acall (fs:= []) (cs:= [pZ bm,pZ by_]) (zun step ok IJ y hy 2 r.o hx _ bm by_ _ _ hI))) rfl ?_)
   rintro _ _ ⟨_,rfl,L,hI,rfl⟩
   refine rn ?_;refine zab (fun x:Nat×Option σ×List Res=>x.1≤r.ts.length∧IJ x.2.1 x.2.2∧Rem step ok x.2.1 (((r.ts.drop x.1).map fun t=>((0:Nat),t))++(((h.ords.drop (k+1)).flatMap yf1)++(h.mats.flatMap ybo++h.wants.flatMap zzt))) (goes step (some s0) (zcy h))) (fun x=>⟨[(121,iv x.1),(120,iv (r.ts.map za9).length),(9,iv k),(100,iv k),(99,iv (h.ords.map zeo).length),(1,pZ b1),(4,pZ bs),(5,.fn (.func 203) [] [pZ bs])],.box b1 184 [pZ bh]:: .box bh 28 (y9 h):: .box bs 240 [.fn (.func 202) [] [pZ bm,pZ by_]]:: .box bm 4 [bv (x.2.1).isSome]:: .box by_ 239 [y]::x.2.2,[]⟩) (fun x=>r.ts.length - x.1) (0,_,L) ⟨by omega,hI,hF⟩
    (v1 (.cons _ _ _ rfl (.cons _ _ _ rfl (.cons _ _ _ rfl (.cons _ _ _ rfl (.cons _ _ _ rfl (.cons _ _ _ rfl (.cons _ _ _ rfl (.cons _ _ _ rfl (.nil)))))))))) ?_
   rintro ⟨j,st,L⟩ ⟨hj,hI,hF⟩
   simp only at hj hI hF
   refine rn ?_;refine y0 rfl (fun hc122=> ?_) (fun hc122=> ?_)
   ·have j2:j < r.ts.length:=by simpa using hc122
    obtain ⟨t,ht⟩:∃t,t=r.ts[j]:=⟨_,rfl⟩
    have hrowt:(r.ts.map za9)[j]? =some (za9 t):=by rw [ht];simp [j2]
    have hdt:=List.drop_eq_getElem_cons j2
    rw [hdt,←ht] at hF
    simp only [List.map_cons,List.cons_append] at hF
    obtain ⟨hx,hF⟩:=hF.cons
    refine rn ?_;refine j4 11 rfl ?_
    refine rn ?_;refine z7 rfl (q7 rfl rfl (y1.fr3 (y1.of_acall (fs:= []) (cs:= [pZ bm,pZ by_]) (zun step ok IJ y hy 0 t hx _ bm by_ _ _ hI))) rfl ?_)
    rintro _ _ ⟨_,rfl,L,hI,rfl⟩
    refine rn ?_;exact ⟨(j+1,_,L),⟨by omega,hI,hF⟩,(v1 (.cons _ _ _ rfl (.cons _ _ _ rfl (.cons _ _ _ rfl (.cons _ _ _ rfl (.cons _ _ _ rfl (.cons _ _ _ rfl (.cons _ _ _ rfl (.cons _ _ _ rfl (.nil)))))))))),by simp only;omega⟩
   ·obtain rfl:j=r.ts.length:=by
     have:r.ts.length≤j:=by simpa using hc122
     omega
    rw [List.drop_length,List.map_nil,List.nil_append] at hF
    refine rn ?_;exact ⟨(k+1,_,L),⟨by omega,hI,hF⟩,(v1 (.cons _ _ _ rfl (.cons _ _ _ rfl (.cons _ _ _ rfl (.cons _ _ _ rfl (.cons _ _ _ rfl (.nil))))))),by simp only;omega⟩
  ·obtain rfl:k=h.ords.length:=by
    have:h.ords.length≤k:=by simpa using hc101
    omega
   rw [List.drop_length,List.flatMap_nil,List.nil_append] at hF
   refine rn ?_;refine zab (fun x:Nat×Option σ×List Res=>x.1≤h.mats.length∧IJ x.2.1 x.2.2∧Rem step ok x.2.1 (((h.mats.drop x.1).flatMap ybo)++h.wants.flatMap zzt) (goes step (some s0) (zcy h))) (fun x=>⟨[(143,iv x.1),(142,iv (h.mats.map zee).length),(1,pZ b1),(4,pZ bs),(5,.fn (.func 203) [] [pZ bs])],.box b1 184 [pZ bh]:: .box bh 28 (y9 h):: .box bs 240 [.fn (.func 202) [] [pZ bm,pZ by_]]:: .box bm 4 [bv (x.2.1).isSome]:: .box by_ 239 [y]::x.2.2,[]⟩) (fun x=>h.mats.length - x.1) (0,st,L) ⟨by omega,hI,hF⟩
    (v1 (.cons _ _ _ rfl (.cons _ _ _ rfl (.cons _ _ _ rfl (.cons _ _ _ rfl (.cons _ _ _ rfl (.nil))))))) ?_
   rintro ⟨k,st,L⟩ ⟨hk,hI,hF⟩
   simp only at hk hI hF
   refine rn ?_;refine y0 rfl (fun hc144=> ?_) (fun hc144=> ?_)
   ·have k2:k < h.mats.length:=by simpa using hc144
    obtain ⟨r,hr⟩:∃r,r=h.mats[k]:=⟨_,rfl⟩
    have hrowr:(h.mats.map zee)[k]? =some (zee r):=by rw [hr];simp [k2]
    have hdr:=List.drop_eq_getElem_cons k2
    rw [hdr,←hr] at hF
    simp only [List.flatMap_cons,ybo,List.cons_append,List.append_assoc] at hF
    obtain ⟨hx,hF⟩:=hF.cons
    obtain ⟨hx2,hF⟩:=hF.cons
    have hle:=la.mats
    have hls:=la.matts r (by rw [hr];simp)
    refine rn ?_;refine j4 4 rfl ?_
    refine rn ?_;refine z7 rfl (q7 rfl rfl (y1.fr3 (y1.of_acall (fs:= []) (cs:= [pZ bm,pZ by_]) (zun step ok IJ y hy 3 r.p hx _ bm by_ _ _ hI))) rfl ?_)
    rintro _ _ ⟨_,rfl,L,hI,rfl⟩
    refine rn ?_;refine j4 4 rfl ?_
    refine rn ?_;refine z7 rfl (q7 rfl rfl (y1.fr3 (y1.of_acall (fs:= []) (cs:= [pZ bm,pZ by_]) (zun step ok IJ y hy 2 r.o hx2 _ bm by_ _ _ hI))) rfl ?_)
    rintro _ _ ⟨_,rfl,L,hI,rfl⟩
    refine rn ?_;refine zab (fun x:Nat×Option σ×List Res=>x.1≤r.ts.length∧IJ x.2.1 x.2.2∧Rem step ok x.2.1 (((r.ts.drop x.1).map fun t=>((0:Nat),t))++(((h.mats.drop (k+1)).flatMap ybo)++h.wants.flatMap zzt)) (goes step (some s0) (zcy h))) (fun x=>⟨[(167,iv x.1),(166,iv (r.ts.map za9).length),(12,.pp (zee r)),(143,iv k),(142,iv (h.mats.map zee).length),(1,pZ b1),(4,pZ bs),(5,.fn (.func 203) [] [pZ bs])],.box b1 184 [pZ bh]:: .box bh 28 (y9 h):: .box bs 240 [.fn (.func 202) [] [pZ bm,pZ by_]]:: .box bm 4 [bv (x.2.1).isSome]:: .box by_ 239 [y]::x.2.2,[]⟩) (fun x=>r.ts.length - x.1) (0,_,L) ⟨by omega,hI,hF⟩
     (v1 (.cons _ _ _ rfl (.cons _ _ _ rfl (.cons _ _ _ rfl (.cons _ _ _ rfl (.cons _ _ _ rfl (.cons _ _ _ rfl (.cons _ _ _ rfl (.cons _ _ _ rfl (.nil)))))))))) ?_
    rintro ⟨j,st,L⟩ ⟨hj,hI,hF⟩
    simp only at hj hI hF
    refine rn ?_;refine y0 rfl (fun hc168=> ?_) (fun hc168=> ?_)
    ·have j2:j < r.ts.length:=by simpa using hc168
     obtain ⟨t,ht⟩:∃t,t=r.ts[j]:=⟨_,rfl⟩
     have hrowt:(r.ts.map za9)[j]? =some (za9 t):=by rw [ht];simp [j2]
     have hdt:=List.drop_eq_getElem_cons j2
     rw [hdt,←ht] at hF
     simp only [List.map_cons,List.cons_append] at hF
     obtain ⟨hx,hF⟩:=hF.cons
     refine rn ?_;refine j4 7 rfl ?_
     refine rn ?_;refine z7 rfl (q7 rfl rfl (y1.fr3 (y1.of_acall (fs:= []) (cs:= [pZ bm,pZ by_]) (zun step ok IJ y hy 0 t hx _ bm by_ _ _ hI))) rfl ?_)
     rintro _ _ ⟨_,rfl,L,hI,rfl⟩
     refine rn ?_;exact ⟨(j+1,_,L),⟨by omega,hI,hF⟩,(v1 (.cons _ _ _ rfl (.cons _ _ _ rfl (.cons _ _ _ rfl (.cons _ _ _ rfl (.cons _ _ _ rfl (.cons _ _ _ rfl (.cons _ _ _ rfl (.cons _ _ _ rfl (.nil)))))))))),by simp only;omega⟩
    ·obtain rfl:j=r.ts.length:=by
      have:r.ts.length≤j:=by simpa using hc168
      omega
     rw [List.drop_length,List.map_nil,List.nil_append] at hF
     refine rn ?_;exact ⟨(k+1,_,L),⟨by omega,hI,hF⟩,(v1 (.cons _ _ _ rfl (.cons _ _ _ rfl (.cons _ _ _ rfl (.cons _ _ _ rfl (.cons _ _ _ rfl (.nil))))))),by simp only;omega⟩
   ·obtain rfl:k=h.mats.length:=by
     have:h.mats.length≤k:=by simpa using hc144
     omega
    rw [List.drop_length,List.flatMap_nil,List.nil_append] at hF
    refine rn ?_;refine zab (fun x:Nat×Option σ×List Res=>x.1≤h.wants.length∧IJ x.2.1 x.2.2∧Rem step ok x.2.1 (((h.wants.drop x.1).flatMap zzt)++ []) (goes step (some s0) (zcy h))) (fun x=>⟨[(185,iv x.1),(184,iv (h.wants.map zfo).length),(1,pZ b1),(4,pZ bs),(5,.fn (.func 203) [] [pZ bs])],.box b1 184 [pZ bh]:: .box bh 28 (y9 h):: .box bs 240 [.fn (.func 202) [] [pZ bm,pZ by_]]:: .box bm 4 [bv (x.2.1).isSome]:: .box by_ 239 [y]::x.2.2,[]⟩) (fun x=>h.wants.length - x.1) (0,st,L) ⟨by omega,hI,by rw [List.append_nil];exact hF⟩
     (v1 (.cons _ _ _ rfl (.cons _ _ _ rfl (.cons _ _ _ rfl (.cons _ _ _ rfl (.cons _ _ _ rfl (.nil))))))) ?_
    rintro ⟨k,st,L⟩ ⟨hk,hI,hF⟩
    simp only at hk hI hF
    refine rn ?_;refine y0 rfl (fun hc186=> ?_) (fun hc186=> ?_)
    ·have k2:k < h.wants.length:=by simpa using hc186
     obtain ⟨r,hr⟩:∃r,r=h.wants[k]:=⟨_,rfl⟩
     have hrowr:(h.wants.map zfo)[k]? =some (zfo r):=by rw [hr];simp [k2]
     have hdr:=List.drop_eq_getElem_cons k2
     rw [hdr,←hr] at hF
     simp only [List.flatMap_cons,zzt,List.cons_append,List.append_assoc,List.nil_append] at hF
     obtain ⟨hx,hF⟩:=hF.cons
     have hle:=la.wants
     refine rn ?_;refine j4 8 rfl ?_
     refine rn ?_;refine z7 rfl (q7 rfl rfl (y1.fr3 (y1.of_acall (fs:= []) (cs:= [pZ bm,pZ by_]) (zun step ok IJ y hy 1 r.s hx _ bm by_ _ _ hI))) rfl ?_)
     rintro _ _ ⟨_,rfl,L,hI,rfl⟩
     refine rn ?_;exact ⟨(k+1,_,L),⟨by omega,hI,hF⟩,(v1 (.cons _ _ _ rfl (.cons _ _ _ rfl (.cons _ _ _ rfl (.cons _ _ _ rfl (.cons _ _ _ rfl (.nil))))))),by simp only;omega⟩
    ·obtain rfl:k=h.wants.length:=by
      have:h.wants.length≤k:=by simpa using hc186
      omega
     rw [List.drop_length,List.flatMap_nil,List.nil_append] at hF
     refine rn ?_;have hF':st=goes step (some s0) (zcy h):=hF.fin
     exact zc3 .nil (.trans (.perm ((pt2 _ _ _ _).trans (.cons _ ((pt2 _ _ _ _).trans (.cons _ (pt2 _ _ _ _))))) _) (.drop [_,_,_] _ _)) ⟨L,hF' ▸ hI,rfl⟩
theorem yif (bh:Nat) (h:List Res):y8 Tryz.prog 141 [pZ bh] h (fun r h'=>∃b1,h'= .box b1 184 [pZ bh]::h∧r= .fn (.func 201) [] [pZ b1]):=by
 refine z6 Tryz.func141 rfl rfl rfl ?_
 refine rn ?_;refine z7 rfl (w7 rfl rfl rfl fun b1=> ?_)
 refine rn ?_;exact zal rfl (.refl _ _) ⟨_,rfl,rfl⟩
def IJC (lp:LP) (q b2 b3:Nat):Option (List Int)→List Res→Prop
 |some m,L=>L=lp .ready none:: .defs q:: .box b3 156 ((m).map iv):: .box b2 33 [iv 0]:: [.glob 2 156 y2,.glob 4 305 y3,.glob 5 308 z8]∧m.length=4
 |none,L=>∃m:List Int,L=lp .done (some .ret):: .defs q:: .box b3 156 ((m).map iv):: .box b2 33 [iv 210]:: [.glob 2 156 y2,.glob 4 305 y3,.glob 5 308 z8]
theorem yk5 (h:Hist) (la:Lim 4611686018427387904 h):y8 Tryz.prog 93 [.agg (y9 h)] [.glob 2 156 y2,.glob 4 305 y3,.glob 5 308 z8] (fun r h'=>h'= [.glob 2 156 y2,.glob 4 305 y3,.glob 5 308 z8]∧r=iv (zc7 h)):=by
 refine z6 Tryz.func93 rfl rfl rfl ?_
 refine rn ?_;refine z7 rfl (w7 rfl rfl rfl fun b1=> ?_)
 refine z7 rfl (y7 rfl fun b2=> ?_)
 refine rn ?_;refine qv rfl rfl (y4 rfl rfl (y1.qt (y1.of_fun (yig h la)) ((pt2 _ _ _ _).trans (.cons _ ((pt2 _ _ _ _).trans (.cons _ (pt2 _ _ _ _))))))) ?_
 refine rn ?_;refine y0 rfl (fun hc10=> ?_) (fun hc10=> ?_)
 ·have hs:za4 h=false:=ybg hc10
  refine rn ?_;exact zdt (.cons _ _ _ _ (.one _ _ _ _ _ _ _ rfl inferInstance inferInstance rfl) .nil) (.drop [_,_] _ _) ⟨rfl,congrArg iv (ycm hs).symm⟩
 ·have hs:za4 h=true:=ybh hc10
  refine rn ?_;refine z7 rfl (y7 rfl fun b3=> ?_)
  refine rn ?_;refine z7 rfl (q7 rfl rfl (y1.of_fun (yif b1 _)) rfl ?_)
  rintro _ _ ⟨b1',rfl,rfl⟩
  refine rn ?_;refine zjz (fun pend h''=>(pend=none∧∃m:List Int,zph h=some m∧m.length=4∧h''= .box b1' 184 [pZ b1]:: .box b1 28 (y9 h):: .box b3 156 ((m).map iv):: .box b2 33 [iv 0]:: [.glob 2 156 y2,.glob 4 305 y3,.glob 5 308 z8])∨(pend=some .ret∧zph h=none∧∃m:List Int,h''= .box b1' 184 [pZ b1]:: .box b1 28 (y9 h):: .box b3 156 ((m).map iv):: .box b2 33 [iv 210]:: [.glob 2 156 y2,.glob 4 305 y3,.glob 5 308 z8])) rfl (fun fn l q lp hlp=> ?_) (fun q h'' hK=> ?_) (fun q h'' c hK=> ?_)
  ·suffices hy:∀(s:List Int) (L:List Res) (sort:Nat) (n:Int) (cells:List AV),OkN h (sort,n)→IJC lp q b2 b3 (some s) L→y1 Tryz.prog (yv l) [iv sort,.pp (iv n::cells)] L (fun r h'=>r=bv (zd1 s (sort,n)).isSome∧IJC lp q b2 b3 (zd1 s (sort,n)) h') by
    refine y8.mono (y8.perm ((pt2 _ _ _ _).trans (.cons _ (pt4 _ _ _ _ _ _))) (ye3 zd1 (OkN h) (IJC lp q b2 b3) (yv l) rfl hy h la b1' b1 (zwl hs) [0,0,0,0] _ ⟨rfl,rfl⟩)) ?_
    rintro _ _ ⟨L',hI,rfl⟩
    cases hm:goes zd1 (some [0,0,0,0]) (zcy h) with
    |some m=>
     rw [hm] at hI
     obtain ⟨rfl,hl⟩:=hI
     exact ⟨_,_,_,((pt2 _ _ _ _).trans (.cons _ (pt2 _ _ _ _))),by simp,.inl ⟨rfl,m,hm,hl,rfl⟩⟩
    |none=>
     rw [hm] at hI
     obtain ⟨m,rfl⟩:=hI
     exact ⟨_,_,_,((pt2 _ _ _ _).trans (.cons _ (pt2 _ _ _ _))),by simp,.inr ⟨rfl,hm,m,rfl⟩⟩
   rintro m _ sort n cells ⟨hs4,hn0,hn1⟩ ⟨rfl,hl⟩
   simp only at hs4 hn0 hn1
   have hnm:=la.nm sort
   refine zts hlp rfl rfl ?_
   refine rn ?_;refine ⟨[(4,iv sort),(5,.pp (iv n::cells)),(3,pZ b3),(2,pZ b2)],(v1 (.cons _ _ _ rfl (.cons _ _ _ rfl (.cons _ _ _ rfl (.cons _ _ _ rfl (.nil)))))),?_⟩
   refine rn ?_;refine j4 6 rfl ?_
   refine dq rfl rfl qrA ?_;refine dq rfl rfl qrA ?_;refine dq rfl rfl qrA ?_;refine dq rfl rfl qrA ?_;refine dq rfl rfl (zah rfl rfl hs4) ?_
   refine dq rfl rfl (k9 rfl (ym9 hl hs4)) ?_
   refine rn ?_;refine y0 rfl (fun hc20=> ?_) (fun hc20=> ?_)
   ·refine rn ?_;have hst:zd1 m (sort,n)=none:=by rw [zd1];exact if_pos (by simpa using hc20)
    exact znr (.refl _) (by rw [hst];exact ⟨rfl,_,rfl⟩)
   ·refine rn ?_;refine j4 9 rfl ?_
    refine dq rfl rfl qrA ?_;refine dq rfl rfl qrA ?_;refine dq rfl rfl (zah rfl rfl hs4) ?_
    refine dq rfl rfl (k9 rfl (ym9 hl hs4)) ?_
    refine rn2 ?_;refine qq rfl rfl (zah rfl rfl hs4) ?_
    refine z7 rfl (zaf rfl rfl rfl rfl (by simp [hl];omega) ?_)
    refine rn ?_;have hst:zd1 m (sort,n)=some (m.set sort (max (m.getD sort 0) (n+1))):=by rw [zd1];exact if_neg (by simpa using hc20)
    exact zcf (.refl _) (by rw [hst];exact ⟨rfl,by rw [←yoq hl hs4];rfl,by simpa using hl⟩)
  ·obtain ⟨_,m,hm,hl,rfl⟩|⟨hc,_⟩:=hK
   rotate_left
   ·cases hc
   refine rn ?_;refine qv rfl rfl (y4 rfl rfl (zax (yf8 _) (Sbs.refl _))) ?_
   refine rn ?_;refine zab (fun k:Nat=>k≤4∧∀j,j < k→m.getD j 0=(nmK h j).length) (fun k=>⟨[(33,iv k),(32,.agg (zji h)),(3,pZ b3),(2,pZ b2)],.defs q:: .box b1' 184 [pZ b1]:: .box b1 28 (y9 h):: .box b3 156 ((m).map iv):: .box b2 33 [iv 0]:: [.glob 2 156 y2,.glob 4 305 y3,.glob 5 308 z8],[q]⟩) (fun k=>4 - k) 0 ⟨by omega,fun j hj=>absurd hj (Nat.not_lt_zero j)⟩
    (v1 (.cons _ _ _ rfl (.cons _ _ _ rfl (.cons _ _ _ rfl (.cons _ _ _ rfl (.nil)))))) ?_
   rintro k ⟨hk,hz⟩
   refine rn ?_;refine y0 rfl (fun hc34=> ?_) (fun hc34=> ?_)
   ·have hk4:k < 4:=by simp at hc34;omega
    refine zbs ?_;refine zak ?_;refine w8 ?_;refine zc8 ?_;refine w8 (y6 ?_)
    refine q1 ?_;refine qq rfl rfl (zbz rfl rfl (by omega) (by have:=zxm h hk4;simpa using this)) ?_
    refine q1 ?_;refine q1 ?_;refine v8 (zak ?_)
    refine w8 (y6 ?_)
    refine q1 ?_;refine qq rfl rfl (zah rfl rfl hk4) ?_
    refine qq rfl rfl (k9 rfl (ym9 hl hk4)) ?_
    refine rn ?_;refine y0 rfl (fun hc42=> ?_) (fun hc42=> ?_)
    ·refine rn ?_;exact zfy (.refl _) (.cons _ _ _ _ (.one _ _ _ _ _ _ _ rfl inferInstance inferInstance rfl) .nil) (.drop [_,_,_,_] _ _) ⟨rfl,congrArg iv (ycn hm hk4 (by simpa using hc42)).symm⟩
    ·refine rn ?_;exact ⟨k+1,⟨by omega,fun j hj=>by
      by_cases hjk:j=k
      ·subst hjk;simpa using hc42
      ·exact hz j (by omega)⟩,(v1 (.cons _ _ _ rfl (.cons _ _ _ rfl (.cons _ _ _ rfl (.cons _ _ _ rfl (.nil)))))),by omega⟩
   ·have hk4:k=4:=by simp at hc34;omega
    subst hk4
    refine rn ?_;exact zfy (.refl _) (.cons _ _ _ _ (.one _ _ _ _ _ _ _ rfl inferInstance inferInstance rfl) .nil) (.drop [_,_,_,_] _ _) ⟨rfl,congrArg iv (yco hs hm hl hz).symm⟩
  ·obtain ⟨hc,_⟩|⟨hc,hm,m,rfl⟩:=hK
   ·cases hc
   obtain rfl:c= .ret:=by simpa using hc
   refine rn ?_;exact zfy (.refl _) (.cons _ _ _ _ (.one _ _ _ _ _ _ _ rfl inferInstance inferInstance rfl) .nil) (.drop [_,_,_,_] _ _) ⟨rfl,congrArg iv (zvh hm).symm⟩
attribute [local irreducible] zcl jch zd7
def w6:List AV:= [.any,.fn (.func 300) [] [],.fn (.func 307) [] [],.fn (.func 308) [] [],.fn (.func 309) [] [],.fn (.func 310) [] [],.fn (.func 311) [] [],.fn (.func 312) [] [],.fn (.func 313) [] [],.fn (.func 314) [] [],.fn (.func 315) [] []]
def yl0 (k:Nat):AV:=w6.getD k .any
theorem yhl {k:Nat} (h2:k≤10):w6[k]? =some (yl0 k):=by
 have:k < w6.length:=by show k < 11;omega
 rw [yl0,List.getD_eq_getElem?_getD,List.getElem?_eq_getElem this];rfl
theorem ycv (h:Hist) (la:Lim 3000 h) (b:Nat) (G:List Res) {k:Nat} (h1:1≤k) (h2:k≤10):y1 Tryz.prog (yl0 k) [pZ b] (.box b 252 (zbq h)::G) (fun r h'=>h'=G∧r=za8 (zb7 h k)):=by
 match k,h1,h2 with
 |1,_,_=>exact y1.of_acall (fs:= []) (cs:= []) (yi9 h la b G)
 |2,_,_=>exact y1.of_acall (fs:= []) (cs:= []) (yoz h la b G)
 |3,_,_=>exact y1.of_acall (fs:= []) (cs:= []) (yi8 h la b G)
 |4,_,_=>exact y1.of_acall (fs:= []) (cs:= []) (yau h la b G)
 |5,_,_=>exact y1.of_acall (fs:= []) (cs:= []) (yov h la b G)
 |6,_,_=>exact y1.of_acall (fs:= []) (cs:= []) (ymj h la b G)
 |7,_,_=>exact y1.of_acall (fs:= []) (cs:= []) (yi2 h la b G)
 |8,_,_=>exact y1.of_acall (fs:= []) (cs:= []) (yax h la b G)
 |9,_,_=>exact y1.of_acall (fs:= []) (cs:= []) (yi5 h la b G)
 |10,_,_=>exact y1.of_acall (fs:= []) (cs:= []) (ymh h la b G)
 |k+11,_,h2=>omega
theorem yfy {o:Option Nat} {i:Int} {b:Bool} (h:za8 o= .tup [iv i,bv b]):i=yo2 o∧b=o.isSome:=by
 cases o with
 |none=>simp only [za8,AV.tup.injEq,List.cons.injEq,AV.v.injEq,Value.int.injEq,Value.bool.injEq,true_and,and_true] at h;exact ⟨h.1.symm,h.2.symm⟩
 |some n=>simp only [za8,AV.tup.injEq,List.cons.injEq,AV.v.injEq,Value.int.injEq,Value.bool.injEq,true_and,and_true] at h;exact ⟨h.1.symm,h.2.symm⟩
theorem zri {h:Hist} (hm:zfl h=true):Lim 3000 h:=by
 unfold zfl at hm;simp only [Bool.and_eq_true] at hm;exact zul hm.1
theorem yi7 (h:Hist) (la:Lim 4611686018427387904 h):y8 Tryz.prog 143 [.agg (y9 h)] [.glob 2 156 y2,.glob 4 305 y3,.glob 5 308 z8,.glob 3 246 w6] (fun r h'=>h'= [.glob 2 156 y2,.glob 4 305 y3,.glob 5 308 z8,.glob 3 246 w6]∧r=zgo h):=by
 refine z6 Tryz.func143 rfl rfl rfl ?_
 refine rn ?_;refine z7 rfl (w7 rfl rfl rfl fun b1=> ?_)
 refine z7 rfl (y7 rfl fun b2=> ?_)
 refine rn ?_;refine qv rfl rfl (y4 rfl rfl (y1.qt (y1.of_fun (yk5 h la)) ((pt2 _ _ _ _).trans (.cons _ ((pt2 _ _ _ _).trans (.cons _ (pt2 _ _ _ _))))))) ?_
 refine rn ?_;refine y0 rfl (fun hc12=> ?_) (fun hc12=> ?_)
 ·have hm:¬zfl h=true:=by intro q;rw [zc7,if_pos q] at hc12;cases hc12
  have he:zc7 h=210:=by rw [zc7,if_neg hm]
  refine rn ?_;exact zdt (.cons _ _ _ _ (.agg _ _ _ _ _ _ _ rfl inferInstance inferInstance inferInstance rfl) (.cons _ _ _ _ (.tmp _ _ rfl) (.cons _ _ _ _ (.tmp _ _ rfl) .nil))) (.drop [_,_] _ _) ⟨rfl,by rw [zgo,if_neg hm,he];rfl⟩
 ·have hm:zfl h=true:=zy5.1 (by simpa using hc12)
  have la3:=zri hm
  refine rn ?_;refine yct (fun k:Nat=>(1≤k∧k≤11)∧zbm (zb7 h) rules10=zbm (zb7 h) (rules10.drop (k - 1))) (fun k=>⟨[(6,iv k),(1,pZ b1),(2,pZ b2)],(.box b2 158 [iv 0,iv 0]:: .box b1 28 (y9 h):: .glob 2 156 y2:: .glob 4 305 y3:: .glob 5 308 z8:: .glob 3 246 w6:: []),[]⟩) (fun k=>11 - k) 1 ⟨by omega,rfl⟩ es ?_
  rintro k ⟨⟨k1,k3⟩,zk⟩
  obtain ⟨pi,pb,hpv⟩:∃i b,za8 (zb7 h k)= .tup [iv i,bv b]:=zc4 _
  obtain ⟨ei,eb⟩:=yfy hpv
  refine rn ?_;refine y0 rfl (fun hc16=> ?_) (fun hc16=> ?_)
  ·have k2:k≤10:=by have:=oT hc16;omega
   refine zbs ?_;refine rn0 ?_;refine w8 ?_;refine zc8 ?_;refine w8 ?_;refine zgs 11 [5,6] [7,8,9,10] (fun he=>he=(.box b2 158 [iv 0,iv 0]:: .box b1 28 (y9 h):: .glob 2 156 y2:: .glob 4 305 y3:: .glob 5 308 z8:: .glob 3 246 w6:: [])∨∃b,he= .box b 252 (zbq h)::(.box b2 158 [iv 0,iv 0]:: .box b1 28 (y9 h):: .glob 2 156 y2:: .glob 4 305 y3:: .glob 5 308 z8:: .glob 3 246 w6:: [])) rfl rfl (.inl rfl) ?_
   refine jq rfl (fun he hC=>by rcases hC with rfl|⟨b,rfl⟩ <;> exact qrA) ?_
   refine jq rfl (fun he hC=>by rcases hC with rfl|⟨b,rfl⟩ <;> exact (by exact zah rfl rfl (by show k < 11;omega))) ?_
   refine jq rfl (fun he hC=>by rcases hC with rfl|⟨b,rfl⟩ <;> exact (by exact k9 rfl (show w6[0+k * 1]? =some (yl0 k) by rw [Nat.zero_add,Nat.mul_one];exact yhl k2))) ?_
   refine jq rfl (fun he hC=>by rcases hC with rfl|⟨b,rfl⟩ <;> exact qrA) ?_
   refine jq rfl (fun he hC=>by rcases hC with rfl|⟨b,rfl⟩ <;> exact (by exact u9 (out:=zbq h) rfl (by rfl))) ?_
   refine je rfl ?_;refine je rfl ?_;refine je rfl ?_;refine je rfl ?_;refine je rfl ?_;refine je rfl ?_;refine yb0 ?_;refine jce rfl fun u=> ?_
   refine w7 rfl rfl rfl fun b5=>⟨_,_,rfl,.inr ⟨_,rfl⟩,?_⟩
   refine jce rfl fun u=> ?_
   refine q7 rfl rfl (ycv h la3 b5 _ k1 k2) rfl ?_
   rintro _ _ ⟨rfl,rfl⟩
   rw [hpv]
   refine ⟨_,_,rfl,.inl rfl,?_⟩
   refine jcn ?_;refine lq rfl rfl (by exact qrA) ?_
   refine lq rfl rfl (by exact qrA) ?_
   refine lq rfl rfl (by exact qrA) ?_
   refine lq rfl rfl (by exact qrA) ?_
   refine ln ?_;refine rn ?_;refine y0 rfl (fun hc29=> ?_) (fun hc29=> ?_)
   ·refine rn ?_;exact zdt (.cons _ _ _ _ (.agg _ _ _ _ _ _ _ rfl inferInstance inferInstance inferInstance rfl) (.cons _ _ _ _ (.tmp _ _ rfl) (.cons _ _ _ _ (.tmp _ _ rfl) .nil))) (.drop [_,_] _ _) ⟨rfl,by
     cases hp:zb7 h k with
     |none=>rw [hp] at eb;rw [eb] at hc29;cases hc29
     |some n=>rw [hp] at ei;subst ei;rw [zgo,if_pos hm,zjr,zyj k1 k2 zk hp];rfl⟩
   ·refine rn ?_;exact ⟨k+1,⟨by omega,zvb k1 k2 zk (by cases hp:zb7 h k with|none=>rfl|some n=>rw [hp] at eb;rw [eb] at hc29;cases hc29)⟩,eA,by omega⟩
  ·have k2:11≤k:=by have:=oF hc16;omega
   refine rn ?_;exact zdt (.cons _ _ _ _ (.agg _ _ _ _ _ _ _ rfl inferInstance inferInstance inferInstance rfl) (.cons _ _ _ _ (.tmp _ _ rfl) (.cons _ _ _ _ (.tmp _ _ rfl) .nil))) (.drop [_,_] _ _) ⟨rfl,by rw [zgo,if_pos hm,zjr,zvc k2 k3 zk];rfl⟩
theorem yix (h:Hist) (la:Lim 4611686018427387904 h):y8 Tryz.prog 94 [.agg (y9 h)] [.glob 2 156 y2,.glob 4 305 y3,.glob 5 308 z8,.glob 3 246 w6] (fun r h'=>h'= [.glob 2 156 y2,.glob 4 305 y3,.glob 5 308 z8,.glob 3 246 w6]∧r=bv (zar h)):=by
 refine z6 Tryz.func94 rfl rfl rfl ?_
 refine rn ?_;refine z7 rfl (w7 rfl rfl rfl fun b1=> ?_)
 refine q1 ?_;refine v8 (zak ?_)
 refine w8 (y6 ?_)
 obtain ⟨fi,fj,fb,fe,hf,hfb⟩:=zpt h
 refine rn ?_;refine qv rfl rfl (y4 rfl rfl (y1.qt (y1.of_fun (yi7 h la)) ((pt1 _ _ _).trans (.cons _ ((pt1 _ _ _).trans (.cons _ ((pt1 _ _ _).trans (.cons _ (pt1 _ _ _))))))))) ?_
 rw [hf]
 refine rn ?_;refine z7 rfl (y7 rfl fun b3=> ?_)
 refine rn ?_;refine u0 (fun hg2_2=> ?_) (fun hg2_2=> ?_)
 ·refine rn ?_;refine rq 2 ?_
  exact ⟨rfl,congrArg bv (by rw [hfb];simp_all)⟩
 ·refine rn ?_;refine rq 2 ?_
  exact ⟨rfl,congrArg bv (by rw [hfb];simp_all)⟩
end Go.Proofs
set_option maxRecDepth 100000
namespace Go.Proofs.YtfmcbdjnmlcacaaGreatDoor
open Go Go.Ab Go.H
def yhk:DataW Unit:=match (Rows.laid_yardarm_rules_asks:DataW Unit) with| .iface _ d=>d|d=>d
def zxn:List (List UInt8):=match yhk with| .agg ds=>ds.map (fun d=>match d with| .iface _ (.lit (.string b))=>b|_=> [])|_=> []
def nm (k:Nat):List UInt8:=zxn.getD (k+1) []
theorem zzd:yhk.funcsOut= .agg (.nil::(zxn.drop 1).map .held):=by kernel_rfl
theorem yb5 {w:World} {c:Array Value} {T0:TypeId} {fr:Nat×Nat} {g:Nat} {T:TypeId} {vs:List AV} (hh:w.heap[g]? =some (.cells c T0 fr)) (hl:vs.length=c.size) (h:∀j (h1:j < vs.length) (h2:j < c.size),Rel w noX vs[j] c[j]):(Res.glob g T vs).holds w noX:=
 ⟨fun h=>h,(Array.getElem?_eq_some_iff.1 hh).1,c,T0,fr,hh,hl,fun j h1 h2=>h j h1 h2⟩
theorem yki (w:World) (f:Nat):Rel w noX (.fn (.func f) [] []) (.func (.func f) #[] #[]):= .fn _ _ _ _ _ rfl rfl (fun j h=>absurd h (Nat.not_lt_zero _)) (fun j h=>absurd h (Nat.not_lt_zero _))
def fnA:List Nat:= [300,307,308,309,310,311,312,313,314,315]
theorem ycu (k:Nat) (hk:k < 10):∃b r,zxn[k+1]? =some (b::r)∧((List.range Tryz.prog.funcs.size).filter fun f=>(Tryz.prog.funcs[f]?).any (·.name.toUTF8.data.toList==b::r))= [fnA.getD k 0]∧w6[k+1]? =some (.fn (.func (fnA.getD k 0)) [] []):=by
 match k,hk with
 |0,_=>exact ⟨(nm 0).headD 0,(nm 0).tail,by kernel_rfl,by kernel_rfl,by kernel_rfl⟩
 |1,_=>exact ⟨(nm 1).headD 0,(nm 1).tail,by kernel_rfl,by kernel_rfl,by kernel_rfl⟩
 |2,_=>exact ⟨(nm 2).headD 0,(nm 2).tail,by kernel_rfl,by kernel_rfl,by kernel_rfl⟩
 |3,_=>exact ⟨(nm 3).headD 0,(nm 3).tail,by kernel_rfl,by kernel_rfl,by kernel_rfl⟩
 |4,_=>exact ⟨(nm 4).headD 0,(nm 4).tail,by kernel_rfl,by kernel_rfl,by kernel_rfl⟩
 |5,_=>exact ⟨(nm 5).headD 0,(nm 5).tail,by kernel_rfl,by kernel_rfl,by kernel_rfl⟩
 |6,_=>exact ⟨(nm 6).headD 0,(nm 6).tail,by kernel_rfl,by kernel_rfl,by kernel_rfl⟩
 |7,_=>exact ⟨(nm 7).headD 0,(nm 7).tail,by kernel_rfl,by kernel_rfl,by kernel_rfl⟩
 |8,_=>exact ⟨(nm 8).headD 0,(nm 8).tail,by kernel_rfl,by kernel_rfl,by kernel_rfl⟩
 |9,_=>exact ⟨(nm 9).headD 0,(nm 9).tail,by kernel_rfl,by kernel_rfl,by kernel_rfl⟩
theorem ym5 {w:World} (h:laidMetH Tryz.prog znz w):(Res.glob 3 246 w6).holds w noX:=by
 obtain ⟨g,t,cs,fuel,p,hg,ht,hv,hd⟩:=h.funcs (n:= "yardarm/rules.asks") (d:=yhk) (.tail _ (.tail _ (.head _)))
 obtain rfl:=Option.some.inj ((show Tryz.prog.globalNamed "yardarm/rules.asks" =some 3 by kernel_rfl).symm.trans hg)
 obtain rfl:=Option.some.inj ((show (Tryz.prog.globals[3]?).map (·.type)=some 246 by kernel_rfl).symm.trans ht)
 rw [zzd] at hd
 have c1:Tryz.prog.cellsOf 245=1:=by kernel_rfl
 have c11:Tryz.prog.cellsOf 246=11:=by kernel_rfl
 have hlen:cs.toList.length=11:=by
  obtain ⟨_,_,_,_,hl,_⟩:=DataW.trod_array Tryz.underlying246 hd
  rw [hl,c11]
 unfold World.var? at hv
 rw [hg] at hv
 simp only [Option.bind_some] at hv
 split at hv
 ·rename_i c T0 fr hh
  cases hv
  refine yb5 hh (by rw [show w6.length=11 from rfl];simpa using hlen.symm) fun j h1 h2=> ?_
  cases j with
  |zero=>exact .any _
  |succ k=>
   have hk:k < 10:=by have:w6.length=11:=rfl;omega
   obtain ⟨b,r,hn,hone,ha⟩:=ycu k hk
   obtain ⟨f',d,q,e1,e2⟩:=Lib.array_elem Tryz.underlying246 hd (k+1) (by omega)
   have e1':d= .held (b::r):=by
    rw [List.getElem?_cons_succ,List.getElem?_map,List.getElem?_drop,Nat.add_comm 1 k,hn] at e1
    exact (Option.some.inj e1).symm
   subst e1'
   rw [c1,Nat.mul_one,List.drop_eq_getElem_cons (by simpa using h2),List.take_succ_cons,List.take_zero] at e2
   have:=func_of_trod (f0:=fnA.getD k 0) Tryz.underlying245 hone e2
   rw [Array.getElem_toList] at this
   rw [this,show w6[k+1]= .fn (.func (fnA.getD k 0)) [] [] from Option.some.inj ((List.getElem?_eq_getElem h1).symm.trans ha)]
   exact yki _ _
 ·cases hv
theorem zu5 {W:World} (h:laidMetH Tryz.prog znz W):HRel noX W [.glob 2 156 y2,.glob 4 305 y3,.glob 5 308 z8,.glob 3 246 w6]:=by
 obtain ⟨a,b,c,d⟩:=zx1 h
 have hO:OO [.glob 2 156 y2,.glob 4 305 y3,.glob 5 308 z8] noX=noX:=ynx
 have hO':OO [.glob 2 156 y2,.glob 4 305 y3,.glob 5 308 z8,.glob 3 246 w6] noX=noX:=by funext b;simp [OO,j5,noX,Res.own]
 refine ⟨by simp [j5,Res.own],fun b hb=>by simp [j5,Res.own] at hb,fun b hb=>hb.elim,fun r hr=> ?_⟩
 rw [hO']
 rw [hO] at d
 simp only [List.mem_cons,List.not_mem_nil,or_false] at hr
 rcases hr with rfl|rfl|rfl|rfl
 ·exact d _ (by simp)
 ·exact d _ (by simp)
 ·exact d _ (by simp)
 ·exact ym5 h
theorem ynw:OO [.glob 2 156 y2,.glob 4 305 y3,.glob 5 308 z8,.glob 3 246 w6] noX=noX:=by funext b;simp [OO,j5,noX,Res.own]
end Go.Proofs.YtfmcbdjnmlcacaaGreatDoor
namespace Go.Proofs
open Go Go.Ab
open Go.H
def yas (l:List Int):List AV:= [za6 l]
theorem yjb {P:Program} {h:List Res} {f:Operand→Option AV} {o:Oper} {b c:Bool} (hq:QR P h f o (.v (.bool b))) (e:b=c):QR P h f o (.v (.bool c)):=by subst e;exact hq
theorem nzT {a:Int} (h:(a !=0)=true):a≠0:=by simpa using h
theorem nzF {a:Int} (h:(a !=0)=false):a=0:=by simpa using h
theorem zyz (l:List Ev):(zco l).length≤l.length:=by rw [zco,(zcc _).length_eq,oM];exact List.length_filter_le _ _
def dnM (l:List Int):List (Int×Bool):=zo1 (fun _:Int=>true) (fun t:Int=>t) [] l
theorem yk2 {l:List Int} {k:Nat} (hk:k < l.length):dnM (l.take (k+1))=zcq l[k] true (dnM (l.take k)):=by
 rw [dnM,dnM,zo1,zo1,List.take_succ_eq_append_getElem hk,List.foldl_append];rfl
theorem zel (l:List Ev) (t:Int):(zap t (dnM (zco l))).getD false=zf6 l t 5:=by
 rw [dnM,ze2]
 cases hq:zf6 l t 5 with
 |true=>rw [if_pos (by rw [List.any_eq_true];exact ⟨t,zob.2 hq,by simp⟩)];rfl
 |false=>
  rw [if_neg (fun q=>by
   obtain ⟨x,hx,e⟩:=List.any_eq_true.1 q
   have e:x=t:=by simpa using e
   rw [e,zob,hq] at hx;cases hx)]
  rfl
def evD (l:List Ev) (n:Int):Ev:=(l[n.toNat]?).getD ⟨0,0,0,0,0,⟨0,0⟩,0,[]⟩
theorem zpx {l:List Ev} {a:Nat} (ha:a < l.length):evD l (a:Int)=l[a]:=by rw [evD,Int.toNat_natCast,List.getElem?_eq_getElem ha];rfl
def zda (h:Hist) (n:Int):Int:=if q6 h=0 then (if 0≤n∧n < h.evs.length∧(evD h.evs n).kind=4 then 0 else 2) else q6 h
def zmj (h:Hist) (n:Int):List Seen:=if zda h n=0 then ye5 h (evD h.evs n) n.toNat else []
theorem yop {h:Hist} {n:Int} (hc:q6 h≠0):zda h n=q6 h∧zmj h n= []:=by
 have e:zda h n=q6 h:=by rw [zda,if_neg hc]
 exact ⟨e,by rw [zmj,e,if_neg hc]⟩
theorem yoo {h:Hist} {n:Int} (hc:q6 h=0) (hn:¬(0≤n∧n < h.evs.length∧(evD h.evs n).kind=4)):zda h n=2∧zmj h n= []:=by
 have e:zda h n=2:=by rw [zda,if_pos hc,if_neg hn]
 exact ⟨e,by rw [zmj,e];rfl⟩
theorem yon {h:Hist} {a:Nat} (hc:q6 h=0) (ha:a < h.evs.length) (h4:h.evs[a].kind=4):zda h a=0∧zmj h a=(upR h.os.length).map (yc9 h.evs h.evs[a].t h.evs[a].scan a):=by
 have e:zda h a=0:=by rw [zda,if_pos hc,if_pos ⟨by omega,by omega,by rw [zpx ha];exact h4⟩]
 exact ⟨e,by rw [zmj,e,if_pos rfl,zpx ha,Int.toNat_natCast];rfl⟩
set_option maxRecDepth 10000
instance:EqInts Tryz.prog 41 7:=⟨by kernel_rfl,fun w xs ys h1 h2=>match xs,ys,h1,h2 with
 | [a0,a1,a2,a3,a4,a5,a6],[c0,c1,c2,c3,c4,c5,c6],_,_=>by
   rw [run_equalIn_struct w 9999 41 _ _ (by kernel_rfl) (by kernel_rfl)]
   simp only [Program.fieldsOf,Tryz.underlying41]
   simp [Op.eqFields,part,run_equalIn_int _ 9998 3 .i64 .i64 _ _ Tryz.underlying3]
   by_cases h0:a0=c0
   case neg=>simp [h0]
   subst h0
   by_cases h1:a1=c1
   case neg=>simp [h1]
   subst h1
   by_cases h2:a2=c2
   case neg=>simp [h2]
   subst h2
   by_cases h3:a3=c3
   case neg=>simp [h3]
   subst h3
   by_cases h4:a4=c4
   case neg=>simp [h4]
   subst h4
   by_cases h5:a5=c5
   case neg=>simp [h5]
   subst h5
   by_cases h6:a6=c6
   case neg=>simp [h6]
   subst h6
   simp⟩
end Go.Proofs
namespace Go.Ab
open Go
end Go.Ab
set_option maxRecDepth 10000
namespace Go.Proofs
open Go Go.Ab
attribute [local irreducible] QR QV OE zb5 aw zce zcn za2 zbr thn zd9 zcl jch zd7
open Go.H
theorem yj7 (a:Int):y8 Tryz.prog 204 [iv a] [] (fun r h'=>h'= []∧r=bv false):=by
 refine z6 Tryz.func204 rfl rfl rfl ?_
 refine rn ?_;refine rq 0 ?_
 exact ⟨rfl,congrArg bv (bne_self_eq_false a)⟩
def zoc (a b:Int):Int:=if a < b then -1 else if b < a then 1 else 0
theorem zy1 (a b:Int) (l m:List Int):zjy (a::l) (b::m)=if zoc a b=0 then zjy l m else zoc a b:=by
 rw [zjy,zoc]
 by_cases h1:a < b
 ·rw [if_pos h1,if_pos h1];rfl
 ·rw [if_neg h1,if_neg h1]
  by_cases h2:b < a
  ·rw [if_pos h2,if_pos h2];rfl
  ·rw [if_neg h2,if_neg h2];rfl
theorem zna (a b:Int):y8 Tryz.prog 144 [iv a,iv b] [] (fun r h'=>h'= []∧r=iv (zoc a b)):=by
 refine z6 Tryz.func144 rfl rfl rfl ?_
 refine rn ?_;refine qv rfl rfl (y4 rfl rfl (zax (yj7 _) (Sbs.refl _))) ?_
 refine rn ?_;refine qv rfl rfl (y4 rfl rfl (zax (yj7 _) (Sbs.refl _))) ?_
 refine rn ?_;refine y0 rfl (fun hc11=> ?_) (fun hc11=> ?_)
 ·exact absurd hc11 (by decide)
 ·refine rn ?_;refine y0 rfl (fun hc13=> ?_) (fun hc13=> ?_)
  ·exact absurd hc13 (by decide)
  ·refine rn ?_;refine y0 rfl (fun hc16=> ?_) (fun hc16=> ?_)
   ·refine rn ?_;refine rq 0 ?_
    exact ⟨rfl,congrArg iv (by rw [zoc,if_pos (oT hc16)])⟩
   ·refine rn ?_;refine y0 rfl (fun hc19=> ?_) (fun hc19=> ?_)
    ·refine rn ?_;refine rq 0 ?_
     exact ⟨rfl,congrArg iv (by rw [zoc,if_neg (oF hc16),if_pos (oT hc19)])⟩
    ·refine rn ?_;refine rq 0 ?_
     exact ⟨rfl,congrArg iv (by rw [zoc,if_neg (oF hc16),if_neg (oF hc19)])⟩
def zic (a b:Conf):Bool:=([a.f,a.t,a.k,a.a,a.b,a.o,a.p]:List Int)== [b.f,b.t,b.k,b.a,b.b,b.o,b.p]
theorem zll (a b:Conf):zic a b=decide (a=b):=by
 rw [zic,Bool.eq_iff_iff,decide_eq_true_iff]
 obtain ⟨a1,a2,a3,a4,a5,a6,a7⟩:=a
 obtain ⟨b1,b2,b3,b4,b5,b6,b7⟩:=b
 simp
end Go.Proofs
namespace Go.Ab
open Go
section
variable {P:Program} {ro:Option Nat} {nt:Nat} {c:Code} {Q:Exit→St→Prop} {t:Fr} {h:List Res} {ds:List Nat}
theorem zfc {σ:Type} (n:Nat) (p:Nat→σ→Prop) (inv:Nat→σ→St) (x0:σ) (hp:p 0 x0) (h0:Ent nt ⟨t,h,ds⟩ (inv 0 x0))
 (round:∀k x,k≤n→p k x→aw P ro nt c (thn (fun s'=>k < n∧∃x',p (k+1) x'∧Ent nt s' (inv (k+1) x')) Q) (inv k x)):aw P ro nt (.loop c) Q ⟨t,h,ds⟩:=
 zab (fun x:Nat×σ=>x.1≤n∧p x.1 x.2) (fun x=>inv x.1 x.2) (fun x=>n - x.1) (0,x0) ⟨Nat.zero_le _,hp⟩ h0 fun x hk=>zhj (fun e s' hq=>by
  cases e with
  |normal=>
   obtain ⟨h1,x',h2,h3⟩:=hq
   exact ⟨(x.1+1,x'),⟨h1,h2⟩,h3,by simp only;omega⟩
  |_=>exact hq) (round x.1 x.2 hk.1 hk.2)
end
end Go.Ab
set_option maxRecDepth 10000
namespace Go.Proofs
open Go Go.Ab
attribute [local irreducible] QR QV OE zb5 aw zce zcn za2 zbr thn zd9 zcl jch zd7
open Go.H
end Go.Proofs
