/- The decoding of runes. Conditions: none. -/
import Derived.Test.YtcaijocpofcbdaaGreatDoorSHaG
set_option linter.unusedSectionVars false
set_option linter.unusedSimpArgs false
set_option linter.unusedVariables false
set_option maxRecDepth 10000
namespace Go.Proofs
open Go Go.Ab
attribute [local irreducible] QR QV OE zcw aw zdx zcv zb3 za2 thn zgt
open Go.H
theorem zpt (s:ByteArray) (hx:zae (bt s 0).toNat=240):x4 Tryz.prog 227 [.v (.string s)] [.glob 5 276 x7,.glob 6 279 y7] (fun r h'=>h'= [.glob 5 276 x7,.glob 6 279 y7]∧r= .tup [.v (.int .i32 (x3 s).1),iv (x3 s).2]):=by
 refine z6 Tryz.func227 rfl rfl rfl ?_
 refine rn ?_;refine z7 rfl (fun hc16=> ?_) (fun hc16=> ?_)
 ·refine rn ?_;have hd:x3 s=(65533,0):=by
   unfold x3
   rw [if_pos (by simp at hc16;omega)]
  exact zcb rfl rfl (.refl _ _) ⟨rfl,by rw [hd];rfl⟩
 ·have h1:0 < s.size:=by simp at hc16;omega
  refine rn ?_;refine qq rfl rfl (u3 0 rfl rfl (by omega)) ?_
  refine rn ?_;refine qq rfl rfl (y8 rfl rfl (zgo _ _) (zgn _ _)) ?_
  refine qq rfl rfl (zaa rfl (show _=some (.v (.int .u8 240)) from by rw [zcr (zgo s 0) (zgn s 0),hx])) ?_
  refine rn ?_;refine z7 rfl (fun hc23=> ?_) (fun hc23=> ?_)
  ·refine rn ?_;refine qq rfl rfl (u3 0 rfl rfl (by omega)) ?_
   refine rn ?_;have hd:x3 s=(bI .or .i32 (bI .andNot .i32 (IntKind.i32.wrap (bt s 0)) (zj3 240)) (bI .and .i32 65533 (zj3 240)),1):=by
    unfold x3
    rw [if_neg (by omega)]
    simp only [hx]
    rw [if_pos (by decide)]
   exact zcb rfl rfl (.refl _ _) ⟨rfl,by rw [hd];rfl⟩
  ·first|cases hc23|exact absurd hc23 (by decide)|(exfalso;simp_all;done)
theorem zps (s:ByteArray) (hx:zae (bt s 0).toNat=241):x4 Tryz.prog 227 [.v (.string s)] [.glob 5 276 x7,.glob 6 279 y7] (fun r h'=>h'= [.glob 5 276 x7,.glob 6 279 y7]∧r= .tup [.v (.int .i32 (x3 s).1),iv (x3 s).2]):=by
 refine z6 Tryz.func227 rfl rfl rfl ?_
 refine rn ?_;refine z7 rfl (fun hc16=> ?_) (fun hc16=> ?_)
 ·refine rn ?_;have hd:x3 s=(65533,0):=by
   unfold x3
   rw [if_pos (by simp at hc16;omega)]
  exact zcb rfl rfl (.refl _ _) ⟨rfl,by rw [hd];rfl⟩
 ·have h1:0 < s.size:=by simp at hc16;omega
  refine rn ?_;refine qq rfl rfl (u3 0 rfl rfl (by omega)) ?_
  refine rn ?_;refine qq rfl rfl (y8 rfl rfl (zgo _ _) (zgn _ _)) ?_
  refine qq rfl rfl (zaa rfl (show _=some (.v (.int .u8 241)) from by rw [zcr (zgo s 0) (zgn s 0),hx])) ?_
  refine rn ?_;refine z7 rfl (fun hc23=> ?_) (fun hc23=> ?_)
  ·refine rn ?_;refine qq rfl rfl (u3 0 rfl rfl (by omega)) ?_
   refine rn ?_;have hd:x3 s=(bI .or .i32 (bI .andNot .i32 (IntKind.i32.wrap (bt s 0)) (zj3 241)) (bI .and .i32 65533 (zj3 241)),1):=by
    unfold x3
    rw [if_neg (by omega)]
    simp only [hx]
    rw [if_pos (by decide)]
   exact zcb rfl rfl (.refl _ _) ⟨rfl,by rw [hd];rfl⟩
  ·first|cases hc23|exact absurd hc23 (by decide)|(exfalso;simp_all;done)
theorem zt8 (s:ByteArray) (hx:zae (bt s 0).toNat=2):x4 Tryz.prog 227 [.v (.string s)] [.glob 5 276 x7,.glob 6 279 y7] (fun r h'=>h'= [.glob 5 276 x7,.glob 6 279 y7]∧r= .tup [.v (.int .i32 (x3 s).1),iv (x3 s).2]):=by
 refine z6 Tryz.func227 rfl rfl rfl ?_
 refine rn ?_;refine z7 rfl (fun hc16=> ?_) (fun hc16=> ?_)
 ·refine rn ?_;have hd:x3 s=(65533,0):=by
   unfold x3
   rw [if_pos (by simp at hc16;omega)]
  exact zcb rfl rfl (.refl _ _) ⟨rfl,by rw [hd];rfl⟩
 ·have h1:0 < s.size:=by simp at hc16;omega
  refine rn ?_;refine qq rfl rfl (u3 0 rfl rfl (by omega)) ?_
  refine rn ?_;refine qq rfl rfl (y8 rfl rfl (zgo _ _) (zgn _ _)) ?_
  refine qq rfl rfl (zaa rfl (show _=some (.v (.int .u8 2)) from by rw [zcr (zgo s 0) (zgn s 0),hx])) ?_
  refine rn ?_;refine z7 rfl (fun hc23=> ?_) (fun hc23=> ?_)
  ·first|cases hc23|exact absurd hc23 (by decide)|(exfalso;simp_all;done)
  ·refine rn ?_;refine qq rfl rfl (y8 rfl rfl (by decide) (by decide)) ?_
   refine rn ?_;refine z8 rfl (y6 rfl fun b9=> ?_)
   refine rn ?_;refine z7 rfl (fun hc45=> ?_) (fun hc45=> ?_)
   ·refine rn ?_;have hd:x3 s=(65533,1):=by
     unfold x3
     rw [if_neg (by omega)]
     simp only [hx]
     rw [if_neg (by decide),if_pos (show (s.size:Int) < (2:Int) % 8 from of_decide_eq_true hc45)]
    exact zcb rfl rfl (.drop1 _ _ _) ⟨rfl,by rw [hd];rfl⟩
   ·have h2:2≤s.size:=by
     have:¬((s.size:Int) < 2):=of_decide_eq_false hc45
     omega
    refine rn ?_;refine qq rfl rfl (u3 1 rfl rfl (by omega)) ?_
    refine rn ?_;refine y9 (fun hg14_4=> ?_) (fun hg14_4=> ?_)
    ·refine rn ?_;refine z7 rfl (fun hc57=> ?_) (fun hc57=> ?_)
     ·refine rn ?_;have hd:x3 s=(65533,1):=by
       unfold x3
       rw [if_neg (by omega)]
       simp only [hx]
       rw [if_neg (by decide),if_neg (show ¬(s.size:Int) < (2:Int) % 8 from of_decide_eq_false hc45),if_pos (show bt s 1 < za8 ((2:Int) / 16).toNat∨za9 ((2:Int) / 16).toNat < bt s 1 from by first|exact .inl (of_decide_eq_true hg14_4)|exact .inr (of_decide_eq_true hc57))]
      exact zcb rfl rfl (.drop1 _ _ _) ⟨rfl,by rw [hd];rfl⟩
     ·first|cases hc57|exact absurd hc57 (by decide)|(exfalso;simp_all;done)
    ·refine rn ?_;refine z7 rfl (fun hc57=> ?_) (fun hc57=> ?_)
     ·refine rn ?_;have hd:x3 s=(65533,1):=by
       unfold x3
       rw [if_neg (by omega)]
       simp only [hx]
       rw [if_neg (by decide),if_neg (show ¬(s.size:Int) < (2:Int) % 8 from of_decide_eq_false hc45),if_pos (show bt s 1 < za8 ((2:Int) / 16).toNat∨za9 ((2:Int) / 16).toNat < bt s 1 from by first|exact .inl (of_decide_eq_true hg14_4)|exact .inr (of_decide_eq_true hc57))]
      exact zcb rfl rfl (.drop1 _ _ _) ⟨rfl,by rw [hd];rfl⟩
     ·refine rn ?_;refine z7 rfl (fun hc59=> ?_) (fun hc59=> ?_)
      ·refine rn ?_;have hd:x3 s=(bI .or .i32 (zc6 (bt s 0) 31 6) (zc6 (bt s 1) 63 0),2):=by
        unfold x3
        rw [if_neg (by omega)]
        simp only [hx]
        rw [if_neg (by decide),if_neg (show ¬(s.size:Int) < (2:Int) % 8 from of_decide_eq_false hc45),if_neg (show ¬(bt s 1 < za8 ((2:Int) / 16).toNat∨za9 ((2:Int) / 16).toNat < bt s 1) from fun q=>q.elim (of_decide_eq_false hg14_4) (of_decide_eq_false hc57)),if_pos (by decide)]
       exact zcb rfl rfl (.drop1 _ _ _) ⟨rfl,by rw [hd];rfl⟩
      ·first|cases hc59|exact absurd hc59 (by decide)|(exfalso;simp_all;done)
theorem zr5 (s:ByteArray) (hx:zae (bt s 0).toNat=19):x4 Tryz.prog 227 [.v (.string s)] [.glob 5 276 x7,.glob 6 279 y7] (fun r h'=>h'= [.glob 5 276 x7,.glob 6 279 y7]∧r= .tup [.v (.int .i32 (x3 s).1),iv (x3 s).2]):=by
 refine z6 Tryz.func227 rfl rfl rfl ?_
 refine rn ?_;refine z7 rfl (fun hc16=> ?_) (fun hc16=> ?_)
 ·refine rn ?_;have hd:x3 s=(65533,0):=by
   unfold x3
   rw [if_pos (by simp at hc16;omega)]
  exact zcb rfl rfl (.refl _ _) ⟨rfl,by rw [hd];rfl⟩
 ·have h1:0 < s.size:=by simp at hc16;omega
  refine rn ?_;refine qq rfl rfl (u3 0 rfl rfl (by omega)) ?_
  refine rn ?_;refine qq rfl rfl (y8 rfl rfl (zgo _ _) (zgn _ _)) ?_
  refine qq rfl rfl (zaa rfl (show _=some (.v (.int .u8 19)) from by rw [zcr (zgo s 0) (zgn s 0),hx])) ?_
  refine rn ?_;refine z7 rfl (fun hc23=> ?_) (fun hc23=> ?_)
  ·first|cases hc23|exact absurd hc23 (by decide)|(exfalso;simp_all;done)
  ·refine rn ?_;refine qq rfl rfl (y8 rfl rfl (by decide) (by decide)) ?_
   refine rn ?_;refine z8 rfl (y6 rfl fun b9=> ?_)
   refine rn ?_;refine z7 rfl (fun hc45=> ?_) (fun hc45=> ?_)
   ·refine rn ?_;have hd:x3 s=(65533,1):=by
     unfold x3
     rw [if_neg (by omega)]
     simp only [hx]
     rw [if_neg (by decide),if_pos (show (s.size:Int) < (19:Int) % 8 from of_decide_eq_true hc45)]
    exact zcb rfl rfl (.drop1 _ _ _) ⟨rfl,by rw [hd];rfl⟩
   ·have h2:3≤s.size:=by
     have:¬((s.size:Int) < 3):=of_decide_eq_false hc45
     omega
    refine rn ?_;refine qq rfl rfl (u3 1 rfl rfl (by omega)) ?_
    refine rn ?_;refine y9 (fun hg14_4=> ?_) (fun hg14_4=> ?_)
    ·refine rn ?_;refine z7 rfl (fun hc57=> ?_) (fun hc57=> ?_)
     ·refine rn ?_;have hd:x3 s=(65533,1):=by
       unfold x3
       rw [if_neg (by omega)]
       simp only [hx]
       rw [if_neg (by decide),if_neg (show ¬(s.size:Int) < (19:Int) % 8 from of_decide_eq_false hc45),if_pos (show bt s 1 < za8 ((19:Int) / 16).toNat∨za9 ((19:Int) / 16).toNat < bt s 1 from by first|exact .inl (of_decide_eq_true hg14_4)|exact .inr (of_decide_eq_true hc57))]
      exact zcb rfl rfl (.drop1 _ _ _) ⟨rfl,by rw [hd];rfl⟩
     ·first|cases hc57|exact absurd hc57 (by decide)|(exfalso;simp_all;done)
    ·refine rn ?_;refine z7 rfl (fun hc57=> ?_) (fun hc57=> ?_)
     ·refine rn ?_;have hd:x3 s=(65533,1):=by
       unfold x3
       rw [if_neg (by omega)]
       simp only [hx]
       rw [if_neg (by decide),if_neg (show ¬(s.size:Int) < (19:Int) % 8 from of_decide_eq_false hc45),if_pos (show bt s 1 < za8 ((19:Int) / 16).toNat∨za9 ((19:Int) / 16).toNat < bt s 1 from by first|exact .inl (of_decide_eq_true hg14_4)|exact .inr (of_decide_eq_true hc57))]
      exact zcb rfl rfl (.drop1 _ _ _) ⟨rfl,by rw [hd];rfl⟩
     ·refine rn ?_;refine z7 rfl (fun hc59=> ?_) (fun hc59=> ?_)
      ·first|cases hc59|exact absurd hc59 (by decide)|(exfalso;simp_all;done)
      ·refine rn ?_;refine qq rfl rfl (u3 2 rfl rfl (by omega)) ?_
       refine rn ?_;refine y9 (fun hg19_2=> ?_) (fun hg19_2=> ?_)
       ·refine rn ?_;refine z7 rfl (fun hc75=> ?_) (fun hc75=> ?_)
        ·refine rn ?_;have hd:x3 s=(65533,1):=by
          unfold x3
          rw [if_neg (by omega)]
          simp only [hx]
          rw [if_neg (by decide),if_neg (show ¬(s.size:Int) < (19:Int) % 8 from of_decide_eq_false hc45),if_neg (show ¬(bt s 1 < za8 ((19:Int) / 16).toNat∨za9 ((19:Int) / 16).toNat < bt s 1) from fun q=>q.elim (of_decide_eq_false hg14_4) (of_decide_eq_false hc57)),if_neg (by decide),if_pos (show bt s 2 < 128∨191 < bt s 2 from by first|exact .inl (of_decide_eq_true hg19_2)|exact .inr (of_decide_eq_true hc75))]
         exact zcb rfl rfl (.drop1 _ _ _) ⟨rfl,by rw [hd];rfl⟩
        ·first|cases hc75|exact absurd hc75 (by decide)|(exfalso;simp_all;done)
       ·refine rn ?_;refine z7 rfl (fun hc75=> ?_) (fun hc75=> ?_)
        ·refine rn ?_;have hd:x3 s=(65533,1):=by
          unfold x3
          rw [if_neg (by omega)]
          simp only [hx]
          rw [if_neg (by decide),if_neg (show ¬(s.size:Int) < (19:Int) % 8 from of_decide_eq_false hc45),if_neg (show ¬(bt s 1 < za8 ((19:Int) / 16).toNat∨za9 ((19:Int) / 16).toNat < bt s 1) from fun q=>q.elim (of_decide_eq_false hg14_4) (of_decide_eq_false hc57)),if_neg (by decide),if_pos (show bt s 2 < 128∨191 < bt s 2 from by first|exact .inl (of_decide_eq_true hg19_2)|exact .inr (of_decide_eq_true hc75))]
         exact zcb rfl rfl (.drop1 _ _ _) ⟨rfl,by rw [hd];rfl⟩
        ·refine rn ?_;refine z7 rfl (fun hc77=> ?_) (fun hc77=> ?_)
         ·refine rn ?_;have hd:x3 s=(bI .or .i32 (bI .or .i32 (zc6 (bt s 0) 15 12) (zc6 (bt s 1) 63 6)) (zc6 (bt s 2) 63 0),3):=by
           unfold x3
           rw [if_neg (by omega)]
           simp only [hx]
           rw [if_neg (by decide),if_neg (show ¬(s.size:Int) < (19:Int) % 8 from of_decide_eq_false hc45),if_neg (show ¬(bt s 1 < za8 ((19:Int) / 16).toNat∨za9 ((19:Int) / 16).toNat < bt s 1) from fun q=>q.elim (of_decide_eq_false hg14_4) (of_decide_eq_false hc57)),if_neg (by decide),if_neg (show ¬(bt s 2 < 128∨191 < bt s 2) from fun q=>q.elim (of_decide_eq_false hg19_2) (of_decide_eq_false hc75)),if_pos (by decide)]
          exact zcb rfl rfl (.drop1 _ _ _) ⟨rfl,by rw [hd];rfl⟩
         ·first|cases hc77|exact absurd hc77 (by decide)|(exfalso;simp_all;done)
theorem zt7 (s:ByteArray) (hx:zae (bt s 0).toNat=3):x4 Tryz.prog 227 [.v (.string s)] [.glob 5 276 x7,.glob 6 279 y7] (fun r h'=>h'= [.glob 5 276 x7,.glob 6 279 y7]∧r= .tup [.v (.int .i32 (x3 s).1),iv (x3 s).2]):=by
 refine z6 Tryz.func227 rfl rfl rfl ?_
 refine rn ?_;refine z7 rfl (fun hc16=> ?_) (fun hc16=> ?_)
 ·refine rn ?_;have hd:x3 s=(65533,0):=by
   unfold x3
   rw [if_pos (by simp at hc16;omega)]
  exact zcb rfl rfl (.refl _ _) ⟨rfl,by rw [hd];rfl⟩
 ·have h1:0 < s.size:=by simp at hc16;omega
  refine rn ?_;refine qq rfl rfl (u3 0 rfl rfl (by omega)) ?_
  refine rn ?_;refine qq rfl rfl (y8 rfl rfl (zgo _ _) (zgn _ _)) ?_
  refine qq rfl rfl (zaa rfl (show _=some (.v (.int .u8 3)) from by rw [zcr (zgo s 0) (zgn s 0),hx])) ?_
  refine rn ?_;refine z7 rfl (fun hc23=> ?_) (fun hc23=> ?_)
  ·first|cases hc23|exact absurd hc23 (by decide)|(exfalso;simp_all;done)
  ·refine rn ?_;refine qq rfl rfl (y8 rfl rfl (by decide) (by decide)) ?_
   refine rn ?_;refine z8 rfl (y6 rfl fun b9=> ?_)
   refine rn ?_;refine z7 rfl (fun hc45=> ?_) (fun hc45=> ?_)
   ·refine rn ?_;have hd:x3 s=(65533,1):=by
     unfold x3
     rw [if_neg (by omega)]
     simp only [hx]
     rw [if_neg (by decide),if_pos (show (s.size:Int) < (3:Int) % 8 from of_decide_eq_true hc45)]
    exact zcb rfl rfl (.drop1 _ _ _) ⟨rfl,by rw [hd];rfl⟩
   ·have h2:3≤s.size:=by
     have:¬((s.size:Int) < 3):=of_decide_eq_false hc45
     omega
    refine rn ?_;refine qq rfl rfl (u3 1 rfl rfl (by omega)) ?_
    refine rn ?_;refine y9 (fun hg14_4=> ?_) (fun hg14_4=> ?_)
    ·refine rn ?_;refine z7 rfl (fun hc57=> ?_) (fun hc57=> ?_)
     ·refine rn ?_;have hd:x3 s=(65533,1):=by
       unfold x3
       rw [if_neg (by omega)]
       simp only [hx]
       rw [if_neg (by decide),if_neg (show ¬(s.size:Int) < (3:Int) % 8 from of_decide_eq_false hc45),if_pos (show bt s 1 < za8 ((3:Int) / 16).toNat∨za9 ((3:Int) / 16).toNat < bt s 1 from by first|exact .inl (of_decide_eq_true hg14_4)|exact .inr (of_decide_eq_true hc57))]
      exact zcb rfl rfl (.drop1 _ _ _) ⟨rfl,by rw [hd];rfl⟩
     ·first|cases hc57|exact absurd hc57 (by decide)|(exfalso;simp_all;done)
    ·refine rn ?_;refine z7 rfl (fun hc57=> ?_) (fun hc57=> ?_)
     ·refine rn ?_;have hd:x3 s=(65533,1):=by
       unfold x3
       rw [if_neg (by omega)]
       simp only [hx]
       rw [if_neg (by decide),if_neg (show ¬(s.size:Int) < (3:Int) % 8 from of_decide_eq_false hc45),if_pos (show bt s 1 < za8 ((3:Int) / 16).toNat∨za9 ((3:Int) / 16).toNat < bt s 1 from by first|exact .inl (of_decide_eq_true hg14_4)|exact .inr (of_decide_eq_true hc57))]
      exact zcb rfl rfl (.drop1 _ _ _) ⟨rfl,by rw [hd];rfl⟩
     ·refine rn ?_;refine z7 rfl (fun hc59=> ?_) (fun hc59=> ?_)
      ·first|cases hc59|exact absurd hc59 (by decide)|(exfalso;simp_all;done)
      ·refine rn ?_;refine qq rfl rfl (u3 2 rfl rfl (by omega)) ?_
       refine rn ?_;refine y9 (fun hg19_2=> ?_) (fun hg19_2=> ?_)
       ·refine rn ?_;refine z7 rfl (fun hc75=> ?_) (fun hc75=> ?_)
        ·refine rn ?_;have hd:x3 s=(65533,1):=by
          unfold x3
          rw [if_neg (by omega)]
          simp only [hx]
          rw [if_neg (by decide),if_neg (show ¬(s.size:Int) < (3:Int) % 8 from of_decide_eq_false hc45),if_neg (show ¬(bt s 1 < za8 ((3:Int) / 16).toNat∨za9 ((3:Int) / 16).toNat < bt s 1) from fun q=>q.elim (of_decide_eq_false hg14_4) (of_decide_eq_false hc57)),if_neg (by decide),if_pos (show bt s 2 < 128∨191 < bt s 2 from by first|exact .inl (of_decide_eq_true hg19_2)|exact .inr (of_decide_eq_true hc75))]
         exact zcb rfl rfl (.drop1 _ _ _) ⟨rfl,by rw [hd];rfl⟩
        ·first|cases hc75|exact absurd hc75 (by decide)|(exfalso;simp_all;done)
       ·refine rn ?_;refine z7 rfl (fun hc75=> ?_) (fun hc75=> ?_)
        ·refine rn ?_;have hd:x3 s=(65533,1):=by
          unfold x3
          rw [if_neg (by omega)]
          simp only [hx]
          rw [if_neg (by decide),if_neg (show ¬(s.size:Int) < (3:Int) % 8 from of_decide_eq_false hc45),if_neg (show ¬(bt s 1 < za8 ((3:Int) / 16).toNat∨za9 ((3:Int) / 16).toNat < bt s 1) from fun q=>q.elim (of_decide_eq_false hg14_4) (of_decide_eq_false hc57)),if_neg (by decide),if_pos (show bt s 2 < 128∨191 < bt s 2 from by first|exact .inl (of_decide_eq_true hg19_2)|exact .inr (of_decide_eq_true hc75))]
         exact zcb rfl rfl (.drop1 _ _ _) ⟨rfl,by rw [hd];rfl⟩
        ·refine rn ?_;refine z7 rfl (fun hc77=> ?_) (fun hc77=> ?_)
         ·refine rn ?_;have hd:x3 s=(bI .or .i32 (bI .or .i32 (zc6 (bt s 0) 15 12) (zc6 (bt s 1) 63 6)) (zc6 (bt s 2) 63 0),3):=by
           unfold x3
           rw [if_neg (by omega)]
           simp only [hx]
           rw [if_neg (by decide),if_neg (show ¬(s.size:Int) < (3:Int) % 8 from of_decide_eq_false hc45),if_neg (show ¬(bt s 1 < za8 ((3:Int) / 16).toNat∨za9 ((3:Int) / 16).toNat < bt s 1) from fun q=>q.elim (of_decide_eq_false hg14_4) (of_decide_eq_false hc57)),if_neg (by decide),if_neg (show ¬(bt s 2 < 128∨191 < bt s 2) from fun q=>q.elim (of_decide_eq_false hg19_2) (of_decide_eq_false hc75)),if_pos (by decide)]
          exact zcb rfl rfl (.drop1 _ _ _) ⟨rfl,by rw [hd];rfl⟩
         ·first|cases hc77|exact absurd hc77 (by decide)|(exfalso;simp_all;done)
theorem zr4 (s:ByteArray) (hx:zae (bt s 0).toNat=35):x4 Tryz.prog 227 [.v (.string s)] [.glob 5 276 x7,.glob 6 279 y7] (fun r h'=>h'= [.glob 5 276 x7,.glob 6 279 y7]∧r= .tup [.v (.int .i32 (x3 s).1),iv (x3 s).2]):=by
 refine z6 Tryz.func227 rfl rfl rfl ?_
 refine rn ?_;refine z7 rfl (fun hc16=> ?_) (fun hc16=> ?_)
 ·refine rn ?_;have hd:x3 s=(65533,0):=by
   unfold x3
   rw [if_pos (by simp at hc16;omega)]
  exact zcb rfl rfl (.refl _ _) ⟨rfl,by rw [hd];rfl⟩
 ·have h1:0 < s.size:=by simp at hc16;omega
  refine rn ?_;refine qq rfl rfl (u3 0 rfl rfl (by omega)) ?_
  refine rn ?_;refine qq rfl rfl (y8 rfl rfl (zgo _ _) (zgn _ _)) ?_
  refine qq rfl rfl (zaa rfl (show _=some (.v (.int .u8 35)) from by rw [zcr (zgo s 0) (zgn s 0),hx])) ?_
  refine rn ?_;refine z7 rfl (fun hc23=> ?_) (fun hc23=> ?_)
  ·first|cases hc23|exact absurd hc23 (by decide)|(exfalso;simp_all;done)
  ·refine rn ?_;refine qq rfl rfl (y8 rfl rfl (by decide) (by decide)) ?_
   refine rn ?_;refine z8 rfl (y6 rfl fun b9=> ?_)
   refine rn ?_;refine z7 rfl (fun hc45=> ?_) (fun hc45=> ?_)
   ·refine rn ?_;have hd:x3 s=(65533,1):=by
     unfold x3
     rw [if_neg (by omega)]
     simp only [hx]
     rw [if_neg (by decide),if_pos (show (s.size:Int) < (35:Int) % 8 from of_decide_eq_true hc45)]
    exact zcb rfl rfl (.drop1 _ _ _) ⟨rfl,by rw [hd];rfl⟩
   ·have h2:3≤s.size:=by
     have:¬((s.size:Int) < 3):=of_decide_eq_false hc45
     omega
    refine rn ?_;refine qq rfl rfl (u3 1 rfl rfl (by omega)) ?_
    refine rn ?_;refine y9 (fun hg14_4=> ?_) (fun hg14_4=> ?_)
    ·refine rn ?_;refine z7 rfl (fun hc57=> ?_) (fun hc57=> ?_)
     ·refine rn ?_;have hd:x3 s=(65533,1):=by
       unfold x3
       rw [if_neg (by omega)]
       simp only [hx]
       rw [if_neg (by decide),if_neg (show ¬(s.size:Int) < (35:Int) % 8 from of_decide_eq_false hc45),if_pos (show bt s 1 < za8 ((35:Int) / 16).toNat∨za9 ((35:Int) / 16).toNat < bt s 1 from by first|exact .inl (of_decide_eq_true hg14_4)|exact .inr (of_decide_eq_true hc57))]
      exact zcb rfl rfl (.drop1 _ _ _) ⟨rfl,by rw [hd];rfl⟩
     ·first|cases hc57|exact absurd hc57 (by decide)|(exfalso;simp_all;done)
    ·refine rn ?_;refine z7 rfl (fun hc57=> ?_) (fun hc57=> ?_)
     ·refine rn ?_;have hd:x3 s=(65533,1):=by
       unfold x3
       rw [if_neg (by omega)]
       simp only [hx]
       rw [if_neg (by decide),if_neg (show ¬(s.size:Int) < (35:Int) % 8 from of_decide_eq_false hc45),if_pos (show bt s 1 < za8 ((35:Int) / 16).toNat∨za9 ((35:Int) / 16).toNat < bt s 1 from by first|exact .inl (of_decide_eq_true hg14_4)|exact .inr (of_decide_eq_true hc57))]
      exact zcb rfl rfl (.drop1 _ _ _) ⟨rfl,by rw [hd];rfl⟩
     ·refine rn ?_;refine z7 rfl (fun hc59=> ?_) (fun hc59=> ?_)
      ·first|cases hc59|exact absurd hc59 (by decide)|(exfalso;simp_all;done)
      ·refine rn ?_;refine qq rfl rfl (u3 2 rfl rfl (by omega)) ?_
       refine rn ?_;refine y9 (fun hg19_2=> ?_) (fun hg19_2=> ?_)
       ·refine rn ?_;refine z7 rfl (fun hc75=> ?_) (fun hc75=> ?_)
        ·refine rn ?_;have hd:x3 s=(65533,1):=by
          unfold x3
          rw [if_neg (by omega)]
          simp only [hx]
          rw [if_neg (by decide),if_neg (show ¬(s.size:Int) < (35:Int) % 8 from of_decide_eq_false hc45),if_neg (show ¬(bt s 1 < za8 ((35:Int) / 16).toNat∨za9 ((35:Int) / 16).toNat < bt s 1) from fun q=>q.elim (of_decide_eq_false hg14_4) (of_decide_eq_false hc57)),if_neg (by decide),if_pos (show bt s 2 < 128∨191 < bt s 2 from by first|exact .inl (of_decide_eq_true hg19_2)|exact .inr (of_decide_eq_true hc75))]
         exact zcb rfl rfl (.drop1 _ _ _) ⟨rfl,by rw [hd];rfl⟩
        ·first|cases hc75|exact absurd hc75 (by decide)|(exfalso;simp_all;done)
       ·refine rn ?_;refine z7 rfl (fun hc75=> ?_) (fun hc75=> ?_)
        ·refine rn ?_;have hd:x3 s=(65533,1):=by
          unfold x3
          rw [if_neg (by omega)]
          simp only [hx]
          rw [if_neg (by decide),if_neg (show ¬(s.size:Int) < (35:Int) % 8 from of_decide_eq_false hc45),if_neg (show ¬(bt s 1 < za8 ((35:Int) / 16).toNat∨za9 ((35:Int) / 16).toNat < bt s 1) from fun q=>q.elim (of_decide_eq_false hg14_4) (of_decide_eq_false hc57)),if_neg (by decide),if_pos (show bt s 2 < 128∨191 < bt s 2 from by first|exact .inl (of_decide_eq_true hg19_2)|exact .inr (of_decide_eq_true hc75))]
         exact zcb rfl rfl (.drop1 _ _ _) ⟨rfl,by rw [hd];rfl⟩
        ·refine rn ?_;refine z7 rfl (fun hc77=> ?_) (fun hc77=> ?_)
         ·refine rn ?_;have hd:x3 s=(bI .or .i32 (bI .or .i32 (zc6 (bt s 0) 15 12) (zc6 (bt s 1) 63 6)) (zc6 (bt s 2) 63 0),3):=by
           unfold x3
           rw [if_neg (by omega)]
           simp only [hx]
           rw [if_neg (by decide),if_neg (show ¬(s.size:Int) < (35:Int) % 8 from of_decide_eq_false hc45),if_neg (show ¬(bt s 1 < za8 ((35:Int) / 16).toNat∨za9 ((35:Int) / 16).toNat < bt s 1) from fun q=>q.elim (of_decide_eq_false hg14_4) (of_decide_eq_false hc57)),if_neg (by decide),if_neg (show ¬(bt s 2 < 128∨191 < bt s 2) from fun q=>q.elim (of_decide_eq_false hg19_2) (of_decide_eq_false hc75)),if_pos (by decide)]
          exact zcb rfl rfl (.drop1 _ _ _) ⟨rfl,by rw [hd];rfl⟩
         ·first|cases hc77|exact absurd hc77 (by decide)|(exfalso;simp_all;done)
theorem zr3 (s:ByteArray) (hx:zae (bt s 0).toNat=52):x4 Tryz.prog 227 [.v (.string s)] [.glob 5 276 x7,.glob 6 279 y7] (fun r h'=>h'= [.glob 5 276 x7,.glob 6 279 y7]∧r= .tup [.v (.int .i32 (x3 s).1),iv (x3 s).2]):=by
 refine z6 Tryz.func227 rfl rfl rfl ?_
 refine rn ?_;refine z7 rfl (fun hc16=> ?_) (fun hc16=> ?_)
 ·refine rn ?_;have hd:x3 s=(65533,0):=by
   unfold x3
   rw [if_pos (by simp at hc16;omega)]
  exact zcb rfl rfl (.refl _ _) ⟨rfl,by rw [hd];rfl⟩
 ·have h1:0 < s.size:=by simp at hc16;omega
  refine rn ?_;refine qq rfl rfl (u3 0 rfl rfl (by omega)) ?_
  refine rn ?_;refine qq rfl rfl (y8 rfl rfl (zgo _ _) (zgn _ _)) ?_
  refine qq rfl rfl (zaa rfl (show _=some (.v (.int .u8 52)) from by rw [zcr (zgo s 0) (zgn s 0),hx])) ?_
  refine rn ?_;refine z7 rfl (fun hc23=> ?_) (fun hc23=> ?_)
  ·first|cases hc23|exact absurd hc23 (by decide)|(exfalso;simp_all;done)
  ·refine rn ?_;refine qq rfl rfl (y8 rfl rfl (by decide) (by decide)) ?_
   refine rn ?_;refine z8 rfl (y6 rfl fun b9=> ?_)
   refine rn ?_;refine z7 rfl (fun hc45=> ?_) (fun hc45=> ?_)
   ·refine rn ?_;have hd:x3 s=(65533,1):=by
     unfold x3
     rw [if_neg (by omega)]
     simp only [hx]
     rw [if_neg (by decide),if_pos (show (s.size:Int) < (52:Int) % 8 from of_decide_eq_true hc45)]
    exact zcb rfl rfl (.drop1 _ _ _) ⟨rfl,by rw [hd];rfl⟩
   ·have h2:4≤s.size:=by
     have:¬((s.size:Int) < 4):=of_decide_eq_false hc45
     omega
    refine rn ?_;refine qq rfl rfl (u3 1 rfl rfl (by omega)) ?_
    refine rn ?_;refine y9 (fun hg14_4=> ?_) (fun hg14_4=> ?_)
    ·refine rn ?_;refine z7 rfl (fun hc57=> ?_) (fun hc57=> ?_)
     ·refine rn ?_;have hd:x3 s=(65533,1):=by
       unfold x3
       rw [if_neg (by omega)]
       simp only [hx]
       rw [if_neg (by decide),if_neg (show ¬(s.size:Int) < (52:Int) % 8 from of_decide_eq_false hc45),if_pos (show bt s 1 < za8 ((52:Int) / 16).toNat∨za9 ((52:Int) / 16).toNat < bt s 1 from by first|exact .inl (of_decide_eq_true hg14_4)|exact .inr (of_decide_eq_true hc57))]
      exact zcb rfl rfl (.drop1 _ _ _) ⟨rfl,by rw [hd];rfl⟩
     ·first|cases hc57|exact absurd hc57 (by decide)|(exfalso;simp_all;done)
    ·refine rn ?_;refine z7 rfl (fun hc57=> ?_) (fun hc57=> ?_)
     ·refine rn ?_;have hd:x3 s=(65533,1):=by
       unfold x3
       rw [if_neg (by omega)]
       simp only [hx]
       rw [if_neg (by decide),if_neg (show ¬(s.size:Int) < (52:Int) % 8 from of_decide_eq_false hc45),if_pos (show bt s 1 < za8 ((52:Int) / 16).toNat∨za9 ((52:Int) / 16).toNat < bt s 1 from by first|exact .inl (of_decide_eq_true hg14_4)|exact .inr (of_decide_eq_true hc57))]
      exact zcb rfl rfl (.drop1 _ _ _) ⟨rfl,by rw [hd];rfl⟩
     ·refine rn ?_;refine z7 rfl (fun hc59=> ?_) (fun hc59=> ?_)
      ·first|cases hc59|exact absurd hc59 (by decide)|(exfalso;simp_all;done)
      ·refine rn ?_;refine qq rfl rfl (u3 2 rfl rfl (by omega)) ?_
       refine rn ?_;refine y9 (fun hg19_2=> ?_) (fun hg19_2=> ?_)
       ·refine rn ?_;refine z7 rfl (fun hc75=> ?_) (fun hc75=> ?_)
        ·refine rn ?_;have hd:x3 s=(65533,1):=by
          unfold x3
          rw [if_neg (by omega)]
          simp only [hx]
          rw [if_neg (by decide),if_neg (show ¬(s.size:Int) < (52:Int) % 8 from of_decide_eq_false hc45),if_neg (show ¬(bt s 1 < za8 ((52:Int) / 16).toNat∨za9 ((52:Int) / 16).toNat < bt s 1) from fun q=>q.elim (of_decide_eq_false hg14_4) (of_decide_eq_false hc57)),if_neg (by decide),if_pos (show bt s 2 < 128∨191 < bt s 2 from by first|exact .inl (of_decide_eq_true hg19_2)|exact .inr (of_decide_eq_true hc75))]
         exact zcb rfl rfl (.drop1 _ _ _) ⟨rfl,by rw [hd];rfl⟩
        ·first|cases hc75|exact absurd hc75 (by decide)|(exfalso;simp_all;done)
       ·refine rn ?_;refine z7 rfl (fun hc75=> ?_) (fun hc75=> ?_)
        ·refine rn ?_;have hd:x3 s=(65533,1):=by
          unfold x3
          rw [if_neg (by omega)]
          simp only [hx]
          rw [if_neg (by decide),if_neg (show ¬(s.size:Int) < (52:Int) % 8 from of_decide_eq_false hc45),if_neg (show ¬(bt s 1 < za8 ((52:Int) / 16).toNat∨za9 ((52:Int) / 16).toNat < bt s 1) from fun q=>q.elim (of_decide_eq_false hg14_4) (of_decide_eq_false hc57)),if_neg (by decide),if_pos (show bt s 2 < 128∨191 < bt s 2 from by first|exact .inl (of_decide_eq_true hg19_2)|exact .inr (of_decide_eq_true hc75))]
         exact zcb rfl rfl (.drop1 _ _ _) ⟨rfl,by rw [hd];rfl⟩
        ·refine rn ?_;refine z7 rfl (fun hc77=> ?_) (fun hc77=> ?_)
         ·first|cases hc77|exact absurd hc77 (by decide)|(exfalso;simp_all;done)
         ·refine rn ?_;refine qq rfl rfl (u3 3 rfl rfl (by omega)) ?_
          refine rn ?_;refine y9 (fun hg24_2=> ?_) (fun hg24_2=> ?_)
          ·refine rn ?_;refine z7 rfl (fun hc98=> ?_) (fun hc98=> ?_)
           ·refine rn ?_;have hd:x3 s=(65533,1):=by
             unfold x3
             rw [if_neg (by omega)]
             simp only [hx]
             rw [if_neg (by decide),if_neg (show ¬(s.size:Int) < (52:Int) % 8 from of_decide_eq_false hc45),if_neg (show ¬(bt s 1 < za8 ((52:Int) / 16).toNat∨za9 ((52:Int) / 16).toNat < bt s 1) from fun q=>q.elim (of_decide_eq_false hg14_4) (of_decide_eq_false hc57)),if_neg (by decide),if_neg (show ¬(bt s 2 < 128∨191 < bt s 2) from fun q=>q.elim (of_decide_eq_false hg19_2) (of_decide_eq_false hc75)),if_neg (by decide),if_pos (show bt s 3 < 128∨191 < bt s 3 from by first|exact .inl (of_decide_eq_true hg24_2)|exact .inr (of_decide_eq_true hc98))]
            exact zcb rfl rfl (.drop1 _ _ _) ⟨rfl,by rw [hd];rfl⟩
           ·first|cases hc98|exact absurd hc98 (by decide)|(exfalso;simp_all;done)
          ·refine rn ?_;refine z7 rfl (fun hc98=> ?_) (fun hc98=> ?_)
           ·refine rn ?_;have hd:x3 s=(65533,1):=by
             unfold x3
             rw [if_neg (by omega)]
             simp only [hx]
             rw [if_neg (by decide),if_neg (show ¬(s.size:Int) < (52:Int) % 8 from of_decide_eq_false hc45),if_neg (show ¬(bt s 1 < za8 ((52:Int) / 16).toNat∨za9 ((52:Int) / 16).toNat < bt s 1) from fun q=>q.elim (of_decide_eq_false hg14_4) (of_decide_eq_false hc57)),if_neg (by decide),if_neg (show ¬(bt s 2 < 128∨191 < bt s 2) from fun q=>q.elim (of_decide_eq_false hg19_2) (of_decide_eq_false hc75)),if_neg (by decide),if_pos (show bt s 3 < 128∨191 < bt s 3 from by first|exact .inl (of_decide_eq_true hg24_2)|exact .inr (of_decide_eq_true hc98))]
            exact zcb rfl rfl (.drop1 _ _ _) ⟨rfl,by rw [hd];rfl⟩
           ·refine rn ?_;have hd:x3 s=(bI .or .i32 (bI .or .i32 (bI .or .i32 (zc6 (bt s 0) 7 18) (zc6 (bt s 1) 63 12)) (zc6 (bt s 2) 63 6)) (zc6 (bt s 3) 63 0),4):=by
             unfold x3
             rw [if_neg (by omega)]
             simp only [hx]
             rw [if_neg (by decide),if_neg (show ¬(s.size:Int) < (52:Int) % 8 from of_decide_eq_false hc45),if_neg (show ¬(bt s 1 < za8 ((52:Int) / 16).toNat∨za9 ((52:Int) / 16).toNat < bt s 1) from fun q=>q.elim (of_decide_eq_false hg14_4) (of_decide_eq_false hc57)),if_neg (by decide),if_neg (show ¬(bt s 2 < 128∨191 < bt s 2) from fun q=>q.elim (of_decide_eq_false hg19_2) (of_decide_eq_false hc75)),if_neg (by decide),if_neg (show ¬(bt s 3 < 128∨191 < bt s 3) from fun q=>q.elim (of_decide_eq_false hg24_2) (of_decide_eq_false hc98))]
            exact zcb rfl rfl (.drop1 _ _ _) ⟨rfl,by rw [hd];rfl⟩
theorem zt6 (s:ByteArray) (hx:zae (bt s 0).toNat=4):x4 Tryz.prog 227 [.v (.string s)] [.glob 5 276 x7,.glob 6 279 y7] (fun r h'=>h'= [.glob 5 276 x7,.glob 6 279 y7]∧r= .tup [.v (.int .i32 (x3 s).1),iv (x3 s).2]):=by
 refine z6 Tryz.func227 rfl rfl rfl ?_
 refine rn ?_;refine z7 rfl (fun hc16=> ?_) (fun hc16=> ?_)
 ·refine rn ?_;have hd:x3 s=(65533,0):=by
   unfold x3
   rw [if_pos (by simp at hc16;omega)]
  exact zcb rfl rfl (.refl _ _) ⟨rfl,by rw [hd];rfl⟩
 ·have h1:0 < s.size:=by simp at hc16;omega
  refine rn ?_;refine qq rfl rfl (u3 0 rfl rfl (by omega)) ?_
  refine rn ?_;refine qq rfl rfl (y8 rfl rfl (zgo _ _) (zgn _ _)) ?_
  refine qq rfl rfl (zaa rfl (show _=some (.v (.int .u8 4)) from by rw [zcr (zgo s 0) (zgn s 0),hx])) ?_
  refine rn ?_;refine z7 rfl (fun hc23=> ?_) (fun hc23=> ?_)
  ·first|cases hc23|exact absurd hc23 (by decide)|(exfalso;simp_all;done)
  ·refine rn ?_;refine qq rfl rfl (y8 rfl rfl (by decide) (by decide)) ?_
   refine rn ?_;refine z8 rfl (y6 rfl fun b9=> ?_)
   refine rn ?_;refine z7 rfl (fun hc45=> ?_) (fun hc45=> ?_)
   ·refine rn ?_;have hd:x3 s=(65533,1):=by
     unfold x3
     rw [if_neg (by omega)]
     simp only [hx]
     rw [if_neg (by decide),if_pos (show (s.size:Int) < (4:Int) % 8 from of_decide_eq_true hc45)]
    exact zcb rfl rfl (.drop1 _ _ _) ⟨rfl,by rw [hd];rfl⟩
   ·have h2:4≤s.size:=by
     have:¬((s.size:Int) < 4):=of_decide_eq_false hc45
     omega
    refine rn ?_;refine qq rfl rfl (u3 1 rfl rfl (by omega)) ?_
    refine rn ?_;refine y9 (fun hg14_4=> ?_) (fun hg14_4=> ?_)
    ·refine rn ?_;refine z7 rfl (fun hc57=> ?_) (fun hc57=> ?_)
     ·refine rn ?_;have hd:x3 s=(65533,1):=by
       unfold x3
       rw [if_neg (by omega)]
       simp only [hx]
       rw [if_neg (by decide),if_neg (show ¬(s.size:Int) < (4:Int) % 8 from of_decide_eq_false hc45),if_pos (show bt s 1 < za8 ((4:Int) / 16).toNat∨za9 ((4:Int) / 16).toNat < bt s 1 from by first|exact .inl (of_decide_eq_true hg14_4)|exact .inr (of_decide_eq_true hc57))]
      exact zcb rfl rfl (.drop1 _ _ _) ⟨rfl,by rw [hd];rfl⟩
     ·first|cases hc57|exact absurd hc57 (by decide)|(exfalso;simp_all;done)
    ·refine rn ?_;refine z7 rfl (fun hc57=> ?_) (fun hc57=> ?_)
     ·refine rn ?_;have hd:x3 s=(65533,1):=by
       unfold x3
       rw [if_neg (by omega)]
       simp only [hx]
       rw [if_neg (by decide),if_neg (show ¬(s.size:Int) < (4:Int) % 8 from of_decide_eq_false hc45),if_pos (show bt s 1 < za8 ((4:Int) / 16).toNat∨za9 ((4:Int) / 16).toNat < bt s 1 from by first|exact .inl (of_decide_eq_true hg14_4)|exact .inr (of_decide_eq_true hc57))]
      exact zcb rfl rfl (.drop1 _ _ _) ⟨rfl,by rw [hd];rfl⟩
     ·refine rn ?_;refine z7 rfl (fun hc59=> ?_) (fun hc59=> ?_)
      ·first|cases hc59|exact absurd hc59 (by decide)|(exfalso;simp_all;done)
      ·refine rn ?_;refine qq rfl rfl (u3 2 rfl rfl (by omega)) ?_
       refine rn ?_;refine y9 (fun hg19_2=> ?_) (fun hg19_2=> ?_)
       ·refine rn ?_;refine z7 rfl (fun hc75=> ?_) (fun hc75=> ?_)
        ·refine rn ?_;have hd:x3 s=(65533,1):=by
          unfold x3
          rw [if_neg (by omega)]
          simp only [hx]
          rw [if_neg (by decide),if_neg (show ¬(s.size:Int) < (4:Int) % 8 from of_decide_eq_false hc45),if_neg (show ¬(bt s 1 < za8 ((4:Int) / 16).toNat∨za9 ((4:Int) / 16).toNat < bt s 1) from fun q=>q.elim (of_decide_eq_false hg14_4) (of_decide_eq_false hc57)),if_neg (by decide),if_pos (show bt s 2 < 128∨191 < bt s 2 from by first|exact .inl (of_decide_eq_true hg19_2)|exact .inr (of_decide_eq_true hc75))]
         exact zcb rfl rfl (.drop1 _ _ _) ⟨rfl,by rw [hd];rfl⟩
        ·first|cases hc75|exact absurd hc75 (by decide)|(exfalso;simp_all;done)
       ·refine rn ?_;refine z7 rfl (fun hc75=> ?_) (fun hc75=> ?_)
        ·refine rn ?_;have hd:x3 s=(65533,1):=by
          unfold x3
          rw [if_neg (by omega)]
          simp only [hx]
          rw [if_neg (by decide),if_neg (show ¬(s.size:Int) < (4:Int) % 8 from of_decide_eq_false hc45),if_neg (show ¬(bt s 1 < za8 ((4:Int) / 16).toNat∨za9 ((4:Int) / 16).toNat < bt s 1) from fun q=>q.elim (of_decide_eq_false hg14_4) (of_decide_eq_false hc57)),if_neg (by decide),if_pos (show bt s 2 < 128∨191 < bt s 2 from by first|exact .inl (of_decide_eq_true hg19_2)|exact .inr (of_decide_eq_true hc75))]
         exact zcb rfl rfl (.drop1 _ _ _) ⟨rfl,by rw [hd];rfl⟩
        ·refine rn ?_;refine z7 rfl (fun hc77=> ?_) (fun hc77=> ?_)
         ·first|cases hc77|exact absurd hc77 (by decide)|(exfalso;simp_all;done)
         ·refine rn ?_;refine qq rfl rfl (u3 3 rfl rfl (by omega)) ?_
          refine rn ?_;refine y9 (fun hg24_2=> ?_) (fun hg24_2=> ?_)
          ·refine rn ?_;refine z7 rfl (fun hc98=> ?_) (fun hc98=> ?_)
           ·refine rn ?_;have hd:x3 s=(65533,1):=by
             unfold x3
             rw [if_neg (by omega)]
             simp only [hx]
             rw [if_neg (by decide),if_neg (show ¬(s.size:Int) < (4:Int) % 8 from of_decide_eq_false hc45),if_neg (show ¬(bt s 1 < za8 ((4:Int) / 16).toNat∨za9 ((4:Int) / 16).toNat < bt s 1) from fun q=>q.elim (of_decide_eq_false hg14_4) (of_decide_eq_false hc57)),if_neg (by decide),if_neg (show ¬(bt s 2 < 128∨191 < bt s 2) from fun q=>q.elim (of_decide_eq_false hg19_2) (of_decide_eq_false hc75)),if_neg (by decide),if_pos (show bt s 3 < 128∨191 < bt s 3 from by first|exact .inl (of_decide_eq_true hg24_2)|exact .inr (of_decide_eq_true hc98))]
            exact zcb rfl rfl (.drop1 _ _ _) ⟨rfl,by rw [hd];rfl⟩
           ·first|cases hc98|exact absurd hc98 (by decide)|(exfalso;simp_all;done)
          ·refine rn ?_;refine z7 rfl (fun hc98=> ?_) (fun hc98=> ?_)
           ·refine rn ?_;have hd:x3 s=(65533,1):=by
             unfold x3
             rw [if_neg (by omega)]
             simp only [hx]
             rw [if_neg (by decide),if_neg (show ¬(s.size:Int) < (4:Int) % 8 from of_decide_eq_false hc45),if_neg (show ¬(bt s 1 < za8 ((4:Int) / 16).toNat∨za9 ((4:Int) / 16).toNat < bt s 1) from fun q=>q.elim (of_decide_eq_false hg14_4) (of_decide_eq_false hc57)),if_neg (by decide),if_neg (show ¬(bt s 2 < 128∨191 < bt s 2) from fun q=>q.elim (of_decide_eq_false hg19_2) (of_decide_eq_false hc75)),if_neg (by decide),if_pos (show bt s 3 < 128∨191 < bt s 3 from by first|exact .inl (of_decide_eq_true hg24_2)|exact .inr (of_decide_eq_true hc98))]
            exact zcb rfl rfl (.drop1 _ _ _) ⟨rfl,by rw [hd];rfl⟩
           ·refine rn ?_;have hd:x3 s=(bI .or .i32 (bI .or .i32 (bI .or .i32 (zc6 (bt s 0) 7 18) (zc6 (bt s 1) 63 12)) (zc6 (bt s 2) 63 6)) (zc6 (bt s 3) 63 0),4):=by
             unfold x3
             rw [if_neg (by omega)]
             simp only [hx]
             rw [if_neg (by decide),if_neg (show ¬(s.size:Int) < (4:Int) % 8 from of_decide_eq_false hc45),if_neg (show ¬(bt s 1 < za8 ((4:Int) / 16).toNat∨za9 ((4:Int) / 16).toNat < bt s 1) from fun q=>q.elim (of_decide_eq_false hg14_4) (of_decide_eq_false hc57)),if_neg (by decide),if_neg (show ¬(bt s 2 < 128∨191 < bt s 2) from fun q=>q.elim (of_decide_eq_false hg19_2) (of_decide_eq_false hc75)),if_neg (by decide),if_neg (show ¬(bt s 3 < 128∨191 < bt s 3) from fun q=>q.elim (of_decide_eq_false hg24_2) (of_decide_eq_false hc98))]
            exact zcb rfl rfl (.drop1 _ _ _) ⟨rfl,by rw [hd];rfl⟩
theorem zr2 (s:ByteArray) (hx:zae (bt s 0).toNat=68):x4 Tryz.prog 227 [.v (.string s)] [.glob 5 276 x7,.glob 6 279 y7] (fun r h'=>h'= [.glob 5 276 x7,.glob 6 279 y7]∧r= .tup [.v (.int .i32 (x3 s).1),iv (x3 s).2]):=by
 refine z6 Tryz.func227 rfl rfl rfl ?_
 refine rn ?_;refine z7 rfl (fun hc16=> ?_) (fun hc16=> ?_)
 ·refine rn ?_;have hd:x3 s=(65533,0):=by
   unfold x3
   rw [if_pos (by simp at hc16;omega)]
  exact zcb rfl rfl (.refl _ _) ⟨rfl,by rw [hd];rfl⟩
 ·have h1:0 < s.size:=by simp at hc16;omega
  refine rn ?_;refine qq rfl rfl (u3 0 rfl rfl (by omega)) ?_
  refine rn ?_;refine qq rfl rfl (y8 rfl rfl (zgo _ _) (zgn _ _)) ?_
  refine qq rfl rfl (zaa rfl (show _=some (.v (.int .u8 68)) from by rw [zcr (zgo s 0) (zgn s 0),hx])) ?_
  refine rn ?_;refine z7 rfl (fun hc23=> ?_) (fun hc23=> ?_)
  ·first|cases hc23|exact absurd hc23 (by decide)|(exfalso;simp_all;done)
  ·refine rn ?_;refine qq rfl rfl (y8 rfl rfl (by decide) (by decide)) ?_
   refine rn ?_;refine z8 rfl (y6 rfl fun b9=> ?_)
   refine rn ?_;refine z7 rfl (fun hc45=> ?_) (fun hc45=> ?_)
   ·refine rn ?_;have hd:x3 s=(65533,1):=by
     unfold x3
     rw [if_neg (by omega)]
     simp only [hx]
     rw [if_neg (by decide),if_pos (show (s.size:Int) < (68:Int) % 8 from of_decide_eq_true hc45)]
    exact zcb rfl rfl (.drop1 _ _ _) ⟨rfl,by rw [hd];rfl⟩
   ·have h2:4≤s.size:=by
     have:¬((s.size:Int) < 4):=of_decide_eq_false hc45
     omega
    refine rn ?_;refine qq rfl rfl (u3 1 rfl rfl (by omega)) ?_
    refine rn ?_;refine y9 (fun hg14_4=> ?_) (fun hg14_4=> ?_)
    ·refine rn ?_;refine z7 rfl (fun hc57=> ?_) (fun hc57=> ?_)
     ·refine rn ?_;have hd:x3 s=(65533,1):=by
       unfold x3
       rw [if_neg (by omega)]
       simp only [hx]
       rw [if_neg (by decide),if_neg (show ¬(s.size:Int) < (68:Int) % 8 from of_decide_eq_false hc45),if_pos (show bt s 1 < za8 ((68:Int) / 16).toNat∨za9 ((68:Int) / 16).toNat < bt s 1 from by first|exact .inl (of_decide_eq_true hg14_4)|exact .inr (of_decide_eq_true hc57))]
      exact zcb rfl rfl (.drop1 _ _ _) ⟨rfl,by rw [hd];rfl⟩
     ·first|cases hc57|exact absurd hc57 (by decide)|(exfalso;simp_all;done)
    ·refine rn ?_;refine z7 rfl (fun hc57=> ?_) (fun hc57=> ?_)
     ·refine rn ?_;have hd:x3 s=(65533,1):=by
       unfold x3
       rw [if_neg (by omega)]
       simp only [hx]
       rw [if_neg (by decide),if_neg (show ¬(s.size:Int) < (68:Int) % 8 from of_decide_eq_false hc45),if_pos (show bt s 1 < za8 ((68:Int) / 16).toNat∨za9 ((68:Int) / 16).toNat < bt s 1 from by first|exact .inl (of_decide_eq_true hg14_4)|exact .inr (of_decide_eq_true hc57))]
      exact zcb rfl rfl (.drop1 _ _ _) ⟨rfl,by rw [hd];rfl⟩
     ·refine rn ?_;refine z7 rfl (fun hc59=> ?_) (fun hc59=> ?_)
      ·first|cases hc59|exact absurd hc59 (by decide)|(exfalso;simp_all;done)
      ·refine rn ?_;refine qq rfl rfl (u3 2 rfl rfl (by omega)) ?_
       refine rn ?_;refine y9 (fun hg19_2=> ?_) (fun hg19_2=> ?_)
       ·refine rn ?_;refine z7 rfl (fun hc75=> ?_) (fun hc75=> ?_)
        ·refine rn ?_;have hd:x3 s=(65533,1):=by
          unfold x3
          rw [if_neg (by omega)]
          simp only [hx]
          rw [if_neg (by decide),if_neg (show ¬(s.size:Int) < (68:Int) % 8 from of_decide_eq_false hc45),if_neg (show ¬(bt s 1 < za8 ((68:Int) / 16).toNat∨za9 ((68:Int) / 16).toNat < bt s 1) from fun q=>q.elim (of_decide_eq_false hg14_4) (of_decide_eq_false hc57)),if_neg (by decide),if_pos (show bt s 2 < 128∨191 < bt s 2 from by first|exact .inl (of_decide_eq_true hg19_2)|exact .inr (of_decide_eq_true hc75))]
         exact zcb rfl rfl (.drop1 _ _ _) ⟨rfl,by rw [hd];rfl⟩
        ·first|cases hc75|exact absurd hc75 (by decide)|(exfalso;simp_all;done)
       ·refine rn ?_;refine z7 rfl (fun hc75=> ?_) (fun hc75=> ?_)
        ·refine rn ?_;have hd:x3 s=(65533,1):=by
          unfold x3
          rw [if_neg (by omega)]
          simp only [hx]
          rw [if_neg (by decide),if_neg (show ¬(s.size:Int) < (68:Int) % 8 from of_decide_eq_false hc45),if_neg (show ¬(bt s 1 < za8 ((68:Int) / 16).toNat∨za9 ((68:Int) / 16).toNat < bt s 1) from fun q=>q.elim (of_decide_eq_false hg14_4) (of_decide_eq_false hc57)),if_neg (by decide),if_pos (show bt s 2 < 128∨191 < bt s 2 from by first|exact .inl (of_decide_eq_true hg19_2)|exact .inr (of_decide_eq_true hc75))]
         exact zcb rfl rfl (.drop1 _ _ _) ⟨rfl,by rw [hd];rfl⟩
        ·refine rn ?_;refine z7 rfl (fun hc77=> ?_) (fun hc77=> ?_)
         ·first|cases hc77|exact absurd hc77 (by decide)|(exfalso;simp_all;done)
         ·refine rn ?_;refine qq rfl rfl (u3 3 rfl rfl (by omega)) ?_
          refine rn ?_;refine y9 (fun hg24_2=> ?_) (fun hg24_2=> ?_)
          ·refine rn ?_;refine z7 rfl (fun hc98=> ?_) (fun hc98=> ?_)
           ·refine rn ?_;have hd:x3 s=(65533,1):=by
             unfold x3
             rw [if_neg (by omega)]
             simp only [hx]
             rw [if_neg (by decide),if_neg (show ¬(s.size:Int) < (68:Int) % 8 from of_decide_eq_false hc45),if_neg (show ¬(bt s 1 < za8 ((68:Int) / 16).toNat∨za9 ((68:Int) / 16).toNat < bt s 1) from fun q=>q.elim (of_decide_eq_false hg14_4) (of_decide_eq_false hc57)),if_neg (by decide),if_neg (show ¬(bt s 2 < 128∨191 < bt s 2) from fun q=>q.elim (of_decide_eq_false hg19_2) (of_decide_eq_false hc75)),if_neg (by decide),if_pos (show bt s 3 < 128∨191 < bt s 3 from by first|exact .inl (of_decide_eq_true hg24_2)|exact .inr (of_decide_eq_true hc98))]
            exact zcb rfl rfl (.drop1 _ _ _) ⟨rfl,by rw [hd];rfl⟩
           ·first|cases hc98|exact absurd hc98 (by decide)|(exfalso;simp_all;done)
          ·refine rn ?_;refine z7 rfl (fun hc98=> ?_) (fun hc98=> ?_)
           ·refine rn ?_;have hd:x3 s=(65533,1):=by
             unfold x3
             rw [if_neg (by omega)]
             simp only [hx]
             rw [if_neg (by decide),if_neg (show ¬(s.size:Int) < (68:Int) % 8 from of_decide_eq_false hc45),if_neg (show ¬(bt s 1 < za8 ((68:Int) / 16).toNat∨za9 ((68:Int) / 16).toNat < bt s 1) from fun q=>q.elim (of_decide_eq_false hg14_4) (of_decide_eq_false hc57)),if_neg (by decide),if_neg (show ¬(bt s 2 < 128∨191 < bt s 2) from fun q=>q.elim (of_decide_eq_false hg19_2) (of_decide_eq_false hc75)),if_neg (by decide),if_pos (show bt s 3 < 128∨191 < bt s 3 from by first|exact .inl (of_decide_eq_true hg24_2)|exact .inr (of_decide_eq_true hc98))]
            exact zcb rfl rfl (.drop1 _ _ _) ⟨rfl,by rw [hd];rfl⟩
           ·refine rn ?_;have hd:x3 s=(bI .or .i32 (bI .or .i32 (bI .or .i32 (zc6 (bt s 0) 7 18) (zc6 (bt s 1) 63 12)) (zc6 (bt s 2) 63 6)) (zc6 (bt s 3) 63 0),4):=by
             unfold x3
             rw [if_neg (by omega)]
             simp only [hx]
             rw [if_neg (by decide),if_neg (show ¬(s.size:Int) < (68:Int) % 8 from of_decide_eq_false hc45),if_neg (show ¬(bt s 1 < za8 ((68:Int) / 16).toNat∨za9 ((68:Int) / 16).toNat < bt s 1) from fun q=>q.elim (of_decide_eq_false hg14_4) (of_decide_eq_false hc57)),if_neg (by decide),if_neg (show ¬(bt s 2 < 128∨191 < bt s 2) from fun q=>q.elim (of_decide_eq_false hg19_2) (of_decide_eq_false hc75)),if_neg (by decide),if_neg (show ¬(bt s 3 < 128∨191 < bt s 3) from fun q=>q.elim (of_decide_eq_false hg24_2) (of_decide_eq_false hc98))]
            exact zcb rfl rfl (.drop1 _ _ _) ⟨rfl,by rw [hd];rfl⟩
theorem zn9 (s:ByteArray):x4 Tryz.prog 227 [.v (.string s)] [.glob 5 276 x7,.glob 6 279 y7] (fun r h'=>h'= [.glob 5 276 x7,.glob 6 279 y7]∧r= .tup [.v (.int .i32 (x3 s).1),iv (x3 s).2]):=by
 rcases zec (bt s 0).toNat with hx|hx|hx|hx|hx|hx|hx|hx|hx
 ·exact zpt s hx
 ·exact zps s hx
 ·exact zt8 s hx
 ·exact zr5 s hx
 ·exact zt7 s hx
 ·exact zr4 s hx
 ·exact zr3 s hx
 ·exact zt6 s hx
 ·exact zr2 s hx
theorem zxr (s:ByteArray):x4 Tryz.prog 221 [.v (.string s)] [.glob 5 276 x7,.glob 6 279 y7] (fun r h'=>h'= [.glob 5 276 x7,.glob 6 279 y7]∧r= .tup [.v (.int .i32 (zey s).1),iv (zey s).2]):=by
 refine z6 Tryz.func221 rfl rfl rfl ?_
 refine rn ?_;refine y9 (fun hg1_2=> ?_) (fun hg1_2=> ?_)
 ·refine rn ?_;have h1:0 < s.size:=zym hg1_2
  refine qq rfl rfl (u3 0 rfl rfl (by omega)) ?_
  refine rn ?_;refine z7 rfl (fun hc10=> ?_) (fun hc10=> ?_)
  ·refine rn ?_;refine qq rfl rfl (u3 0 rfl rfl (by omega)) ?_
   refine rn ?_;have hd:zey s=(bt s 0,1):=by
    unfold zey
    exact if_pos ⟨zym hg1_2,of_decide_eq_true hc10⟩
   exact zcb rfl rfl (.refl _ _) ⟨rfl,by rw [hd];exact congrArg (fun c=>AV.tup [.v (.int .i32 c),iv 1]) (yb3 s 0)⟩
  ·refine rn ?_;refine qv rfl rfl (y4 rfl rfl (y3.of_fun (zn9 s))) ?_
   refine rn ?_;have hd:zey s=x3 s:=by
    unfold zey
    exact if_neg fun q=>by first|exact ygq hg1_2 q.1|exact absurd q.2 (of_decide_eq_false hc10)
   exact zcb rfl rfl (.refl _ _) ⟨rfl,by rw [hd];rfl⟩
 ·refine rn ?_;refine ze2 rfl ?_;refine rn ?_;refine qv rfl rfl (y4 rfl rfl (y3.of_fun (zn9 s))) ?_
  refine rn ?_;have hd:zey s=x3 s:=by
   unfold zey
   exact if_neg fun q=>by first|exact ygq hg1_2 q.1|exact absurd q.2 (of_decide_eq_false hc10)
  exact zcb rfl rfl (.refl _ _) ⟨rfl,by rw [hd];rfl⟩
theorem ybm {f g:Bool} (l m:List Seen) (hl:l.length≤4611686018427387904) (hm:m.length≤4611686018427387904):x4 Tryz.prog 129 [.list f 3 (l.map zaz),.list g 3 (m.map zaz)] [] (fun r h'=>h'= []∧r=bv (eqF zfq l m)):=by
 refine z6 Tryz.func129 rfl rfl rfl ?_
 refine rn ?_;refine z7 rfl (fun hc10=> ?_) (fun hc10=> ?_)
 ·refine rn ?_;have hne:(l.length==m.length)=false:=beq_eq_false_iff_ne.2 fun q=>by simp [q] at hc10
  exact u9 rfl (.refl _ _) ⟨rfl,by rw [eqF,hne,Bool.false_and];rfl⟩
 ·have hlm:l.length=m.length:=by simp at hc10;omega
  refine rn ?_;refine j3 (fun k:Nat=>k≤l.length∧zm7 zfq l m=zm7 zfq (l.drop k) (m.drop k)) (fun k=>⟨[(13,iv k),(12,iv (l.map zaz).length),(0,.list f 3 (l.map zaz)),(1,.list g 3 (m.map zaz))],[],[]⟩) (fun k=>l.length - k) 0 ⟨Nat.zero_le _,by simp⟩
   (w8 (.cons _ _ _ rfl (.cons _ _ _ rfl (.cons _ _ _ rfl (.cons _ _ _ rfl (.nil)))))) ?_
  rintro k ⟨hk,hz⟩
  refine rn ?_;refine z7 rfl (fun hc14=> ?_) (fun hc14=> ?_)
  ·have hk2:k < l.length:=by simpa using hc14
   have hk3:k < m.length:=by omega
   have hrow1:(l.map zaz)[k]? =some (zaz l[k]):=by simp [hk2]
   have hrow2:(m.map zaz)[k]? =some (zaz m[k]):=by simp [hk3]
   have hd1:=List.drop_eq_getElem_cons hk2
   have hd2:=List.drop_eq_getElem_cons hk3
   refine rn ?_;refine j6 8 rfl ?_
   refine rn ?_;refine z7 rfl (fun hc24=> ?_) (fun hc24=> ?_)
   ·refine rn ?_;exact u9 rfl (.refl _ _) ⟨rfl,by rw [eqF,hz,hd1,hd2,zm7,show zfq l[k] m[k]=false from zq8 hc24,Bool.false_and,Bool.and_false];rfl⟩
   ·refine rn ?_;exact ⟨k+1,⟨by omega,by rw [hz,hd1,hd2,zm7,show zfq l[k] m[k]=true from zq9 hc24,Bool.true_and]⟩,(w8 (.cons _ _ _ rfl (.cons _ _ _ rfl (.cons _ _ _ rfl (.cons _ _ _ rfl (.nil)))))),by omega⟩
  ·have hk3:k=l.length:=by
    have:l.length≤k:=by simpa using hc14
    omega
   refine rn ?_;exact u9 rfl (.refl _ _) ⟨rfl,by rw [eqF,hz,hk3,List.drop_length,zkx,hlm,beq_self_eq_true];rfl⟩
theorem zxm (l:Int):x4 Tryz.prog 176 [iv l] [] (fun r h'=>h'= []∧r=iv (yfc l)):=by
 refine z6 Tryz.func176 rfl rfl rfl ?_
 refine rn ?_;refine y9 (fun hg1_2=> ?_) (fun hg1_2=> ?_)
 ·refine rn ?_;refine zdf rfl ?_;refine rn ?_;exact u9 rfl (.refl _ _) ⟨rfl,congrArg iv (by simp_all [yfc])⟩
 ·refine rn ?_;refine z7 rfl (fun hc8=> ?_) (fun hc8=> ?_)
  ·refine rn ?_;exact u9 rfl (.refl _ _) ⟨rfl,congrArg iv (by simp_all [yfc])⟩
  ·refine rn ?_;exact u9 rfl (.refl _ _) ⟨rfl,congrArg iv (by simp_all [yfc])⟩
theorem zrg (c:Int):x4 Tryz.prog 168 [.v (.int .i32 c)] [] (fun r h'=>h'= []∧r=bv (zjj c)):=by
 refine z6 Tryz.func168 rfl rfl rfl ?_
 refine rn ?_;refine y9 (fun hg1_2=> ?_) (fun hg1_2=> ?_)
 ·refine rn ?_;exact u9 rfl (.refl _ _) ⟨rfl,congrArg bv (by first|(simp only [zjj, *,Bool.true_and,Bool.false_and,Bool.and_false,Bool.and_true,Bool.true_or,Bool.or_false,Bool.false_or,Bool.or_true,if_true,if_false,Bool.false_eq_true,Bool.not_true,Bool.not_false];done)|(simp_all [zjj];done)|(simp_all [zjj] <;> omega))⟩
 ·refine rn ?_;exact u9 rfl (.refl _ _) ⟨rfl,congrArg bv (by first|(simp only [zjj, *,Bool.true_and,Bool.false_and,Bool.and_false,Bool.and_true,Bool.true_or,Bool.or_false,Bool.false_or,Bool.or_true,if_true,if_false,Bool.false_eq_true,Bool.not_true,Bool.not_false];done)|(simp_all [zjj];done)|(simp_all [zjj] <;> omega))⟩
theorem bvz0_9104 {a b:Bool} (h:a=b:=by first|(simp only [zsj, *,Bool.true_and,Bool.false_and,Bool.and_false,Bool.and_true,Bool.true_or,Bool.or_false,Bool.false_or,Bool.or_true,if_true,if_false,Bool.false_eq_true,Bool.not_true,Bool.not_false];done)|(simp_all [zsj];done)|(simp_all [zsj] <;> omega)):bv a=bv b:=congrArg bv h
theorem yat (c:Int):x4 Tryz.prog 201 [.v (.int .i32 c)] [] (fun r h'=>h'= []∧r=bv (zsj c)):=by
 refine z6 Tryz.func201 rfl rfl rfl ?_
 refine rn ?_;refine y9 (fun hg1_2=> ?_) (fun hg1_2=> ?_)
 ·refine rn ?_;exact u9 rfl (.refl _ _) ⟨rfl,bvz0_9104⟩
 ·refine rn ?_;refine y9 (fun hg1_5=> ?_) (fun hg1_5=> ?_)
  ·refine rn ?_;refine y9 (fun hg1_10=> ?_) (fun hg1_10=> ?_)
   ·refine rn ?_;exact u9 rfl (.refl _ _) ⟨rfl,bvz0_9104⟩
   ·refine rn ?_;refine y9 (fun hg1_13=> ?_) (fun hg1_13=> ?_)
    ·refine rn ?_;refine y9 (fun hg1_18=> ?_) (fun hg1_18=> ?_)
     ·refine rn ?_;exact u9 rfl (.refl _ _) ⟨rfl,bvz0_9104⟩
     ·refine rn ?_;exact u9 rfl (.refl _ _) ⟨rfl,bvz0_9104⟩
    ·refine rn ?_;exact u9 rfl (.refl _ _) ⟨rfl,bvz0_9104⟩
  ·refine rn ?_;refine y9 (fun hg1_13=> ?_) (fun hg1_13=> ?_)
   ·refine rn ?_;refine y9 (fun hg1_18=> ?_) (fun hg1_18=> ?_)
    ·refine rn ?_;exact u9 rfl (.refl _ _) ⟨rfl,bvz0_9104⟩
    ·refine rn ?_;exact u9 rfl (.refl _ _) ⟨rfl,bvz0_9104⟩
   ·refine rn ?_;exact u9 rfl (.refl _ _) ⟨rfl,bvz0_9104⟩
theorem yau (c:Int):x4 Tryz.prog 170 [.v (.int .i32 c)] [] (fun r h'=>h'= []∧r=bv (zsj c||zjj c)):=by
 refine z6 Tryz.func170 rfl rfl rfl ?_
 refine rn ?_;refine qv rfl rfl (y4 rfl rfl (v7 (yat _) (Sbs.refl _))) ?_
 refine rn ?_;refine y9 (fun hg1_2=> ?_) (fun hg1_2=> ?_)
 ·refine rn ?_;exact u9 rfl (.refl _ _) ⟨rfl,congrArg bv (by first|(simp only [*,Bool.true_and,Bool.false_and,Bool.and_false,Bool.and_true,Bool.true_or,Bool.or_false,Bool.false_or,Bool.or_true,if_true,if_false,Bool.false_eq_true,Bool.not_true,Bool.not_false];done)|(simp_all;done)|(simp_all <;> omega))⟩
 ·refine rn ?_;refine qv rfl rfl (y4 rfl rfl (v7 (zrg _) (Sbs.refl _))) ?_
  refine rn ?_;exact u9 rfl (.refl _ _) ⟨rfl,congrArg bv (by first|(simp only [*,Bool.true_and,Bool.false_and,Bool.and_false,Bool.and_true,Bool.true_or,Bool.or_false,Bool.false_or,Bool.or_true,if_true,if_false,Bool.false_eq_true,Bool.not_true,Bool.not_false];done)|(simp_all;done)|(simp_all <;> omega))⟩
theorem yj7 (h:Hist):x4 Tryz.prog 93 [.agg (x5 h)] [] (fun r h'=>h'= []∧r= .agg (zkf h)):=by
 refine z6 Tryz.func93 rfl rfl rfl ?_
 refine rn ?_;refine z8 rfl (x9 rfl rfl rfl fun b1=> ?_)
 refine z8 rfl (y6 rfl fun b2=> ?_)
 refine rn ?_;exact zfw (.cons _ _ _ _ (.agg _ _ _ _ _ _ _ rfl inferInstance inferInstance inferInstance rfl) .nil) (.drop [_,_] _ _) ⟨rfl,rfl⟩
theorem zx2 (h:Hist) (sort:Nat) (n:Int) (l:List ByteArray) (hs:(zkf h)[sort]? =some (zc4 l)) (hs4:sort < 4):x4 Tryz.prog 134 [.agg (x5 h),iv sort,iv n] [] (fun r h'=>h'= []∧r=bv (zbx l n)):=by
 refine z6 Tryz.func134 rfl rfl rfl ?_
 refine rn ?_;refine z8 rfl (x9 rfl rfl rfl fun b3=> ?_)
 refine rn ?_;refine y9 (fun hg1_2=> ?_) (fun hg1_2=> ?_)
 ·refine rn ?_;refine qv rfl rfl (y4 rfl rfl (v7 (yj7 _) (Sbs.refl _))) ?_
  refine q1 ?_;refine qq rfl rfl (zda rfl rfl (by omega) (by simpa using hs)) ?_
  refine rn ?_;exact u9 rfl (.drop1 _ _ _) ⟨rfl,congrArg bv (by first|(simp only [zbx, *,Bool.true_and,Bool.false_and,Bool.and_false,Bool.and_true,Bool.true_or,Bool.or_false,Bool.false_or,Bool.or_true,if_true,if_false,Bool.false_eq_true,Bool.not_true,Bool.not_false];done)|(simp_all [zbx];done)|(simp_all [zbx] <;> omega))⟩
 ·refine rn ?_;exact u9 rfl (.drop1 _ _ _) ⟨rfl,congrArg bv (by first|(simp only [zbx, *,Bool.true_and,Bool.false_and,Bool.and_false,Bool.and_true,Bool.true_or,Bool.or_false,Bool.false_or,Bool.or_true,if_true,if_false,Bool.false_eq_true,Bool.not_true,Bool.not_false];done)|(simp_all [zbx];done)|(simp_all [zbx] <;> omega))⟩
theorem bvz1_8147 {a b:Bool} (h:a=b:=by first|(simp only [znn, *,Bool.true_and,Bool.false_and,Bool.and_false,Bool.and_true,Bool.true_or,Bool.or_false,Bool.false_or,Bool.or_true,if_true,if_false,Bool.false_eq_true,Bool.not_true,Bool.not_false];done)|(simp_all [znn];done)|(simp_all [znn] <;> omega)):bv a=bv b:=congrArg bv h
theorem zss (h:Hist) (v:Ver):x4 Tryz.prog 178 [.agg (x5 h),.agg (ydc v)] [] (fun r h'=>h'= []∧r=bv (znn h.ts v)):=by
 refine z6 Tryz.func178 rfl rfl rfl ?_
 refine rn ?_;refine z8 rfl (x9 rfl rfl rfl fun b2=> ?_)
 refine z8 rfl (x9 rfl rfl rfl fun b3=> ?_)
 refine rn ?_;refine z7 rfl (fun hc7=> ?_) (fun hc7=> ?_)
 ·refine rn ?_;exact u9 rfl (.drop [_,_] _ _) ⟨rfl,bvz1_8147⟩
 ·refine rn ?_;refine qv rfl rfl (y4 rfl rfl (v7 (zx2 _ 0 _ _ rfl (by decide)) (Sbs.refl _))) ?_
  refine rn ?_;refine y9 (fun hg3_4=> ?_) (fun hg3_4=> ?_)
  ·refine rn ?_;refine y9 (fun hg3_9=> ?_) (fun hg3_9=> ?_)
   ·refine rn ?_;exact u9 rfl (.drop [_,_] _ _) ⟨rfl,bvz1_8147⟩
   ·refine rn ?_;exact u9 rfl (.drop [_,_] _ _) ⟨rfl,bvz1_8147⟩
  ·refine rn ?_;exact u9 rfl (.drop [_,_] _ _) ⟨rfl,bvz1_8147⟩
theorem bvz2_7590 {a b:Bool} (h:a=b:=by first|(simp only [zje, *,Bool.true_and,Bool.false_and,Bool.and_false,Bool.and_true,Bool.true_or,Bool.or_false,Bool.false_or,Bool.or_true,if_true,if_false,Bool.false_eq_true,Bool.not_true,Bool.not_false];done)|(simp_all [zje];done)|(simp_all [zje] <;> omega)):bv a=bv b:=congrArg bv h
theorem zy5 (a b:Ev) (ha:a.scan.length≤4611686018427387904) (hb:b.scan.length≤4611686018427387904):x4 Tryz.prog 101 [.agg (evR a),.agg (evR b)] [] (fun r h'=>h'= []∧r=bv (zje a b)):=by
 refine z6 Tryz.func101 rfl rfl rfl ?_
 refine rn ?_;refine z8 rfl (x9 rfl rfl rfl fun b2=> ?_)
 refine z8 rfl (x9 rfl rfl rfl fun b3=> ?_)
 refine rn ?_;refine y9 (fun hg1_5=> ?_) (fun hg1_5=> ?_)
 ·refine rn ?_;refine y9 (fun hg1_12=> ?_) (fun hg1_12=> ?_)
  ·refine rn ?_;refine y9 (fun hg1_19=> ?_) (fun hg1_19=> ?_)
   ·refine rn ?_;refine y9 (fun hg2_1=> ?_) (fun hg2_1=> ?_)
    ·refine rn ?_;refine y9 (fun hg2_8=> ?_) (fun hg2_8=> ?_)
     ·refine rn ?_;refine y9 (fun hg2_15=> ?_) (fun hg2_15=> ?_)
      ·refine rn ?_;refine y9 (fun hg2_22=> ?_) (fun hg2_22=> ?_)
       ·refine rn ?_;refine qv rfl rfl (y4 rfl rfl (v7 (ybm _ _ ha hb) (Sbs.refl _))) ?_
        refine rn ?_;exact u9 rfl (.drop [_,_] _ _) ⟨rfl,bvz2_7590⟩
       ·refine rn ?_;exact u9 rfl (.drop [_,_] _ _) ⟨rfl,bvz2_7590⟩
      ·refine rn ?_;exact u9 rfl (.drop [_,_] _ _) ⟨rfl,bvz2_7590⟩
     ·refine rn ?_;exact u9 rfl (.drop [_,_] _ _) ⟨rfl,bvz2_7590⟩
    ·refine rn ?_;exact u9 rfl (.drop [_,_] _ _) ⟨rfl,bvz2_7590⟩
   ·refine rn ?_;exact u9 rfl (.drop [_,_] _ _) ⟨rfl,bvz2_7590⟩
  ·refine rn ?_;exact u9 rfl (.drop [_,_] _ _) ⟨rfl,bvz2_7590⟩
 ·refine rn ?_;exact u9 rfl (.drop [_,_] _ _) ⟨rfl,bvz2_7590⟩
theorem ydy (s:ByteArray) (i:Nat) (c:Int) (bs bi bc:Nat) (hi:i≤s.size):x4 Tryz.prog 220 [pZ bs,pZ bi,pZ bc] [.box bs 9 [sv s],.box bi 3 [iv (i:Nat)],.box bc 21 [.v (.int .i32 c)],.glob 5 276 x7,.glob 6 279 y7] (fun r h'=>h'= [.box bs 9 [sv s],.box bi 3 [iv (i:Nat)],.box bc 21 [.v (.int .i32 c)],.glob 5 276 x7,.glob 6 279 y7]∧r= .tup [.v (.int .i32 c),bv (zqi s i c)]):=by
 refine z6 Tryz.func220 rfl rfl rfl ?_
 refine x8 (y5 ?_)
 refine q1 ?_;refine q1 ?_;refine u5 (k8 ?_)
 refine x8 (y5 ?_)
 refine q1 ?_;refine q1 ?_;refine qq rfl rfl (zd4 rfl rfl hi) ?_
 refine qv rfl rfl (y4 rfl rfl (y3.quiet (R:=fun x=>x=_) (h2:= [_,_,_]) (List.perm_append_comm (l₁:= [_,_,_])) (y3.of_fun (zxr (s.extract i s.size))))) ?_
 refine rn ?_;refine y9 (fun hg2_3=> ?_) (fun hg2_3=> ?_)
 ·refine rn ?_;exact zcb rfl rfl (.refl _ _) ⟨rfl,congrArg (fun b=>AV.tup [.v (.int .i32 c),bv b]) (by first|(simp only [zqi, *,Bool.true_and,Bool.false_and,Bool.and_false,Bool.and_true,Bool.true_or,Bool.or_false,Bool.false_or,Bool.or_true,if_true,if_false,Bool.false_eq_true,Bool.not_true,Bool.not_false];done)|(simp_all [zqi];done))⟩
 ·refine rn ?_;exact zcb rfl rfl (.refl _ _) ⟨rfl,congrArg (fun b=>AV.tup [.v (.int .i32 c),bv b]) (by first|(simp only [zqi, *,Bool.true_and,Bool.false_and,Bool.and_false,Bool.and_true,Bool.true_or,Bool.or_false,Bool.false_or,Bool.or_true,if_true,if_false,Bool.false_eq_true,Bool.not_true,Bool.not_false];done)|(simp_all [zqi];done))⟩
theorem zy7 (s:ByteArray) (bs:Nat) (y:AV) (p:Nat→Int→Bool) (I:List Res→Prop) (J:Nat→List Res→Prop) (hy:∀(i bi bc it:Nat) (L:List Res),i < s.size→I L→y3 Tryz.prog y [iv i,.fn (.func 220) [] [pZ bs,pZ bi,pZ bc]] (.box bc 21 [.v (.int .i32 (Utf8.decode s i).1)]:: .box bi 3 [iv (i:Nat)]:: .obj it (.stringIter s (i+(Utf8.decode s i).2)):: .box bs 9 [sv s]::L) (fun r h'=>∃L',h'= .box bc 21 [.v (.int .i32 (Utf8.decode s i).1)]:: .box bi 3 [iv (i:Nat)]:: .obj it (.stringIter s (i+(Utf8.decode s i).2)):: .box bs 9 [sv s]::L'∧((p i (Utf8.decode s i).1=true∧r=bv true∧I L')∨(p i (Utf8.decode s i).1=false∧r=bv false∧J i L')))) (L0:List Res) (h0:I L0):x4 Tryz.prog 219 [y,pZ bs] (.box bs 9 [sv s]::L0) (fun r h'=>∃L',h'= .box bs 9 [sv s]::L'∧((zd1 s p 0=s.size∧I L')∨(zd1 s p 0 < s.size∧J (zd1 s p 0) L'))):=by
 refine z6 Tryz.func219 rfl rfl rfl ?_
 refine rn ?_;refine z8 rfl (zkd rfl rfl fun b7=> ?_)
 refine rn ?_;refine j3 (fun x:Nat×List Res=>zd1 s p 0=zd1 s p x.1∧I x.2) (fun x=>⟨[(7,pZ b7),(0,y),(1,pZ bs)],.obj b7 (.stringIter s x.1):: .box bs 9 [sv s]::x.2,[]⟩) (fun x=>s.size - x.1) (0,L0) ⟨rfl,h0⟩
  (w8 (.cons _ _ _ rfl (.cons _ _ _ rfl (.cons _ _ _ rfl (.nil))))) ?_
 rintro ⟨k,L⟩ ⟨hw,hI⟩
 simp only at hw hI
 refine x8 (y5 ?_)
 refine z8 rfl (zme rfl rfl (fun hp=> ?_) (fun hp=> ?_))
 ·refine rn ?_;refine z7 rfl (fun hc9=> ?_) (fun hc9=> ?_)
  ·first|cases hc9|exact absurd hc9 (by decide)|(exfalso;simp_all;done)
  ·refine rn ?_;exact ze9 .nil (.drop1 _ _ _) ⟨_,rfl,.inl ⟨by rw [hw,zhk hp],hI⟩⟩
 ·refine rn ?_;refine z7 rfl (fun hc9=> ?_) (fun hc9=> ?_)
  ·refine rn ?_;refine z8 rfl (y6 rfl fun b3=> ?_)
   refine z8 rfl (y6 rfl fun b4=> ?_)
   first|refine z8 rfl (zam rfl rfl rfl ?_)|refine z8 rfl (zba rfl rfl rfl rfl (Nat.le_of_ble_eq_true rfl) ?_)
   first|refine z8 rfl (zam rfl rfl rfl ?_)|refine z8 rfl (zba rfl rfl rfl rfl (Nat.le_of_ble_eq_true rfl) ?_)
   refine u5 (k8 ?_)
   refine x8 (y5 ?_)
   refine q1 ?_;refine q1 ?_;refine u5 (k8 ?_)
   refine x8 (y5 ?_)
   refine q1 ?_;refine q1 ?_;refine q1 ?_;refine z8 rfl (w9 rfl rfl (hy k b3 b4 b7 L hp hI) rfl ?_)
   rintro av h' ⟨L',rfl,⟨hp1,rfl,hI2⟩|⟨hp1,rfl,hJ⟩⟩
   ·refine rn ?_;refine z7 rfl (fun hc17=> ?_) (fun hc17=> ?_)
    ·first|cases hc17|exact absurd hc17 (by decide)|(exfalso;simp_all;done)
    ·refine rn ?_;exact ⟨(k+(Utf8.decode s k).2,L'),⟨hw.trans (ziw hp hp1),hI2⟩,(v6 (zcs (h1:= [_,_])) (w8 (.cons _ _ _ rfl (.cons _ _ _ rfl (.cons _ _ _ rfl (.nil)))))),by have:=ziv s k;simp only at hp ⊢;omega⟩
   ·refine rn ?_;refine z7 rfl (fun hc17=> ?_) (fun hc17=> ?_)
    ·refine rn ?_;exact zfw .nil (.drop [_,_,_] _ _) ⟨_,rfl,.inr (by rw [hw,zif hp hp1];exact ⟨hp,hJ⟩)⟩
    ·first|cases hc17|exact absurd hc17 (by decide)|(exfalso;simp_all;done)
  ·first|cases hc9|exact absurd hc9 (by decide)|(exfalso;simp_all;done)
theorem ymz (s:ByteArray) (h:List Res):x4 Tryz.prog 200 [sv s] h (fun r h'=>∃bs,h'= .box bs 9 [sv s]::h∧r= .fn (.func 219) [] [pZ bs]):=by
 refine z6 Tryz.func200 rfl rfl rfl ?_
 refine rn ?_;refine z8 rfl (x9 rfl rfl rfl fun b1=> ?_)
 refine rn ?_;exact u9 rfl (.refl _ _) ⟨_,rfl,rfl⟩
theorem yfb (s:ByteArray) (fv:AV) (g:Int→Bool) (hone:fv.cellsOf=some [fv]) (hgo:∀c h,y3 Tryz.prog fv [.v (.int .i32 c)] h (fun r h'=>h'=h∧r=bv (g c))):x4 Tryz.prog 169 [sv s,fv] [.glob 5 276 x7,.glob 6 279 y7] (fun r h'=>h'= [.glob 5 276 x7,.glob 6 279 y7]∧r=iv (zd1 s (zdr s g) 0:Nat)):=by
 refine z6 Tryz.func169 rfl rfl rfl ?_
 refine rn ?_;refine z8 rfl (x9 rfl hone rfl fun b3=> ?_)
 refine rn ?_;refine zlo ?_;refine rn ?_;refine z8 rfl (y6 rfl fun b5=> ?_)
 refine rn ?_;refine z8 rfl (w9 rfl rfl (y3.of_fun (ymz s _)) rfl ?_)
 rintro _ _ ⟨bs,rfl,rfl⟩
 refine rn ?_;refine znk (fun pend h''=>(pend=none∨pend=some (.exit 0))∧h''= .box bs 9 [sv s]:: .box b5 3 [iv (zd1 s (zdr s g) 0:Nat)]:: .box b3 243 [fv]:: [.glob 5 276 x7,.glob 6 279 y7]) rfl (fun fn l q lp hlp=> ?_) (fun q h'' hK=> ?_) (fun q h'' c hK=> ?_)
 ·suffices hy:∀(i bi bc it:Nat) (L:List Res),i < s.size→L=lp .ready none:: .defs q:: .box b5 3 [iv s.size]:: .box b3 243 [fv]:: [.glob 5 276 x7,.glob 6 279 y7]→y3 Tryz.prog (yv l) [iv i,.fn (.func 220) [] [pZ bs,pZ bi,pZ bc]] (.box bc 21 [.v (.int .i32 (Utf8.decode s i).1)]:: .box bi 3 [iv (i:Nat)]:: .obj it (.stringIter s (i+(Utf8.decode s i).2)):: .box bs 9 [sv s]::L)
   (fun r h'=>∃L',h'= .box bc 21 [.v (.int .i32 (Utf8.decode s i).1)]:: .box bi 3 [iv (i:Nat)]:: .obj it (.stringIter s (i+(Utf8.decode s i).2)):: .box bs 9 [sv s]::L'∧((zdr s g i (Utf8.decode s i).1=true∧r=bv true∧L'=lp .ready none:: .defs q:: .box b5 3 [iv s.size]:: .box b3 243 [fv]:: [.glob 5 276 x7,.glob 6 279 y7])∨(zdr s g i (Utf8.decode s i).1=false∧r=bv false∧L'=lp .done (some (.exit 0)):: .defs q:: .box b5 3 [iv (i:Nat)]:: .box b3 243 [fv]:: [.glob 5 276 x7,.glob 6 279 y7]))) by
   refine x4.mono (x4.perm (pt2 _ _ _ _) (zy7 s bs (yv l) (zdr s g) _ (fun i L=>L=lp .done (some (.exit 0)):: .defs q:: .box b5 3 [iv (i:Nat)]:: .box b3 243 [fv]:: [.glob 5 276 x7,.glob 6 279 y7]) hy _ rfl)) ?_
   rintro _ _ ⟨L',rfl,⟨hw,rfl⟩|⟨hw,rfl⟩⟩
   ·exact ⟨_,_,_,(pt2 _ _ _ _).symm,by simp,.inl rfl,by rw [hw]⟩
   ·exact ⟨_,_,_,(pt2 _ _ _ _).symm,by simp,.inr rfl,rfl⟩
  rintro i bi bc it _ hi rfl
  refine y3.perm (pt4 _ _ _ _ _ _) (y3.permR (zv5 hlp rfl rfl ?_))
  refine rn ?_;refine ⟨[(6,iv (i:Nat)),(7,.fn (.func 220) [] [pZ bs,pZ bi,pZ bc]),(5,pZ b5),(3,pZ b3)],w8 (.cons _ _ _ rfl (.cons _ _ _ rfl (.cons _ _ _ rfl (.cons _ _ _ rfl .nil)))),?_⟩
  refine rn ?_;refine qv rfl rfl (y4 rfl rfl (y3.qt (y3.of_acall (fs:= []) (cs:= [pZ bs,pZ bi,pZ bc]) (ydy s i (Utf8.decode s i).1 bs bi bc (by omega))) ((pt4 _ _ _ _ _ _).trans (.cons _ ((pt2 _ _ _ _).trans (.cons _ ((pt1 _ _ _).trans (.cons _ ((pt5 _ _ _ _ _ _ _).trans (.cons _ (pt5 _ _ _ _ _ _ _))))))))))) ?_
  refine rn ?_;refine y9 (fun hg6_2=> ?_) (fun hg6_2=> ?_)
  ·refine rn ?_;refine zdf rfl ?_;refine rn ?_;exact zoy (.refl _) ⟨_,((pt1 _ _ _).trans (.cons _ ((pt1 _ _ _).trans (.cons _ ((pt1 _ _ _).trans (.cons _ (pt1 _ _ _))))))),_,rfl,.inr ⟨by simp_all [zdr],rfl,rfl⟩⟩
  ·refine rn ?_;refine qv rfl rfl (y4 rfl rfl (hgo _ _)) ?_
   refine rn ?_;refine z7 rfl (fun hc28=> ?_) (fun hc28=> ?_)
   ·refine rn ?_;exact zoy (.refl _) ⟨_,((pt1 _ _ _).trans (.cons _ ((pt1 _ _ _).trans (.cons _ ((pt1 _ _ _).trans (.cons _ (pt1 _ _ _))))))),_,rfl,.inr ⟨by simp_all [zdr],rfl,rfl⟩⟩
   ·refine rn ?_;exact zg2 (.refl _) ⟨_,((pt1 _ _ _).trans (.cons _ ((pt1 _ _ _).trans (.cons _ ((pt1 _ _ _).trans (.cons _ (pt1 _ _ _))))))),_,rfl,.inl ⟨by simp_all [zdr],rfl,rfl⟩⟩
 ·obtain ⟨_,rfl⟩:=hK
  refine rn ?_;refine ⟨fun l h=>(by cases h),?_⟩
  exact zhy (.refl _) (.cons _ _ _ _ (.tmp _ _ rfl) .nil) (.drop [_,_,_] _ _) ⟨rfl,rfl⟩
 ·obtain ⟨hc,rfl⟩:=hK
  obtain rfl:c= .exit 0:=by simpa using hc
  refine rn ?_;refine ⟨fun l h=>(by cases h),?_⟩
  exact zhy (.refl _) (.cons _ _ _ _ (.tmp _ _ rfl) .nil) (.drop [_,_,_] _ _) ⟨rfl,rfl⟩
theorem bvz3_8188 {a b:Bool} (h:a=b:=by first|(simp only [zgs, *,Bool.true_and,Bool.false_and,Bool.and_false,Bool.and_true,Bool.true_or,Bool.or_false,Bool.false_or,Bool.or_true,if_true,if_false,Bool.false_eq_true,Bool.not_true,Bool.not_false];done)|(simp_all [zgs,yb3];done)):bv a=bv b:=congrArg bv h
theorem yss (s:ByteArray):x4 Tryz.prog 130 [sv s] [.glob 5 276 x7,.glob 6 279 y7] (fun r h'=>h'= [.glob 5 276 x7,.glob 6 279 y7]∧r=bv (zgs s)):=by
 refine z6 Tryz.func130 rfl rfl rfl ?_
 refine rn ?_;refine y9 (fun hg1_2=> ?_) (fun hg1_2=> ?_)
 ·refine rn ?_;refine y9 (fun hg1_7=> ?_) (fun hg1_7=> ?_)
  ·refine rn ?_;have h1:0 < s.size:=zym hg1_2
   refine qq rfl rfl (u3 0 rfl rfl (by omega)) ?_
   refine rn ?_;refine qv rfl rfl (y4 rfl rfl (v7 (zrg _) (Sbs.refl _))) ?_
   refine rn ?_;refine y9 (fun hg1_14=> ?_) (fun hg1_14=> ?_)
   ·refine rn ?_;refine qv rfl rfl (y4 rfl rfl (y3.of_fun (yfb s (.fn (.func 170) [] []) zdd rfl (fun c h=>(v7 (yau c) (Sbs.refl _)))))) ?_
    refine rn ?_;exact u9 rfl (.refl _ _) ⟨rfl,bvz3_8188⟩
   ·refine rn ?_;exact u9 rfl (.refl _ _) ⟨rfl,bvz3_8188⟩
  ·refine rn ?_;exact u9 rfl (.refl _ _) ⟨rfl,bvz3_8188⟩
 ·refine rn ?_;exact u9 rfl (.refl _ _) ⟨rfl,bvz3_8188⟩
theorem ypb (e:Ev) (h:Hist) (be bh:Nat):x4 Tryz.prog 175 [pZ be,pZ bh] [.box be 66 (evR e),.box bh 28 (x5 h)] (fun r h'=>h'= [.box be 66 (evR e),.box bh 28 (x5 h)]∧r= .tup [.agg (evR ⟨0,0,e.s,e.l,0,⟨0,0⟩,0,[]⟩),bv (zd8 h e)]):=by
 refine z6 Tryz.func175 rfl rfl rfl ?_
 refine rn ?_;refine z8 rfl (y6 rfl fun b2=> ?_)
 refine rn ?_;refine zd9 16 [(b2,66,_)] rfl (List.perm_append_comm (l₁:= [_])) ?_
 refine rn ?_;refine dv rfl rfl (by exact y4 rfl rfl (v7 (zx2 _ 1 _ _ rfl (by decide)) (Sbs.refl _))) ?_
 refine rn ?_;refine zel (fun hg1_9=> ?_) (fun hg1_9=> ?_)
 ·refine rn ?_;refine dv rfl rfl (by exact y4 rfl rfl (v7 (zxm _) (Sbs.refl _))) ?_
  refine rn ?_;refine dw 0 rfl rfl rfl rfl rfl (Nat.le_of_ble_eq_true rfl) ?_
  refine rn2 ?_;show zcw _ _ _ _ _ _ ⟨_,.box b2 66 _::_,_⟩
  refine rn ?_;exact zfw (.cons _ _ _ _ (.agg _ _ _ _ _ _ _ rfl inferInstance inferInstance inferInstance rfl) (.cons _ _ _ _ (.tmp _ _ rfl) .nil)) (.trans (.drop1 _ _ _) (zbu (by exact Sb.aggs (by exact ⟨.refl _,.refl _,.refl _,.refl _,.refl _,.refl _,.refl _,.refl _,.nil _ _,trivial⟩)) (by exact .refl _))) ⟨rfl,congrArg (fun b=>AV.tup [.agg (evR ⟨0,0,e.s,e.l,0,⟨0,0⟩,0,[]⟩),bv b]) (by first|(simp only [zd8, *,Bool.true_and,Bool.false_and,Bool.and_false,Bool.and_true,Bool.true_or,Bool.or_false,Bool.false_or,Bool.or_true,if_true,if_false,Bool.false_eq_true,Bool.not_true,Bool.not_false];done)|(simp_all [zd8];done)|(simp_all [zd8] <;> omega))⟩
 ·refine rn ?_;refine dw 0 rfl rfl rfl rfl rfl (Nat.le_of_ble_eq_true rfl) ?_
  refine rn2 ?_;show zcw _ _ _ _ _ _ ⟨_,.box b2 66 _::_,_⟩
  refine rn ?_;exact zfw (.cons _ _ _ _ (.agg _ _ _ _ _ _ _ rfl inferInstance inferInstance inferInstance rfl) (.cons _ _ _ _ (.tmp _ _ rfl) .nil)) (.trans (.drop1 _ _ _) (zbu (by exact Sb.aggs (by exact ⟨.refl _,.refl _,.refl _,.refl _,.refl _,.refl _,.refl _,.refl _,.nil _ _,trivial⟩)) (by exact .refl _))) ⟨rfl,congrArg (fun b=>AV.tup [.agg (evR ⟨0,0,e.s,e.l,0,⟨0,0⟩,0,[]⟩),bv b]) (by first|(simp only [zd8, *,Bool.true_and,Bool.false_and,Bool.and_false,Bool.and_true,Bool.true_or,Bool.or_false,Bool.false_or,Bool.or_true,if_true,if_false,Bool.false_eq_true,Bool.not_true,Bool.not_false];done)|(simp_all [zd8];done)|(simp_all [zd8] <;> omega))⟩
theorem ypa (e:Ev) (h:Hist) (be bh:Nat):x4 Tryz.prog 177 [pZ be,pZ bh] [.box be 66 (evR e),.box bh 28 (x5 h)] (fun r h'=>h'= [.box be 66 (evR e),.box bh 28 (x5 h)]∧r= .tup [.agg (evR ⟨0,0,0,0,e.o,e.v,0,[]⟩),bv (zbc h e)]):=by
 refine z6 Tryz.func177 rfl rfl rfl ?_
 refine rn ?_;refine z8 rfl (y6 rfl fun b2=> ?_)
 refine rn ?_;refine zd9 30 [(b2,66,_)] rfl (List.perm_append_comm (l₁:= [_])) ?_
 refine rn ?_;refine dv rfl rfl (by exact y4 rfl rfl (v7 (zx2 _ 2 _ _ rfl (by decide)) (Sbs.refl _))) ?_
 refine rn ?_;refine zel (fun hg1_9=> ?_) (fun hg1_9=> ?_)
 ·refine rn ?_;refine dv rfl rfl (by exact y4 rfl rfl (v7 (zss h e.v) (Sbs.refl _))) ?_
  refine rn ?_;refine zel (fun hg1_15=> ?_) (fun hg1_15=> ?_)
  ·refine rn ?_;refine zel (fun hg1_23=> ?_) (fun hg1_23=> ?_)
   ·refine rn ?_;refine dw 0 rfl rfl rfl rfl rfl (Nat.le_of_ble_eq_true rfl) ?_
    refine rn2 ?_;show zcw _ _ _ _ _ _ ⟨_,.box b2 66 _::_,_⟩
    refine rn ?_;exact zfw (.cons _ _ _ _ (.agg _ _ _ _ _ _ _ rfl inferInstance inferInstance inferInstance rfl) (.cons _ _ _ _ (.tmp _ _ rfl) .nil)) (.trans (.drop1 _ _ _) (zbu (by exact Sb.aggs (by exact ⟨.refl _,.refl _,.refl _,.refl _,.refl _,.refl _,.refl _,.refl _,.nil _ _,trivial⟩)) (by exact .refl _))) ⟨rfl,congrArg (fun b=>AV.tup [.agg (evR ⟨0,0,0,0,e.o,e.v,0,[]⟩),bv b]) (by first|(simp only [zbc, *,Bool.true_and,Bool.false_and,Bool.and_false,Bool.and_true,Bool.true_or,Bool.or_false,Bool.false_or,Bool.or_true,if_true,if_false,Bool.false_eq_true,Bool.not_true,Bool.not_false];done)|(simp_all [zbc];done)|(simp_all [zbc] <;> omega))⟩
   ·refine rn ?_;refine dw 0 rfl rfl rfl rfl rfl (Nat.le_of_ble_eq_true rfl) ?_
    refine rn2 ?_;show zcw _ _ _ _ _ _ ⟨_,.box b2 66 _::_,_⟩
    refine rn ?_;exact zfw (.cons _ _ _ _ (.agg _ _ _ _ _ _ _ rfl inferInstance inferInstance inferInstance rfl) (.cons _ _ _ _ (.tmp _ _ rfl) .nil)) (.trans (.drop1 _ _ _) (zbu (by exact Sb.aggs (by exact ⟨.refl _,.refl _,.refl _,.refl _,.refl _,.refl _,.refl _,.refl _,.nil _ _,trivial⟩)) (by exact .refl _))) ⟨rfl,congrArg (fun b=>AV.tup [.agg (evR ⟨0,0,0,0,e.o,e.v,0,[]⟩),bv b]) (by first|(simp only [zbc, *,Bool.true_and,Bool.false_and,Bool.and_false,Bool.and_true,Bool.true_or,Bool.or_false,Bool.false_or,Bool.or_true,if_true,if_false,Bool.false_eq_true,Bool.not_true,Bool.not_false];done)|(simp_all [zbc];done)|(simp_all [zbc] <;> omega))⟩
  ·refine rn ?_;refine dw 0 rfl rfl rfl rfl rfl (Nat.le_of_ble_eq_true rfl) ?_
   refine rn2 ?_;show zcw _ _ _ _ _ _ ⟨_,.box b2 66 _::_,_⟩
   refine rn ?_;exact zfw (.cons _ _ _ _ (.agg _ _ _ _ _ _ _ rfl inferInstance inferInstance inferInstance rfl) (.cons _ _ _ _ (.tmp _ _ rfl) .nil)) (.trans (.drop1 _ _ _) (zbu (by exact Sb.aggs (by exact ⟨.refl _,.refl _,.refl _,.refl _,.refl _,.refl _,.refl _,.refl _,.nil _ _,trivial⟩)) (by exact .refl _))) ⟨rfl,congrArg (fun b=>AV.tup [.agg (evR ⟨0,0,0,0,e.o,e.v,0,[]⟩),bv b]) (by first|(simp only [zbc, *,Bool.true_and,Bool.false_and,Bool.and_false,Bool.and_true,Bool.true_or,Bool.or_false,Bool.false_or,Bool.or_true,if_true,if_false,Bool.false_eq_true,Bool.not_true,Bool.not_false];done)|(simp_all [zbc];done)|(simp_all [zbc] <;> omega))⟩
 ·refine rn ?_;refine dw 0 rfl rfl rfl rfl rfl (Nat.le_of_ble_eq_true rfl) ?_
  refine rn2 ?_;show zcw _ _ _ _ _ _ ⟨_,.box b2 66 _::_,_⟩
  refine rn ?_;exact zfw (.cons _ _ _ _ (.agg _ _ _ _ _ _ _ rfl inferInstance inferInstance inferInstance rfl) (.cons _ _ _ _ (.tmp _ _ rfl) .nil)) (.trans (.drop1 _ _ _) (zbu (by exact Sb.aggs (by exact ⟨.refl _,.refl _,.refl _,.refl _,.refl _,.refl _,.refl _,.refl _,.nil _ _,trivial⟩)) (by exact .refl _))) ⟨rfl,congrArg (fun b=>AV.tup [.agg (evR ⟨0,0,0,0,e.o,e.v,0,[]⟩),bv b]) (by first|(simp only [zbc, *,Bool.true_and,Bool.false_and,Bool.and_false,Bool.and_true,Bool.true_or,Bool.or_false,Bool.false_or,Bool.or_true,if_true,if_false,Bool.false_eq_true,Bool.not_true,Bool.not_false];done)|(simp_all [zbc];done)|(simp_all [zbc] <;> omega))⟩
theorem yo9 (e:Ev) (h:Hist) (be bh:Nat):x4 Tryz.prog 179 [pZ be,pZ bh] [.box be 66 (evR e),.box bh 28 (x5 h)] (fun r h'=>h'= [.box be 66 (evR e),.box bh 28 (x5 h)]∧r= .tup [.agg (evR ⟨0,0,0,0,e.o,e.v,0,[]⟩),bv (zeg h e)]):=by
 refine z6 Tryz.func179 rfl rfl rfl ?_
 refine rn ?_;refine z8 rfl (y6 rfl fun b2=> ?_)
 refine rn ?_;refine zd9 16 [(b2,66,_)] rfl (List.perm_append_comm (l₁:= [_])) ?_
 refine rn ?_;refine dv rfl rfl (by exact y4 rfl rfl (v7 (zx2 _ 2 _ _ rfl (by decide)) (Sbs.refl _))) ?_
 refine rn ?_;refine zel (fun hg1_9=> ?_) (fun hg1_9=> ?_)
 ·refine rn ?_;refine dv rfl rfl (by exact y4 rfl rfl (v7 (zss h e.v) (Sbs.refl _))) ?_
  refine rn ?_;refine dw 0 rfl rfl rfl rfl rfl (Nat.le_of_ble_eq_true rfl) ?_
  refine rn2 ?_;show zcw _ _ _ _ _ _ ⟨_,.box b2 66 _::_,_⟩
  refine rn ?_;exact zfw (.cons _ _ _ _ (.agg _ _ _ _ _ _ _ rfl inferInstance inferInstance inferInstance rfl) (.cons _ _ _ _ (.tmp _ _ rfl) .nil)) (.trans (.drop1 _ _ _) (zbu (by exact Sb.aggs (by exact ⟨.refl _,.refl _,.refl _,.refl _,.refl _,.refl _,.refl _,.refl _,.nil _ _,trivial⟩)) (by exact .refl _))) ⟨rfl,congrArg (fun b=>AV.tup [.agg (evR ⟨0,0,0,0,e.o,e.v,0,[]⟩),bv b]) (by first|(simp only [zeg, *,Bool.true_and,Bool.false_and,Bool.and_false,Bool.and_true,Bool.true_or,Bool.or_false,Bool.false_or,Bool.or_true,if_true,if_false,Bool.false_eq_true,Bool.not_true,Bool.not_false];done)|(simp_all [zeg];done)|(simp_all [zeg] <;> omega))⟩
 ·refine rn ?_;refine dw 0 rfl rfl rfl rfl rfl (Nat.le_of_ble_eq_true rfl) ?_
  refine rn2 ?_;show zcw _ _ _ _ _ _ ⟨_,.box b2 66 _::_,_⟩
  refine rn ?_;exact zfw (.cons _ _ _ _ (.agg _ _ _ _ _ _ _ rfl inferInstance inferInstance inferInstance rfl) (.cons _ _ _ _ (.tmp _ _ rfl) .nil)) (.trans (.drop1 _ _ _) (zbu (by exact Sb.aggs (by exact ⟨.refl _,.refl _,.refl _,.refl _,.refl _,.refl _,.refl _,.refl _,.nil _ _,trivial⟩)) (by exact .refl _))) ⟨rfl,congrArg (fun b=>AV.tup [.agg (evR ⟨0,0,0,0,e.o,e.v,0,[]⟩),bv b]) (by first|(simp only [zeg, *,Bool.true_and,Bool.false_and,Bool.and_false,Bool.and_true,Bool.true_or,Bool.or_false,Bool.false_or,Bool.or_true,if_true,if_false,Bool.false_eq_true,Bool.not_true,Bool.not_false];done)|(simp_all [zeg];done)|(simp_all [zeg] <;> omega))⟩
theorem ylj (s:Seen) (h:Hist) (bh:Nat):x4 Tryz.prog 181 [.agg (zaz s),pZ bh] [.box bh 28 (x5 h)] (fun r h'=>h'= [.box bh 28 (x5 h)]∧r=bv (zfr h s)):=by
 refine z6 Tryz.func181 rfl rfl rfl ?_
 refine rn ?_;refine z8 rfl (x9 rfl rfl rfl fun b2=> ?_)
 refine rn ?_;refine qv rfl rfl (y4 rfl rfl (v7 (zx2 _ 2 _ _ rfl (by decide)) (Sbs.refl _))) ?_
 refine rn ?_;refine y9 (fun hg1_4=> ?_) (fun hg1_4=> ?_)
 ·refine rn ?_;refine qv rfl rfl (y4 rfl rfl (v7 (zss h s.v) (Sbs.refl _))) ?_
  refine rn ?_;exact u9 rfl (.drop1 _ _ _) ⟨rfl,congrArg bv (by first|(simp only [zfr, *,Bool.true_and,Bool.false_and,Bool.and_false,Bool.and_true,Bool.true_or,Bool.or_false,Bool.false_or,Bool.or_true,if_true,if_false,Bool.false_eq_true,Bool.not_true,Bool.not_false];done)|(simp_all [zfr];done)|(simp_all [zfr] <;> omega))⟩
 ·refine rn ?_;exact u9 rfl (.drop1 _ _ _) ⟨rfl,congrArg bv (by first|(simp only [zfr, *,Bool.true_and,Bool.false_and,Bool.and_false,Bool.and_true,Bool.true_or,Bool.or_false,Bool.false_or,Bool.or_true,if_true,if_false,Bool.false_eq_true,Bool.not_true,Bool.not_false];done)|(simp_all [zfr];done)|(simp_all [zfr] <;> omega))⟩
theorem yo8 (e:Ev) (h:Hist) (be bh:Nat) (hl:e.scan.length≤4611686018427387904):x4 Tryz.prog 180 [pZ bh,pZ be] [.box be 66 (evR e),.box bh 28 (x5 h)] (fun r h'=>h'= [.box be 66 (evR e),.box bh 28 (x5 h)]∧r= .tup [.agg (evR ⟨0,0,0,0,0,⟨0,0⟩,e.p,e.scan⟩),bv (zcy h e)]):=by
 refine z6 Tryz.func180 rfl rfl rfl ?_
 refine rn ?_;refine z8 rfl (y6 rfl fun b2=> ?_)
 refine rn ?_;refine zd9 22 [(b2,66,_)] rfl (List.perm_append_comm (l₁:= [_])) ?_
 refine rn ?_;refine dv rfl rfl (by exact y4 rfl rfl (v7 (zx2 _ 3 _ _ rfl (by decide)) (Sbs.refl _))) ?_
 refine rn ?_;refine zel (fun hg2_9=> ?_) (fun hg2_9=> ?_)
 ·refine rn ?_;refine zel (fun hg2_15=> ?_) (fun hg2_15=> ?_)
  ·refine rn ?_;refine dv rfl rfl (by exact y4 rfl rfl (y3.of_fun (yl2 e.scan (.fn (.func 181) [] [pZ bh]) (zfr h) [.box be 66 (evR e),.box bh 28 (x5 h)] rfl (fun s hs=>y3.quiet (R:=fun x=>x=bv (zfr h s)) (h2:= [_]) (List.perm_append_comm (l₁:= [_])) (y3.of_acall (fs:= []) (cs:= [pZ bh]) (ylj s h bh))) hl))) ?_
   refine rn ?_;refine dw 0 rfl rfl rfl rfl rfl (Nat.le_of_ble_eq_true rfl) ?_
   refine rn2 ?_;show zcw _ _ _ _ _ _ ⟨_,.box b2 66 _::_,_⟩
   refine rn ?_;exact zfw (.cons _ _ _ _ (.agg _ _ _ _ _ _ _ rfl inferInstance inferInstance inferInstance rfl) (.cons _ _ _ _ (.tmp _ _ rfl) .nil)) (.trans (.drop1 _ _ _) (zbu (by exact Sb.aggs (by exact ⟨.refl _,.refl _,.refl _,.refl _,.refl _,.refl _,.refl _,.refl _,.refl _,trivial⟩)) (by exact .refl _))) ⟨rfl,congrArg (fun b=>AV.tup [.agg (evR ⟨0,0,0,0,0,⟨0,0⟩,e.p,e.scan⟩),bv b]) (by first|(simp only [zcy, *,Bool.true_and,Bool.false_and,Bool.and_false,Bool.and_true,Bool.true_or,Bool.or_false,Bool.false_or,Bool.or_true,if_true,if_false,Bool.false_eq_true,Bool.not_true,Bool.not_false];done)|(simp_all [zcy];done)|(simp_all [zcy] <;> omega))⟩
  ·refine rn ?_;refine dw 0 rfl rfl rfl rfl rfl (Nat.le_of_ble_eq_true rfl) ?_
   refine rn2 ?_;show zcw _ _ _ _ _ _ ⟨_,.box b2 66 _::_,_⟩
   refine rn ?_;exact zfw (.cons _ _ _ _ (.agg _ _ _ _ _ _ _ rfl inferInstance inferInstance inferInstance rfl) (.cons _ _ _ _ (.tmp _ _ rfl) .nil)) (.trans (.drop1 _ _ _) (zbu (by exact Sb.aggs (by exact ⟨.refl _,.refl _,.refl _,.refl _,.refl _,.refl _,.refl _,.refl _,.refl _,trivial⟩)) (by exact .refl _))) ⟨rfl,congrArg (fun b=>AV.tup [.agg (evR ⟨0,0,0,0,0,⟨0,0⟩,e.p,e.scan⟩),bv b]) (by first|(simp only [zcy, *,Bool.true_and,Bool.false_and,Bool.and_false,Bool.and_true,Bool.true_or,Bool.or_false,Bool.false_or,Bool.or_true,if_true,if_false,Bool.false_eq_true,Bool.not_true,Bool.not_false];done)|(simp_all [zcy];done)|(simp_all [zcy] <;> omega))⟩
 ·refine rn ?_;refine dw 0 rfl rfl rfl rfl rfl (Nat.le_of_ble_eq_true rfl) ?_
  refine rn2 ?_;show zcw _ _ _ _ _ _ ⟨_,.box b2 66 _::_,_⟩
  refine rn ?_;exact zfw (.cons _ _ _ _ (.agg _ _ _ _ _ _ _ rfl inferInstance inferInstance inferInstance rfl) (.cons _ _ _ _ (.tmp _ _ rfl) .nil)) (.trans (.drop1 _ _ _) (zbu (by exact Sb.aggs (by exact ⟨.refl _,.refl _,.refl _,.refl _,.refl _,.refl _,.refl _,.refl _,.refl _,trivial⟩)) (by exact .refl _))) ⟨rfl,congrArg (fun b=>AV.tup [.agg (evR ⟨0,0,0,0,0,⟨0,0⟩,e.p,e.scan⟩),bv b]) (by first|(simp only [zcy, *,Bool.true_and,Bool.false_and,Bool.and_false,Bool.and_true,Bool.true_or,Bool.or_false,Bool.false_or,Bool.or_true,if_true,if_false,Bool.false_eq_true,Bool.not_true,Bool.not_false];done)|(simp_all [zcy];done)|(simp_all [zcy] <;> omega))⟩
theorem yo7  :x4 Tryz.prog 183 [] [] (fun r h'=>h'= []∧r= .tup [.agg (evR ⟨0,0,0,0,0,⟨0,0⟩,0,[]⟩),bv true]):=by
 refine z6 Tryz.func183 rfl rfl rfl ?_
 refine rn ?_;refine z8 rfl (y6 rfl fun b0=> ?_)
 refine rn ?_;exact zfw (.cons _ _ _ _ (.agg _ _ _ _ _ _ _ rfl inferInstance inferInstance inferInstance rfl) (.cons _ _ _ _ (.tmp _ _ rfl) .nil)) (.trans (.drop1 _ _ _) (zbu (by exact Sb.aggs (by exact ⟨.refl _,.refl _,.refl _,.refl _,.refl _,.refl _,.refl _,.refl _,.nil _ _,trivial⟩)) (by exact .refl _))) ⟨rfl,congrArg (fun b=>AV.tup [.agg (evR ⟨0,0,0,0,0,⟨0,0⟩,0,[]⟩),bv b]) (by rfl)⟩
theorem yo6  :x4 Tryz.prog 184 [] [] (fun r h'=>h'= []∧r= .tup [.agg (evR ⟨0,0,0,0,0,⟨0,0⟩,0,[]⟩),bv true]):=by
 refine z6 Tryz.func184 rfl rfl rfl ?_
 refine rn ?_;refine z8 rfl (y6 rfl fun b0=> ?_)
 refine rn ?_;exact zfw (.cons _ _ _ _ (.agg _ _ _ _ _ _ _ rfl inferInstance inferInstance inferInstance rfl) (.cons _ _ _ _ (.tmp _ _ rfl) .nil)) (.trans (.drop1 _ _ _) (zbu (by exact Sb.aggs (by exact ⟨.refl _,.refl _,.refl _,.refl _,.refl _,.refl _,.refl _,.refl _,.nil _ _,trivial⟩)) (by exact .refl _))) ⟨rfl,congrArg (fun b=>AV.tup [.agg (evR ⟨0,0,0,0,0,⟨0,0⟩,0,[]⟩),bv b]) (by rfl)⟩
theorem yfv (h:Hist) (e:Ev) (b2 b3 k:Nat) (hl:e.scan.length≤4611686018427387904) (hk:e.kind=k) (h1:1≤k) (h7:k < 7):
 ∃av,(([.v .nilFunc,.fn (.func 175) [] [pZ b3,pZ b2],.fn (.func 177) [] [pZ b3,pZ b2],.fn (.func 179) [] [pZ b3,pZ b2],.fn (.func 180) [] [pZ b2,pZ b3],.fn (.func 183) [] [],.fn (.func 184) [] []]):List AV)[k * 1]? =some av∧y3 Tryz.prog av [] [.box b3 66 (evR e),.box b2 28 (x5 h)] (fun r h'=>h'= [.box b3 66 (evR e),.box b2 28 (x5 h)]∧r= .tup [.agg (evR (zgm h e).1),bv (zgm h e).2]):=by
 rcases (by omega:k=1∨k=2∨k=3∨k=4∨k=5∨k=6) with rfl|rfl|rfl|rfl|rfl|rfl
 ·refine ⟨_,rfl,?_⟩
  have hc:zgm h e=(⟨0,0,e.s,e.l,0,⟨0,0⟩,0,[]⟩,zd8 h e):=by unfold zgm;rw [hk];rfl
  rw [hc]
  exact y3.of_acall (fs:= []) (cs:= [pZ b3,pZ b2]) (ypb e h b3 b2)
 ·refine ⟨_,rfl,?_⟩
  have hc:zgm h e=(⟨0,0,0,0,e.o,e.v,0,[]⟩,zbc h e):=by unfold zgm;rw [hk];rfl
  rw [hc]
  exact y3.of_acall (fs:= []) (cs:= [pZ b3,pZ b2]) (ypa e h b3 b2)
 ·refine ⟨_,rfl,?_⟩
  have hc:zgm h e=(⟨0,0,0,0,e.o,e.v,0,[]⟩,zeg h e):=by unfold zgm;rw [hk];rfl
  rw [hc]
  exact y3.of_acall (fs:= []) (cs:= [pZ b3,pZ b2]) (yo9 e h b3 b2)
 ·refine ⟨_,rfl,?_⟩
  have hc:zgm h e=(⟨0,0,0,0,0,⟨0,0⟩,e.p,e.scan⟩,zcy h e):=by unfold zgm;rw [hk];rfl
  rw [hc]
  exact y3.of_acall (fs:= []) (cs:= [pZ b2,pZ b3]) (yo8 e h b3 b2 hl)
 ·refine ⟨_,rfl,?_⟩
  have hc:zgm h e=(⟨0,0,0,0,0,⟨0,0⟩,0,[]⟩,true):=by unfold zgm;rw [hk];rfl
  rw [hc]
  exact y3.pure (R:=fun x=>x=_) (y3.of_acall (fs:= []) (cs:= []) yo7)
 ·refine ⟨_,rfl,?_⟩
  have hc:zgm h e=(⟨0,0,0,0,0,⟨0,0⟩,0,[]⟩,true):=by unfold zgm;rw [hk];rfl
  rw [hc]
  exact y3.pure (R:=fun x=>x=_) (y3.of_acall (fs:= []) (cs:= []) yo6)
theorem bvz4_6384 {a b:Bool} (h:a=b:=by first|(simp only [zb1, *,Bool.true_and,Bool.false_and,Bool.and_false,Bool.and_true,Bool.true_or,Bool.or_false,Bool.false_or,Bool.or_true,if_true,if_false,Bool.false_eq_true,Bool.not_true,Bool.not_false];done)|(simp_all [zb1];done)|(simp_all [zb1] <;> omega)):bv a=bv b:=congrArg bv h
theorem yrz (h:Hist) (e:Ev) (hl:e.scan.length≤4611686018427387904):x4 Tryz.prog 137 [.agg (x5 h),.agg (evR e)] [] (fun r h'=>h'= []∧r=bv (zb1 h e)):=by
 refine z6 Tryz.func137 rfl rfl rfl ?_
 refine rn ?_;refine z8 rfl (x9 rfl rfl rfl fun b2=> ?_)
 refine z8 rfl (x9 rfl rfl rfl fun b3=> ?_)
 refine rn ?_;refine z8 rfl (y6 rfl fun b5=> ?_)
 refine rn ?_;refine y9 (fun hg2_3=> ?_) (fun hg2_3=> ?_)
 ·refine rn ?_;refine zdf rfl ?_;refine rn ?_;exact u9 rfl (.drop [_,_,_] _ _) ⟨rfl,bvz4_6384⟩
 ·refine rn ?_;refine y9 (fun hg2_8=> ?_) (fun hg2_8=> ?_)
  ·refine rn ?_;refine zdf rfl ?_;refine rn ?_;exact u9 rfl (.drop [_,_,_] _ _) ⟨rfl,bvz4_6384⟩
  ·refine rn ?_;refine qv rfl rfl (y4 rfl rfl (v7 (zx2 h 0 e.t _ rfl (by decide)) (Sbs.refl _))) ?_
   refine rn ?_;refine z7 rfl (fun hc27=> ?_) (fun hc27=> ?_)
   ·refine rn ?_;exact u9 rfl (.drop [_,_,_] _ _) ⟨rfl,bvz4_6384⟩
   ·have hlo:1≤e.kind:=by simpa using hg2_3
    have hhi:e.kind < 7:=by simpa using hg2_8
    obtain ⟨k,hk⟩:=Int.eq_ofNat_of_zero_le (show 0≤e.kind by omega)
    obtain ⟨av,hav,hfc⟩:=yfv h e b2 b3 k hl hk (by omega) (by omega)
    refine zab ?_;refine k8 ?_;refine x8 (y5 ?_)
    refine q1 ?_;refine q1 ?_;refine qq rfl rfl (k6 rfl (by rw [←hk];rfl) (by omega)) ?_
    refine qq rfl rfl (zaa rfl (by simpa using hav)) ?_
    refine qv rfl rfl (y4 rfl rfl (y3.quiet (R:=fun x=>x=_) (h2:= [_]) (List.perm_append_comm (l₁:= [_])) hfc)) ?_
    refine rn ?_;refine z8 rfl (y6 rfl fun b6=> ?_)
    refine rn ?_;refine zd9 6 [(b6,66,_)] rfl (List.perm_append_comm (l₁:= [_])) ?_
    refine rn ?_;refine dw 0 rfl rfl rfl rfl rfl (Nat.le_of_ble_eq_true rfl) ?_
    refine rn2 ?_;show zcw _ _ _ _ _ _ ⟨_,[.box b6 66 _,.box b5 _ _,.box b3 66 (evR e),.box b2 28 (x5 h)],_⟩
    refine rn ?_;refine y9 (fun hg6_1=> ?_) (fun hg6_1=> ?_)
    ·refine rn ?_;refine qv rfl rfl (y4 rfl rfl (v7 (zy5 {(zgm h e).1 with kind:=e.kind,t:=e.t} e (yb2 h e hl) hl) (by exact Sbs.refl _))) ?_
     refine rn ?_;exact u9 rfl (.drop [_,_,_,_] _ _) ⟨rfl,bvz4_6384⟩
    ·refine rn ?_;exact u9 rfl (.drop [_,_,_,_] _ _) ⟨rfl,bvz4_6384⟩
theorem ydt (h:Hist) (b:Nat) (t:Int):x4 Tryz.prog 133 [iv t,pZ b] [.box b 28 (x5 h)] (fun r h'=>h'= [.box b 28 (x5 h)]∧r=bv (zbx h.ts t)):=by
 refine z6 Tryz.func133 rfl rfl rfl ?_
 refine rn ?_;refine qv rfl rfl (y4 rfl rfl (v7 (zx2 h 0 _ _ rfl (by decide)) (Sbs.refl _))) ?_
 refine rn ?_;exact u9 rfl (.refl _ _) ⟨rfl,congrArg bv (by rfl)⟩
theorem zyu {full:Bool} (h:Hist) (b:Nat) (ts:List Int) (hl:ts.length≤4611686018427387904):x4 Tryz.prog 131 [.list full 1 (ts.map zad),pZ b] [.box b 28 (x5 h)] (fun r h'=>h'= [.box b 28 (x5 h)]∧r=bv (tsB h ts)):=by
 refine z6 Tryz.func131 rfl rfl rfl ?_
 refine rn ?_;refine y9 (fun hg1_3=> ?_) (fun hg1_3=> ?_)
 ·refine rn ?_;refine qv rfl rfl (y4 rfl rfl (y3.of_fun (yp1 ts (.fn (.func 133) [] [pZ b]) (zbx h.ts) [.box b 28 (x5 h)] rfl (fun t _=>y3.of_acall (fs:= []) (cs:= [pZ b]) (ydt h b t)) hl))) ?_
  refine rn ?_;exact u9 rfl (.refl _ _) ⟨rfl,congrArg bv (by first|(simp only [tsB, *,Bool.true_and,Bool.false_and,Bool.and_false,Bool.and_true,Bool.true_or,Bool.or_false,Bool.false_or,Bool.or_true,if_true,if_false,Bool.false_eq_true,Bool.not_true,Bool.not_false];done)|(simp_all [tsB];done)|(simp_all [tsB] <;> omega))⟩
 ·refine rn ?_;exact u9 rfl (.refl _ _) ⟨rfl,congrArg bv (by first|(simp only [tsB, *,Bool.true_and,Bool.false_and,Bool.and_false,Bool.and_true,Bool.true_or,Bool.or_false,Bool.false_or,Bool.or_true,if_true,if_false,Bool.false_eq_true,Bool.not_true,Bool.not_false];done)|(simp_all [tsB];done)|(simp_all [tsB] <;> omega))⟩
theorem yi2 (h:Hist) (b:Nat) (e:Ev) (hl:e.scan.length≤4611686018427387904):x4 Tryz.prog 136 [.agg (evR e),pZ b] [.box b 28 (x5 h)] (fun r h'=>h'= [.box b 28 (x5 h)]∧r=bv (zb1 h e)):=by
 refine z6 Tryz.func136 rfl rfl rfl ?_
 refine rn ?_;refine z8 rfl (x9 rfl rfl rfl fun b2=> ?_)
 refine rn ?_;refine qv rfl rfl (y4 rfl rfl (v7 (yrz h e hl) (Sbs.refl _))) ?_
 refine rn ?_;exact u9 rfl (.drop1 _ _ _) ⟨rfl,congrArg bv (by rfl)⟩
theorem yi1 (h:Hist) (b c:Nat) (m:H.Ord) (hl:m.ts.length≤4611686018427387904):x4 Tryz.prog 139 [.agg (zdk m),pZ b,pZ c] [.box b 28 (x5 h),.box c 207 [.fn (.func 131) [] [pZ b]]] (fun r h'=>h'= [.box b 28 (x5 h),.box c 207 [.fn (.func 131) [] [pZ b]]]∧r=bv (zqb h m)):=by
 refine z6 Tryz.func139 rfl rfl rfl ?_
 refine rn ?_;refine z8 rfl (x9 rfl rfl rfl fun b3=> ?_)
 refine rn ?_;refine qv rfl rfl (y4 rfl rfl (v7 (zx2 h 2 _ _ rfl (by decide)) (Sbs.refl _))) ?_
 refine rn ?_;refine y9 (fun hg1_4=> ?_) (fun hg1_4=> ?_)
 ·refine rn ?_;refine qv rfl rfl (y4 rfl rfl (y3.quiet (R:=fun x=>x=bv (tsB h m.ts)) (h2:= [_,_]) (List.Perm.swap _ _ _) (y3.of_acall (fs:= []) (cs:= [pZ b]) (zyu h b m.ts hl)))) ?_
  refine rn ?_;exact u9 rfl (.drop1 _ _ _) ⟨rfl,congrArg bv (by first|(simp only [zqb, *,Bool.true_and,Bool.false_and,Bool.and_false,Bool.and_true,Bool.true_or,Bool.or_false,Bool.false_or,Bool.or_true,if_true,if_false,Bool.false_eq_true,Bool.not_true,Bool.not_false];done)|(simp_all [zqb];done)|(simp_all [zqb] <;> omega))⟩
 ·refine rn ?_;exact u9 rfl (.drop1 _ _ _) ⟨rfl,congrArg bv (by first|(simp only [zqb, *,Bool.true_and,Bool.false_and,Bool.and_false,Bool.and_true,Bool.true_or,Bool.or_false,Bool.false_or,Bool.or_true,if_true,if_false,Bool.false_eq_true,Bool.not_true,Bool.not_false];done)|(simp_all [zqb];done)|(simp_all [zqb] <;> omega))⟩
theorem bvz5_5397 {a b:Bool} (h:a=b:=by first|(simp only [ztm, *,Bool.true_and,Bool.false_and,Bool.and_false,Bool.and_true,Bool.true_or,Bool.or_false,Bool.false_or,Bool.or_true,if_true,if_false,Bool.false_eq_true,Bool.not_true,Bool.not_false];done)|(simp_all [ztm];done)|(simp_all [ztm] <;> omega)):bv a=bv b:=congrArg bv h
theorem yi0 (h:Hist) (b c:Nat) (m:Mat) (hl:m.ts.length≤4611686018427387904):x4 Tryz.prog 141 [.agg (ze4 m),pZ b,pZ c] [.box b 28 (x5 h),.box c 207 [.fn (.func 131) [] [pZ b]]] (fun r h'=>h'= [.box b 28 (x5 h),.box c 207 [.fn (.func 131) [] [pZ b]]]∧r=bv (ztm h m)):=by
 refine z6 Tryz.func141 rfl rfl rfl ?_
 refine rn ?_;refine z8 rfl (x9 rfl rfl rfl fun b3=> ?_)
 refine rn ?_;refine qv rfl rfl (y4 rfl rfl (v7 (zx2 h 3 _ _ rfl (by decide)) (Sbs.refl _))) ?_
 refine rn ?_;refine y9 (fun hg1_4=> ?_) (fun hg1_4=> ?_)
 ·refine rn ?_;refine qv rfl rfl (y4 rfl rfl (v7 (zx2 h 2 _ _ rfl (by decide)) (Sbs.refl _))) ?_
  refine rn ?_;refine y9 (fun hg1_10=> ?_) (fun hg1_10=> ?_)
  ·refine rn ?_;refine qv rfl rfl (y4 rfl rfl (y3.quiet (R:=fun x=>x=bv (tsB h m.ts)) (h2:= [_,_]) (List.Perm.swap _ _ _) (y3.of_acall (fs:= []) (cs:= [pZ b]) (zyu h b m.ts hl)))) ?_
   refine rn ?_;exact u9 rfl (.drop1 _ _ _) ⟨rfl,bvz5_5397⟩
  ·refine rn ?_;exact u9 rfl (.drop1 _ _ _) ⟨rfl,bvz5_5397⟩
 ·refine rn ?_;exact u9 rfl (.drop1 _ _ _) ⟨rfl,bvz5_5397⟩
theorem bvz6_9350 {a b:Bool} (h:a=b:=by first|(simp only [zuk, *,Bool.true_and,Bool.false_and,Bool.and_false,Bool.and_true,Bool.true_or,Bool.or_false,Bool.false_or,Bool.or_true,if_true,if_false,Bool.false_eq_true,Bool.not_true,Bool.not_false];done)|(simp_all [zuk];done)|(simp_all [zuk] <;> omega)):bv a=bv b:=congrArg bv h
theorem yiz (h:Hist) (b:Nat) (w:Wan):x4 Tryz.prog 143 [.agg (zff w),pZ b] [.box b 28 (x5 h)] (fun r h'=>h'= [.box b 28 (x5 h)]∧r=bv (zuk h w)):=by
 refine z6 Tryz.func143 rfl rfl rfl ?_
 refine rn ?_;refine z8 rfl (x9 rfl rfl rfl fun b2=> ?_)
 refine rn ?_;refine qv rfl rfl (y4 rfl rfl (v7 (zx2 h 1 _ _ rfl (by decide)) (Sbs.refl _))) ?_
 refine rn ?_;refine y9 (fun hg1_4=> ?_) (fun hg1_4=> ?_)
 ·refine rn ?_;refine y9 (fun hg1_9=> ?_) (fun hg1_9=> ?_)
  ·refine rn ?_;exact u9 rfl (.drop1 _ _ _) ⟨rfl,bvz6_9350⟩
  ·refine rn ?_;exact u9 rfl (.drop1 _ _ _) ⟨rfl,bvz6_9350⟩
 ·refine rn ?_;exact u9 rfl (.drop1 _ _ _) ⟨rfl,bvz6_9350⟩
theorem bvz7_5391 {a b:Bool} (h:a=b:=by first|(simp only [j8, *,Bool.true_and,Bool.false_and,Bool.and_false,Bool.and_true,Bool.true_or,Bool.or_false,Bool.false_or,Bool.or_true,if_true,if_false,Bool.false_eq_true,Bool.not_true,Bool.not_false];done)|(simp_all [j8];done)):bv a=bv b:=congrArg bv h
theorem yms (h:Hist) (la:Lim 4611686018427387904 h):x4 Tryz.prog 103 [.agg (x5 h)] [.glob 3 148 x6,.glob 5 276 x7,.glob 6 279 y7] (fun r h'=>h'= [.glob 3 148 x6,.glob 5 276 x7,.glob 6 279 y7]∧r=bv (j8 h)):=by
 refine z6 Tryz.func103 rfl rfl rfl ?_
 refine rn ?_;refine z8 rfl (x9 rfl rfl rfl fun b1=> ?_)
 refine rn ?_;refine zlo ?_;refine ze1 (⟨[(1,pZ b1),(3,bv (okK h 0))],.box b1 28 (x5 h):: [.glob 3 148 x6,.glob 5 276 x7,.glob 6 279 y7],[]⟩) ?_ ?_
 ·refine rn ?_;refine y9 (fun hg1_4=> ?_) (fun hg1_4=> ?_)
  ·refine rn ?_;rw [show okK h 0=_ from zu4 h,hg1_4]
   exact (w8 (.cons _ _ _ rfl (.cons _ _ _ rfl (.nil))))
  ·refine rn ?_;rw [show okK h 0=_ from zu4 h,hg1_4]
   exact (w8 (.cons _ _ _ rfl (.cons _ _ _ rfl (.nil))))
 ·refine x8 ?_;refine zwd ?_;refine rn0 ?_;refine ze1 (⟨[(3,bv (okK h 4)),(1,pZ b1)],.box b1 28 (x5 h):: [.glob 3 148 x6,.glob 5 276 x7,.glob 6 279 y7],[]⟩) ?_ ?_
  ·refine rn ?_;refine qv rfl rfl (y4 rfl rfl (v7 (yj7 _) (Sbs.refl _))) ?_
   refine rn ?_;refine j3 (fun k:Nat=>k≤4) (fun k=>⟨[(29,iv k),(28,.agg (zkf h)),(1,pZ b1),(3,bv (okK h k))],.box b1 28 (x5 h):: [.glob 3 148 x6,.glob 5 276 x7,.glob 6 279 y7],[]⟩) (fun k=>4 - k) 0 (by omega)
    (w8 (.cons _ _ _ rfl (.cons _ _ _ rfl (.cons _ _ _ rfl (.cons _ _ _ rfl (.nil)))))) ?_
   rintro k hk
   refine rn ?_;refine z7 rfl (fun hc30=> ?_) (fun hc30=> ?_)
   ·have hk4:k < 4:=by simp at hc30;omega
    refine zab ?_;refine k8 ?_;refine x8 ?_;refine zal ?_;refine x8 (y5 ?_)
    refine q1 ?_;refine qq rfl rfl (zda rfl rfl (by omega) (by have:=yac h hk4;simpa using this)) ?_
    refine rn ?_;refine z8 rfl (zbj (enc:=zyn) rfl fun b33=> ?_)
    refine rn0 ?_;refine ze1 (⟨[(5,zc4 (nmK h k)),(3,bv (okj h k 0)),(6,.v (.map (some b33))),(29,iv k),(28,.agg (zkf h)),(1,pZ b1)],.map b33 (zag zyn []):: .box b1 28 (x5 h):: [.glob 3 148 x6,.glob 5 276 x7,.glob 6 279 y7],[]⟩) ?_ ?_
    ·refine rn ?_;refine y9 (fun hg6_1=> ?_) (fun hg6_1=> ?_)
     ·refine q1 ?_;refine q1 ?_;refine q1 ?_;refine qq rfl rfl (k6 rfl rfl (by omega)) ?_
      refine qq rfl rfl (zaa rfl (ztt hk4)) ?_
      refine rn ?_;rw [yg5 h k,hg6_1]
      first|exact (w8 (.cons _ _ _ rfl (.cons _ _ _ rfl (.cons _ _ _ rfl (.cons _ _ _ rfl (.cons _ _ _ rfl (.cons _ _ _ rfl (.nil))))))))|(rw [Bool.true_and];exact (w8 (.cons _ _ _ rfl (.cons _ _ _ rfl (.cons _ _ _ rfl (.cons _ _ _ rfl (.cons _ _ _ rfl (.cons _ _ _ rfl (.nil)))))))))
     ·refine rn ?_;rw [yg5 h k,hg6_1]
      first|exact (w8 (.cons _ _ _ rfl (.cons _ _ _ rfl (.cons _ _ _ rfl (.cons _ _ _ rfl (.cons _ _ _ rfl (.cons _ _ _ rfl (.nil))))))))|(rw [Bool.true_and];exact (w8 (.cons _ _ _ rfl (.cons _ _ _ rfl (.cons _ _ _ rfl (.cons _ _ _ rfl (.cons _ _ _ rfl (.cons _ _ _ rfl (.nil)))))))))
    ·refine rn ?_;refine j3 (fun j:Nat=>j≤(nmK h k).length∧(0 < j→okj h k 0=true)∧za3 [] (nmK h k)=za3 ((nmK h k).take j) ((nmK h k).drop j)) (fun j=>⟨[(45,iv j),(43,zc4 (nmK h k)),(44,iv ((nmK h k).map ze7).length),(3,bv (okj h k 0)),(6,.v (.map (some b33))),(29,iv k),(28,.agg (zkf h)),(1,pZ b1)],.map b33 (zag zyn (yha ((nmK h k).take j))):: .box b1 28 (x5 h):: [.glob 3 148 x6,.glob 5 276 x7,.glob 6 279 y7],[]⟩) (fun j=>(nmK h k).length - j) 0 ⟨by omega,by omega,by simp⟩
      (w8 (.cons _ _ _ rfl (.cons _ _ _ rfl (.cons _ _ _ rfl (.cons _ _ _ rfl (.cons _ _ _ rfl (.cons _ _ _ rfl (.cons _ _ _ rfl (.cons _ _ _ rfl (.nil)))))))))) ?_
     rintro j ⟨hj,hok,hf⟩
     have hlk:=la.nm k
     refine rn ?_;refine z7 rfl (fun hc46=> ?_) (fun hc46=> ?_)
     ·have hj2:j < (nmK h k).length:=by simpa using hc46
      have hrow:(zc4 (nmK h k))= .list false 1 ((nmK h k).map ze7):=rfl
      have hrow2:((nmK h k).map ze7)[j]? =some (ze7 (nmK h k)[j]):=by simp [hj2]
      have hd:=List.drop_eq_getElem_cons hj2
      refine zab ?_;refine rn0 ?_;refine x8 ?_;refine zal ?_;refine x8 (y5 ?_)
      refine rn0 ?_;refine x8 ?_;refine ze1 (⟨[(3,bv (okj h k 0 && zgs (nmK h k)[j] && !zx3 (nmK h k)[j] ((nmK h k).take j))),(8,sv (nmK h k)[j]),(45,iv j),(43,zc4 (nmK h k)),(44,iv ((nmK h k).map ze7).length),(6,.v (.map (some b33))),(29,iv k),(28,.agg (zkf h)),(1,pZ b1)],.map b33 (zag zyn (yha ((nmK h k).take j))):: .box b1 28 (x5 h):: [.glob 3 148 x6,.glob 5 276 x7,.glob 6 279 y7],[]⟩) ?_ ?_
      ·refine rn ?_;refine y9 (fun hg10_1=> ?_) (fun hg10_1=> ?_)
       ·refine rn ?_;refine qv rfl rfl (y4 rfl rfl (y3.qt (y3.of_fun (yss ((nmK h k)[j]))) ((pt3 _ _ _ _ _).trans (.cons _ (pt3 _ _ _ _ _))))) ?_
        refine rn ?_;refine y9 (fun hg10_5=> ?_) (fun hg10_5=> ?_)
        ·refine rn ?_;refine qq rfl rfl (zq1 (enc:=zyn) (k:=(nmK h k)[j]) rfl rfl (zxk _ _)) ?_
         refine rn ?_;first|(rw [hg10_1,hg10_5];exact (w8 (.cons _ _ _ rfl (.cons _ _ _ rfl (.cons _ _ _ rfl (.cons _ _ _ rfl (.cons _ _ _ rfl (.cons _ _ _ rfl (.cons _ _ _ rfl (.cons _ _ _ rfl (.cons _ _ _ rfl (.nil))))))))))))|(rw [hg10_1];exact (w8 (.cons _ _ _ rfl (.cons _ _ _ rfl (.cons _ _ _ rfl (.cons _ _ _ rfl (.cons _ _ _ rfl (.cons _ _ _ rfl (.cons _ _ _ rfl (.cons _ _ _ rfl (.cons _ _ _ rfl (.nil))))))))))))
        ·refine rn ?_;first|(rw [hg10_1,hg10_5];exact (w8 (.cons _ _ _ rfl (.cons _ _ _ rfl (.cons _ _ _ rfl (.cons _ _ _ rfl (.cons _ _ _ rfl (.cons _ _ _ rfl (.cons _ _ _ rfl (.cons _ _ _ rfl (.cons _ _ _ rfl (.nil))))))))))))|(rw [hg10_1];exact (w8 (.cons _ _ _ rfl (.cons _ _ _ rfl (.cons _ _ _ rfl (.cons _ _ _ rfl (.cons _ _ _ rfl (.cons _ _ _ rfl (.cons _ _ _ rfl (.cons _ _ _ rfl (.cons _ _ _ rfl (.nil))))))))))))
       ·refine rn ?_;first|(rw [hg10_1,hg10_5];exact (w8 (.cons _ _ _ rfl (.cons _ _ _ rfl (.cons _ _ _ rfl (.cons _ _ _ rfl (.cons _ _ _ rfl (.cons _ _ _ rfl (.cons _ _ _ rfl (.cons _ _ _ rfl (.cons _ _ _ rfl (.nil))))))))))))|(rw [hg10_1];exact (w8 (.cons _ _ _ rfl (.cons _ _ _ rfl (.cons _ _ _ rfl (.cons _ _ _ rfl (.cons _ _ _ rfl (.cons _ _ _ rfl (.cons _ _ _ rfl (.cons _ _ _ rfl (.cons _ _ _ rfl (.nil))))))))))))
      ·refine rn ?_;refine z7 rfl (fun hc61=> ?_) (fun hc61=> ?_)
       ·have hfl:(okj h k 0 && zgs (nmK h k)[j] && !zx3 (nmK h k)[j] ((nmK h k).take j))=false:=zq8 hc61
        have hbad:okK h 4=false:=ynx hk4 (yrf (hf.trans (by rw [hd])) hfl)
        refine rn ?_;first
         |exact (w8 (.cons _ _ _ rfl (.cons _ _ _ rfl (.nil))))
         |(rw [hbad,←hfl];exact (v6 (zcs (h1:= [_])) (w8 (.cons _ _ _ rfl (.cons _ _ _ rfl (.nil))))))
       ·obtain ⟨hok2,hw,hfresh⟩:=yny (zq9 hc61)
        refine rn ?_;refine z8 rfl (zke (enc:=zyn) (k:=(nmK h k)[j]) rfl rfl rfl ?_)
        refine rn ?_;have hu:=zum ((nmK h k)[j]) ((nmK h k).take j) (yn6.1 hfresh)
        rw [←List.take_succ_eq_append_getElem hj2] at hu
        exact ⟨j+1,⟨by omega,fun _=>hok2,by rw [hf,hd,za3,hw,List.take_succ_eq_append_getElem hj2];simp [hfresh]⟩,by simp only [hu,hok2,hw,hfresh,Bool.true_and,Bool.not_false];exact (w8 (.cons _ _ _ rfl (.cons _ _ _ rfl (.cons _ _ _ rfl (.cons _ _ _ rfl (.cons _ _ _ rfl (.cons _ _ _ rfl (.cons _ _ _ rfl (.cons _ _ _ rfl (.nil)))))))))),by omega⟩
     ·have hj3:j=(nmK h k).length:=by
       have:(nmK h k).length≤j:=by simpa using hc46
       omega
      refine rn ?_;have hend:=ynw (h:=h) (k:=k) (by rw [hf,hj3,List.drop_length];rfl)
      exact ⟨k+1,by omega,by rw [←hend];exact (v6 (zcs (h1:= [_])) (w8 (.cons _ _ _ rfl (.cons _ _ _ rfl (.cons _ _ _ rfl (.cons _ _ _ rfl (.nil))))))),by omega⟩
   ·have hk4:k=4:=by simp at hc30;omega
    subst hk4
    refine rn ?_;first
     |exact (w8 (.cons _ _ _ rfl (.cons _ _ _ rfl (.nil))))
     |(rw [hbad,←hfl];exact (v6 (zcs (h1:= [_])) (w8 (.cons _ _ _ rfl (.cons _ _ _ rfl (.nil))))))
  ·refine rn ?_;refine z8 rfl (y6 rfl fun b9=> ?_)
   refine rn ?_;refine y9 (fun hg16_1=> ?_) (fun hg16_1=> ?_)
   ·refine rn ?_;refine qv rfl rfl (y4 rfl rfl (y3.of_fun (ysb h.evs (.fn (.func 136) [] [pZ b1]) (zb1 h) (.box b9 207 [.fn (.func 131) [] [pZ b1]]:: .box b1 28 (x5 h):: [.glob 3 148 x6,.glob 5 276 x7,.glob 6 279 y7]) rfl (fun e he=>y3.qt (y3.of_acall (fs:= []) (cs:= [pZ b1]) (yi2 h b1 e (la.scans e he))) (pt1 _ _ _)) la.evs))) ?_
    refine rn ?_;refine y9 (fun hg16_7=> ?_) (fun hg16_7=> ?_)
    ·refine rn ?_;refine qv rfl rfl (y4 rfl rfl (y3.of_fun (ypz h.ords (.fn (.func 139) [] [pZ b1,pZ b9]) (zqb h) (.box b9 207 [.fn (.func 131) [] [pZ b1]]:: .box b1 28 (x5 h):: [.glob 3 148 x6,.glob 5 276 x7,.glob 6 279 y7]) rfl (fun e he=>y3.qt (y3.of_acall (fs:= []) (cs:= [pZ b1,pZ b9]) (yi1 h b1 b9 e (la.ordts e he))) (pt1 _ _ _)) la.ords))) ?_
     refine rn ?_;refine y9 (fun hg16_13=> ?_) (fun hg16_13=> ?_)
     ·refine rn ?_;refine qv rfl rfl (y4 rfl rfl (y3.of_fun (yp0 h.mats (.fn (.func 141) [] [pZ b1,pZ b9]) (ztm h) (.box b9 207 [.fn (.func 131) [] [pZ b1]]:: .box b1 28 (x5 h):: [.glob 3 148 x6,.glob 5 276 x7,.glob 6 279 y7]) rfl (fun e he=>y3.qt (y3.of_acall (fs:= []) (cs:= [pZ b1,pZ b9]) (yi0 h b1 b9 e (la.matts e he))) (pt1 _ _ _)) la.mats))) ?_
      refine rn ?_;refine y9 (fun hg16_19=> ?_) (fun hg16_19=> ?_)
      ·refine rn ?_;refine qv rfl rfl (y4 rfl rfl (y3.of_fun (ypy h.wants (.fn (.func 143) [] [pZ b1]) (zuk h) (.box b9 207 [.fn (.func 131) [] [pZ b1]]:: .box b1 28 (x5 h):: [.glob 3 148 x6,.glob 5 276 x7,.glob 6 279 y7]) rfl (fun e he=>y3.qt (y3.of_acall (fs:= []) (cs:= [pZ b1]) (yiz h b1 e)) (pt1 _ _ _)) la.wants))) ?_
       refine rn ?_;refine ⟨fun l h=>(by cases h),?_⟩
       exact u9 rfl (.drop [_,_] _ _) ⟨rfl,bvz7_5391⟩
      ·refine rn ?_;refine ⟨fun l h=>(by cases h),?_⟩
       exact u9 rfl (.drop [_,_] _ _) ⟨rfl,bvz7_5391⟩
     ·refine rn ?_;refine ⟨fun l h=>(by cases h),?_⟩
      exact u9 rfl (.drop [_,_] _ _) ⟨rfl,bvz7_5391⟩
    ·refine rn ?_;refine ⟨fun l h=>(by cases h),?_⟩
     exact u9 rfl (.drop [_,_] _ _) ⟨rfl,bvz7_5391⟩
   ·refine rn ?_;refine ⟨fun l h=>(by cases h),?_⟩
    exact u9 rfl (.drop [_,_] _ _) ⟨rfl,bvz7_5391⟩
theorem zws {σ:Type} (step:σ→Nat×Int→Option σ) (ok:Nat×Int→Prop) (IJ:Option σ→List Res→Prop) (y:AV) (hy:∀(s:σ) (L:List Res) (sort:Nat) (n:Int) (cells:List AV),ok (sort,n)→IJ (some s) L→y3 Tryz.prog y [iv sort,.pp (iv n::cells)] L (fun r h'=>r=bv (step s (sort,n)).isSome∧IJ (step s (sort,n)) h')) (sort:Nat) (n:Int) (hs:ok (sort,n)) (cells:List AV) (bm by_:Nat) (st:Option σ) (L:List Res) (hI:IJ st L):x4 Tryz.prog 145 [iv sort,.pp (iv n::cells),pZ bm,pZ by_] (.box bm 4 [bv (st).isSome]:: .box by_ 215 [y]::L) (fun r h'=>∃L',IJ (goes step st [(sort,n)]) L'∧h'= .box bm 4 [bv (goes step st [(sort,n)]).isSome]:: .box by_ 215 [y]::L'):=by
 refine z6 Tryz.func145 rfl rfl rfl ?_
 refine rn ?_;refine y9 (fun hg0_1=> ?_) (fun hg0_1=> ?_)
 ·refine rn ?_;obtain ⟨s,rfl⟩:=Option.isSome_iff_exists.1 hg0_1
  refine z8 rfl (w9 rfl rfl (y3.fr2 (hy s L sort n cells hs hI)) rfl ?_)
  rintro _ _ ⟨L2,rfl,rfl,hI2⟩
  refine rn ?_;first
   |exact ze9 .nil (.refl _ _) ⟨L2,hI2,rfl⟩
   |(obtain rfl:=Option.not_isSome_iff_eq_none.1 (show ¬st.isSome=true by simp [hg0_1])
     exact ze9 .nil (.refl _ _) ⟨L,hI,rfl⟩)
 ·refine rn ?_;first
   |exact ze9 .nil (.refl _ _) ⟨L2,hI2,rfl⟩
   |(obtain rfl:=Option.not_isSome_iff_eq_none.1 (show ¬st.isSome=true by simp [hg0_1])
     exact ze9 .nil (.refl _ _) ⟨L,hI,rfl⟩)
theorem ykj {σ:Type} (step:σ→Nat×Int→Option σ) (ok:Nat×Int→Prop) (IJ:Option σ→List Res→Prop) (y:AV) (hy:∀(s:σ) (L:List Res) (sort:Nat) (n:Int) (cells:List AV),ok (sort,n)→IJ (some s) L→y3 Tryz.prog y [iv sort,.pp (iv n::cells)] L (fun r h'=>r=bv (step s (sort,n)).isSome∧IJ (step s (sort,n)) h')) (v:Ver) (hv:∀x∈zgh v,ok x) (cells:List AV) (bs bm by_:Nat) (st:Option σ) (L:List Res) (hI:IJ st L):x4 Tryz.prog 146 [.pp (iv v.t::iv v.k::cells),pZ bs] (.box bs 216 [.fn (.func 145) [] [pZ bm,pZ by_]]:: .box bm 4 [bv (st).isSome]:: .box by_ 215 [y]::L) (fun r h'=>∃L',IJ (goes step st (zgh v)) L'∧h'= .box bs 216 [.fn (.func 145) [] [pZ bm,pZ by_]]:: .box bm 4 [bv (goes step st (zgh v)).isSome]:: .box by_ 215 [y]::L'):=by
 refine z6 Tryz.func146 rfl rfl rfl ?_
 refine rn ?_;refine z7 rfl (fun hc7=> ?_) (fun hc7=> ?_)
 ·refine j6 4 rfl ?_
  refine rn ?_;refine z8 rfl (w9 rfl rfl (y3.fr1 (y3.of_acall (fs:= []) (cs:= [pZ bm,pZ by_]) (zws step ok IJ y hy 0 v.t (hv _ (by rw [zgh,if_pos hc7];simp)) (iv v.k::cells) bm by_ _ _ hI))) rfl ?_)
  rintro _ _ ⟨_,rfl,L2,hI2,rfl⟩
  refine rn ?_;first
   |(have hm:zgh v= [(0,v.t)]:=by rw [zgh,if_pos hc7]
     rw [hm];exact ze9 .nil (.refl _ _) ⟨L2,hI2,rfl⟩)
   |(have hm:zgh v= []:=by rw [zgh,if_neg (by rw [hc7];decide)]
     rw [hm];exact ze9 .nil (.refl _ _) ⟨L,hI,rfl⟩)
 ·refine rn ?_;first
   |(have hm:zgh v= [(0,v.t)]:=by rw [zgh,if_pos hc7]
     rw [hm];exact ze9 .nil (.refl _ _) ⟨L2,hI2,rfl⟩)
   |(have hm:zgh v= []:=by rw [zgh,if_neg (by rw [hc7];decide)]
     rw [hm];exact ze9 .nil (.refl _ _) ⟨L,hI,rfl⟩)
theorem yit {σ:Type} (step:σ→Nat×Int→Option σ) (ok:Nat×Int→Prop) (IJ:Option σ→List Res→Prop) (y:AV) (hone:y.cellsOf=some [y]) (hy:∀(s:σ) (L:List Res) (sort:Nat) (n:Int) (cells:List AV),ok (sort,n)→IJ (some s) L→y3 Tryz.prog y [iv sort,.pp (iv n::cells)] L (fun r h'=>r=bv (step s (sort,n)).isSome∧IJ (step s (sort,n)) h')) (h:Hist) (la:Lim 4611686018427387904 h) (b1 bh:Nat) (hok:∀x∈zcm h,ok x) (s0:σ) (L0:List Res) (h0:IJ (some s0) L0):x4 Tryz.prog 144 [y,pZ b1] (.box b1 168 [pZ bh]:: .box bh 28 (x5 h)::L0) (fun r h'=>∃L',IJ (goes step (some s0) (zcm h)) L'∧h'= .box b1 168 [pZ bh]:: .box bh 28 (x5 h)::L'):=by
 refine z6 Tryz.func144 rfl rfl rfl ?_
 refine rn ?_;refine z8 rfl (x9 rfl hone rfl fun by_=> ?_)
 refine rn ?_;refine z8 rfl (y6 rfl fun bm=> ?_)
 refine rn ?_;refine z8 rfl (y6 rfl fun bs=> ?_)
 refine rn ?_;refine j3 (fun x:Nat×Option σ×List Res=>x.1≤h.evs.length∧IJ x.2.1 x.2.2∧Rem step ok x.2.1 (((h.evs.drop x.1).flatMap evL)++(h.ords.flatMap yg3++(h.mats.flatMap yc1++h.wants.flatMap zyd))) (goes step (some s0) (zcm h))) (fun x=>⟨[(22,iv x.1),(21,iv (h.evs.map evR).length),(1,pZ b1),(4,pZ bs),(5,.fn (.func 146) [] [pZ bs])],.box b1 168 [pZ bh]:: .box bh 28 (x5 h):: .box bs 216 [.fn (.func 145) [] [pZ bm,pZ by_]]:: .box bm 4 [bv (x.2.1).isSome]:: .box by_ 215 [y]::x.2.2,[]⟩) (fun x=>h.evs.length - x.1) (0,some s0,L0) ⟨by omega,h0,rfl,hok⟩
  (v6 (zay ((pt3 _ _ _ _ _).trans (.cons _ (pt3 _ _ _ _ _)))) (w8 (.cons _ _ _ rfl (.cons _ _ _ rfl (.cons _ _ _ rfl (.cons _ _ _ rfl (.cons _ _ _ rfl (.nil)))))))) ?_
 rintro ⟨k,st,L⟩ ⟨hk,hI,hF⟩
 simp only at hk hI hF
 refine rn ?_;refine z7 rfl (fun hc23=> ?_) (fun hc23=> ?_)
 ·have k2:k < h.evs.length:=by simpa using hc23
  obtain ⟨e,he⟩:∃e,e=h.evs[k]:=⟨_,rfl⟩
  have hrowe:(h.evs.map evR)[k]? =some (evR e):=by rw [he];simp [k2]
  have hde:=List.drop_eq_getElem_cons k2
  rw [hde,←he] at hF
  simp only [List.flatMap_cons,evL,List.cons_append,List.append_assoc] at hF
  obtain ⟨hx,hF⟩:=hF.cons
  obtain ⟨hkx,hF⟩:=hF.app
  have hle:=la.evs
  have hls:=la.scans e (by rw [he];simp)
  refine rn ?_;refine j6 4 rfl ?_
  refine rn ?_;refine z8 rfl (w9 rfl rfl (y3.fr3 (y3.of_acall (fs:= []) (cs:= [pZ bm,pZ by_]) (zws step ok IJ y hy 0 e.t hx _ bm by_ _ _ hI))) rfl ?_)
  rintro _ _ ⟨_,rfl,L,hI,rfl⟩
  refine rn0 ?_;refine zud (fun L=>IJ (goes step (goes step st [(0,e.t)]) (zgi e)) L) (fun L=>⟨[(7,.pp (evR e)),(22,iv k),(21,iv (h.evs.map evR).length),(1,pZ b1),(4,pZ bs),(5,.fn (.func 146) [] [pZ bs])],.box b1 168 [pZ bh]:: .box bh 28 (x5 h):: .box bs 216 [.fn (.func 145) [] [pZ bm,pZ by_]]:: .box bm 4 [bv (goes step (goes step st [(0,e.t)]) (zgi e)).isSome]:: .box by_ 215 [y]::L,[]⟩) ?_ ?_
  ·refine rn ?_;refine z7 rfl (fun hc40=> ?_) (fun hc40=> ?_)
   ·have hkl:=yay (e:=e) (by simpa using hc40)
    refine j6 4 rfl ?_
    refine rn ?_;refine z8 rfl (w9 rfl rfl (y3.fr3 (y3.of_acall (fs:= []) (cs:= [pZ bm,pZ by_]) (zws step ok IJ y hy 1 e.s (hkx _ (by rw [hkl];simp)) _ bm by_ _ _ hI))) rfl ?_)
    rintro _ _ ⟨_,rfl,L,hI,rfl⟩
    refine rn ?_;refine ⟨L,?_,?_⟩
    ·show IJ (goes step _ (zgi e)) L
     rw [hkl];exact hI
    ·rw [hkl];exact (w8 (.cons _ _ _ rfl (.cons _ _ _ rfl (.cons _ _ _ rfl (.cons _ _ _ rfl (.cons _ _ _ rfl (.cons _ _ _ rfl (.nil))))))))
   ·have hn1:e.kind≠1:=by simpa using hc40
    refine rn ?_;refine z7 rfl (fun hc47=> ?_) (fun hc47=> ?_)
    ·have hk23:e.kind=2∨e.kind=3:=by simp at hc47;omega
     have hkl:=zmi hk23
     refine rn ?_;refine z7 rfl (fun hc47=> ?_) (fun hc47=> ?_)
     ·have hk23:e.kind=2∨e.kind=3:=by simp at hc47;omega
      have hkl:=zmi hk23
      refine rn ?_;refine j6 4 rfl ?_
      refine rn ?_;refine z8 rfl (w9 rfl rfl (y3.fr3 (y3.of_acall (fs:= []) (cs:= [pZ bm,pZ by_]) (zws step ok IJ y hy 2 e.o (hkx _ (by rw [hkl];simp)) _ bm by_ _ _ hI))) rfl ?_)
      rintro _ _ ⟨_,rfl,L,hI,rfl⟩
      refine rn ?_;refine z8 rfl (w9 rfl rfl (y3.fr2 (y3.of_acall (fs:= []) (cs:= [pZ bs]) (ykj step ok IJ y hy e.v (fun x hx=>hkx x (by rw [hkl];simp [hx])) _ bs bm by_ _ _ hI))) rfl ?_)
      rintro _ _ ⟨_,rfl,L,hI,rfl⟩
      refine rn ?_;refine ⟨L,?_,?_⟩
      ·show IJ (goes step _ (zgi e)) L
       rw [hkl];exact hI
      ·rw [hkl];exact (w8 (.cons _ _ _ rfl (.cons _ _ _ rfl (.cons _ _ _ rfl (.cons _ _ _ rfl (.cons _ _ _ rfl (.cons _ _ _ rfl (.nil))))))))
     ·first|cases hc47|exact absurd hc47 (by decide)|(exfalso;simp_all;done)
    ·have hn23:=hc47
     simp at hn23
     refine rn ?_;refine z7 rfl (fun hc47=> ?_) (fun hc47=> ?_)
     ·have hk23:e.kind=2∨e.kind=3:=by simp at hc47;omega
      have hkl:=zmi hk23
      refine rn ?_;refine j6 4 rfl ?_
      refine rn ?_;refine z8 rfl (w9 rfl rfl (y3.fr3 (y3.of_acall (fs:= []) (cs:= [pZ bm,pZ by_]) (zws step ok IJ y hy 2 e.o (hkx _ (by rw [hkl];simp)) _ bm by_ _ _ hI))) rfl ?_)
      rintro _ _ ⟨_,rfl,L,hI,rfl⟩
      refine rn ?_;refine z8 rfl (w9 rfl rfl (y3.fr2 (y3.of_acall (fs:= []) (cs:= [pZ bs]) (ykj step ok IJ y hy e.v (fun x hx=>hkx x (by rw [hkl];simp [hx])) _ bs bm by_ _ _ hI))) rfl ?_)
      rintro _ _ ⟨_,rfl,L,hI,rfl⟩
      refine rn ?_;refine ⟨L,?_,?_⟩
      ·show IJ (goes step _ (zgi e)) L
       rw [hkl];exact hI
      ·rw [hkl];exact (w8 (.cons _ _ _ rfl (.cons _ _ _ rfl (.cons _ _ _ rfl (.cons _ _ _ rfl (.cons _ _ _ rfl (.cons _ _ _ rfl (.nil))))))))
     ·have hn23:=hc47
      simp at hn23
      refine rn ?_;refine z7 rfl (fun hc60=> ?_) (fun hc60=> ?_)
      ·have hkl:=yax (e:=e) (by simpa using hc60)
       refine j6 4 rfl ?_
       refine rn ?_;refine z8 rfl (w9 rfl rfl (y3.fr3 (y3.of_acall (fs:= []) (cs:= [pZ bm,pZ by_]) (zws step ok IJ y hy 3 e.p (hkx _ (by rw [hkl];simp)) _ bm by_ _ _ hI))) rfl ?_)
       rintro _ _ ⟨_,rfl,L,hI,rfl⟩
       refine rn ?_;refine ⟨L,?_,?_⟩
       ·show IJ (goes step _ (zgi e)) L
        rw [hkl];exact hI
       ·rw [hkl];exact (w8 (.cons _ _ _ rfl (.cons _ _ _ rfl (.cons _ _ _ rfl (.cons _ _ _ rfl (.cons _ _ _ rfl (.cons _ _ _ rfl (.nil))))))))
      ·have hn4:e.kind≠4:=by simpa using hc60
       have hkl:=yaz (e:=e) hn1 (by omega) (by omega) hn4
       refine rn ?_;refine ⟨L,?_,?_⟩
       ·show IJ (goes step _ (zgi e)) L
        rw [hkl];exact hI
       ·rw [hkl];exact (w8 (.cons _ _ _ rfl (.cons _ _ _ rfl (.cons _ _ _ rfl (.cons _ _ _ rfl (.cons _ _ _ rfl (.cons _ _ _ rfl (.nil))))))))
  ·rintro L hI
   revert hI hF
   generalize goes step (goes step st [(0,e.t)]) (zgi e)=st2
   intro hF hI
   refine rn ?_;refine j3 (fun x:Nat×Option σ×List Res=>x.1≤e.scan.length∧IJ x.2.1 x.2.2∧Rem step ok x.2.1 (((e.scan.drop x.1).flatMap zsx)++(((h.evs.drop (k+1)).flatMap evL)++(h.ords.flatMap yg3++(h.mats.flatMap yc1++h.wants.flatMap zyd)))) (goes step (some s0) (zcm h))) (fun x=>⟨[(72,iv x.1),(71,iv (e.scan.map zaz).length),(7,.pp (evR e)),(22,iv k),(21,iv (h.evs.map evR).length),(1,pZ b1),(4,pZ bs),(5,.fn (.func 146) [] [pZ bs])],.box b1 168 [pZ bh]:: .box bh 28 (x5 h):: .box bs 216 [.fn (.func 145) [] [pZ bm,pZ by_]]:: .box bm 4 [bv (x.2.1).isSome]:: .box by_ 215 [y]::x.2.2,[]⟩) (fun x=>e.scan.length - x.1) (0,st2,L) ⟨by omega,hI,hF⟩
    (w8 (.cons _ _ _ rfl (.cons _ _ _ rfl (.cons _ _ _ rfl (.cons _ _ _ rfl (.cons _ _ _ rfl (.cons _ _ _ rfl (.cons _ _ _ rfl (.cons _ _ _ rfl (.nil)))))))))) ?_
   rintro ⟨j,st,L⟩ ⟨hj,hI,hF⟩
   simp only at hj hI hF
   refine rn ?_;refine z7 rfl (fun hc73=> ?_) (fun hc73=> ?_)
   ·have j2:j < e.scan.length:=by simpa using hc73
    obtain ⟨x,hx⟩:∃x,x=e.scan[j]:=⟨_,rfl⟩
    have hrowx:(e.scan.map zaz)[j]? =some (zaz x):=by rw [hx];simp [j2]
    have hdx:=List.drop_eq_getElem_cons j2
    rw [hdx,←hx] at hF
    simp only [List.flatMap_cons,zsx,List.cons_append,List.append_assoc] at hF
    obtain ⟨hx,hF⟩:=hF.cons
    obtain ⟨hkx,hF⟩:=hF.app
    refine rn ?_;refine j6 8 rfl ?_
    refine rn ?_;refine z8 rfl (w9 rfl rfl (y3.fr3 (y3.of_acall (fs:= []) (cs:= [pZ bm,pZ by_]) (zws step ok IJ y hy 2 x.o hx _ bm by_ _ _ hI))) rfl ?_)
    rintro _ _ ⟨_,rfl,L,hI,rfl⟩
    refine rn ?_;refine z8 rfl (w9 rfl rfl (y3.fr2 (y3.of_acall (fs:= []) (cs:= [pZ bs]) (ykj step ok IJ y hy x.v hkx _ bs bm by_ _ _ hI))) rfl ?_)
    rintro _ _ ⟨_,rfl,L,hI,rfl⟩
    refine rn ?_;exact ⟨(j+1,_,L),⟨by omega,hI,hF⟩,(w8 (.cons _ _ _ rfl (.cons _ _ _ rfl (.cons _ _ _ rfl (.cons _ _ _ rfl (.cons _ _ _ rfl (.cons _ _ _ rfl (.cons _ _ _ rfl (.cons _ _ _ rfl (.nil)))))))))),by simp only;omega⟩
   ·obtain rfl:j=e.scan.length:=by
     have:e.scan.length≤j:=by simpa using hc73
     omega
    rw [List.drop_length,List.flatMap_nil,List.nil_append] at hF
    refine rn ?_;exact ⟨(k+1,_,L),⟨by omega,hI,hF⟩,(w8 (.cons _ _ _ rfl (.cons _ _ _ rfl (.cons _ _ _ rfl (.cons _ _ _ rfl (.cons _ _ _ rfl (.nil))))))),by simp only;omega⟩
 ·obtain rfl:k=h.evs.length:=by
   have:h.evs.length≤k:=by simpa using hc23
   omega
  rw [List.drop_length,List.flatMap_nil,List.nil_append] at hF
  refine rn ?_;refine j3 (fun x:Nat×Option σ×List Res=>x.1≤h.ords.length∧IJ x.2.1 x.2.2∧Rem step ok x.2.1 (((h.ords.drop x.1).flatMap yg3)++(h.mats.flatMap yc1++h.wants.flatMap zyd)) (goes step (some s0) (zcm h))) (fun x=>⟨[(100,iv x.1),(99,iv (h.ords.map zdk).length),(1,pZ b1),(4,pZ bs),(5,.fn (.func 146) [] [pZ bs])],.box b1 168 [pZ bh]:: .box bh 28 (x5 h):: .box bs 216 [.fn (.func 145) [] [pZ bm,pZ by_]]:: .box bm 4 [bv (x.2.1).isSome]:: .box by_ 215 [y]::x.2.2,[]⟩) (fun x=>h.ords.length - x.1) (0,st,L) ⟨by omega,hI,hF⟩
   (w8 (.cons _ _ _ rfl (.cons _ _ _ rfl (.cons _ _ _ rfl (.cons _ _ _ rfl (.cons _ _ _ rfl (.nil))))))) ?_
  rintro ⟨k,st,L⟩ ⟨hk,hI,hF⟩
  simp only at hk hI hF
  refine rn ?_;refine z7 rfl (fun hc101=> ?_) (fun hc101=> ?_)
  ·have k2:k < h.ords.length:=by simpa using hc101
   obtain ⟨r,hr⟩:∃r,r=h.ords[k]:=⟨_,rfl⟩
   have hrowr:(h.ords.map zdk)[k]? =some (zdk r):=by rw [hr];simp [k2]
   have hdr:=List.drop_eq_getElem_cons k2
   rw [hdr,←hr] at hF
   simp only [List.flatMap_cons,yg3,List.cons_append,List.append_assoc] at hF
   obtain ⟨hx,hF⟩:=hF.cons
   have hle:=la.ords
   have hls:=la.ordts r (by rw [hr];simp)
   refine rn ?_;refine j6 8 rfl ?_
   refine rn ?_;refine z8 rfl (w9 rfl rfl (y3.fr3 (y3.of_acall (fs:= []) (cs:= [pZ bm,pZ by_]) (zws step ok IJ y hy 2 r.o hx _ bm by_ _ _ hI))) rfl ?_)
   rintro _ _ ⟨_,rfl,L,hI,rfl⟩
   refine rn ?_;refine j3 (fun x:Nat×Option σ×List Res=>x.1≤r.ts.length∧IJ x.2.1 x.2.2∧Rem step ok x.2.1 (((r.ts.drop x.1).map fun t=>((0:Nat),t))++(((h.ords.drop (k+1)).flatMap yg3)++(h.mats.flatMap yc1++h.wants.flatMap zyd))) (goes step (some s0) (zcm h))) (fun x=>⟨[(121,iv x.1),(120,iv (r.ts.map zad).length),(9,iv k),(100,iv k),(99,iv (h.ords.map zdk).length),(1,pZ b1),(4,pZ bs),(5,.fn (.func 146) [] [pZ bs])],.box b1 168 [pZ bh]:: .box bh 28 (x5 h):: .box bs 216 [.fn (.func 145) [] [pZ bm,pZ by_]]:: .box bm 4 [bv (x.2.1).isSome]:: .box by_ 215 [y]::x.2.2,[]⟩) (fun x=>r.ts.length - x.1) (0,_,L) ⟨by omega,hI,hF⟩
    (w8 (.cons _ _ _ rfl (.cons _ _ _ rfl (.cons _ _ _ rfl (.cons _ _ _ rfl (.cons _ _ _ rfl (.cons _ _ _ rfl (.cons _ _ _ rfl (.cons _ _ _ rfl (.nil)))))))))) ?_
   rintro ⟨j,st,L⟩ ⟨hj,hI,hF⟩
   simp only at hj hI hF
   refine rn ?_;refine z7 rfl (fun hc122=> ?_) (fun hc122=> ?_)
   ·have j2:j < r.ts.length:=by simpa using hc122
    obtain ⟨t,ht⟩:∃t,t=r.ts[j]:=⟨_,rfl⟩
    have hrowt:(r.ts.map zad)[j]? =some (zad t):=by rw [ht];simp [j2]
    have hdt:=List.drop_eq_getElem_cons j2
    rw [hdt,←ht] at hF
    simp only [List.map_cons,List.cons_append] at hF
    obtain ⟨hx,hF⟩:=hF.cons
    refine rn ?_;refine j6 11 rfl ?_
    refine rn ?_;refine z8 rfl (w9 rfl rfl (y3.fr3 (y3.of_acall (fs:= []) (cs:= [pZ bm,pZ by_]) (zws step ok IJ y hy 0 t hx _ bm by_ _ _ hI))) rfl ?_)
    rintro _ _ ⟨_,rfl,L,hI,rfl⟩
    refine rn ?_;exact ⟨(j+1,_,L),⟨by omega,hI,hF⟩,(w8 (.cons _ _ _ rfl (.cons _ _ _ rfl (.cons _ _ _ rfl (.cons _ _ _ rfl (.cons _ _ _ rfl (.cons _ _ _ rfl (.cons _ _ _ rfl (.cons _ _ _ rfl (.nil)))))))))),by simp only;omega⟩
   ·obtain rfl:j=r.ts.length:=by
     have:r.ts.length≤j:=by simpa using hc122
     omega
    rw [List.drop_length,List.map_nil,List.nil_append] at hF
    refine rn ?_;exact ⟨(k+1,_,L),⟨by omega,hI,hF⟩,(w8 (.cons _ _ _ rfl (.cons _ _ _ rfl (.cons _ _ _ rfl (.cons _ _ _ rfl (.cons _ _ _ rfl (.nil))))))),by simp only;omega⟩
  ·obtain rfl:k=h.ords.length:=by
    have:h.ords.length≤k:=by simpa using hc101
    omega
   rw [List.drop_length,List.flatMap_nil,List.nil_append] at hF
   refine rn ?_;refine j3 (fun x:Nat×Option σ×List Res=>x.1≤h.mats.length∧IJ x.2.1 x.2.2∧Rem step ok x.2.1 (((h.mats.drop x.1).flatMap yc1)++h.wants.flatMap zyd) (goes step (some s0) (zcm h))) (fun x=>⟨[(143,iv x.1),(142,iv (h.mats.map ze4).length),(1,pZ b1),(4,pZ bs),(5,.fn (.func 146) [] [pZ bs])],.box b1 168 [pZ bh]:: .box bh 28 (x5 h):: .box bs 216 [.fn (.func 145) [] [pZ bm,pZ by_]]:: .box bm 4 [bv (x.2.1).isSome]:: .box by_ 215 [y]::x.2.2,[]⟩) (fun x=>h.mats.length - x.1) (0,st,L) ⟨by omega,hI,hF⟩
    (w8 (.cons _ _ _ rfl (.cons _ _ _ rfl (.cons _ _ _ rfl (.cons _ _ _ rfl (.cons _ _ _ rfl (.nil))))))) ?_
   rintro ⟨k,st,L⟩ ⟨hk,hI,hF⟩
   simp only at hk hI hF
   refine rn ?_;refine z7 rfl (fun hc144=> ?_) (fun hc144=> ?_)
   ·have k2:k < h.mats.length:=by simpa using hc144
    obtain ⟨r,hr⟩:∃r,r=h.mats[k]:=⟨_,rfl⟩
    have hrowr:(h.mats.map ze4)[k]? =some (ze4 r):=by rw [hr];simp [k2]
    have hdr:=List.drop_eq_getElem_cons k2
    rw [hdr,←hr] at hF
    simp only [List.flatMap_cons,yc1,List.cons_append,List.append_assoc] at hF
    obtain ⟨hx,hF⟩:=hF.cons
    obtain ⟨hx2,hF⟩:=hF.cons
    have hle:=la.mats
    have hls:=la.matts r (by rw [hr];simp)
    refine rn ?_;refine j6 4 rfl ?_
    refine rn ?_;refine z8 rfl (w9 rfl rfl (y3.fr3 (y3.of_acall (fs:= []) (cs:= [pZ bm,pZ by_]) (zws step ok IJ y hy 3 r.p hx _ bm by_ _ _ hI))) rfl ?_)
    rintro _ _ ⟨_,rfl,L,hI,rfl⟩
    refine rn ?_;refine j6 4 rfl ?_
    refine rn ?_;refine z8 rfl (w9 rfl rfl (y3.fr3 (y3.of_acall (fs:= []) (cs:= [pZ bm,pZ by_]) (zws step ok IJ y hy 2 r.o hx2 _ bm by_ _ _ hI))) rfl ?_)
    rintro _ _ ⟨_,rfl,L,hI,rfl⟩
    refine rn ?_;refine j3 (fun x:Nat×Option σ×List Res=>x.1≤r.ts.length∧IJ x.2.1 x.2.2∧Rem step ok x.2.1 (((r.ts.drop x.1).map fun t=>((0:Nat),t))++(((h.mats.drop (k+1)).flatMap yc1)++h.wants.flatMap zyd)) (goes step (some s0) (zcm h))) (fun x=>⟨[(167,iv x.1),(166,iv (r.ts.map zad).length),(12,.pp (ze4 r)),(143,iv k),(142,iv (h.mats.map ze4).length),(1,pZ b1),(4,pZ bs),(5,.fn (.func 146) [] [pZ bs])],.box b1 168 [pZ bh]:: .box bh 28 (x5 h):: .box bs 216 [.fn (.func 145) [] [pZ bm,pZ by_]]:: .box bm 4 [bv (x.2.1).isSome]:: .box by_ 215 [y]::x.2.2,[]⟩) (fun x=>r.ts.length - x.1) (0,_,L) ⟨by omega,hI,hF⟩
     (w8 (.cons _ _ _ rfl (.cons _ _ _ rfl (.cons _ _ _ rfl (.cons _ _ _ rfl (.cons _ _ _ rfl (.cons _ _ _ rfl (.cons _ _ _ rfl (.cons _ _ _ rfl (.nil)))))))))) ?_
    rintro ⟨j,st,L⟩ ⟨hj,hI,hF⟩
    simp only at hj hI hF
    refine rn ?_;refine z7 rfl (fun hc168=> ?_) (fun hc168=> ?_)
    ·have j2:j < r.ts.length:=by simpa using hc168
     obtain ⟨t,ht⟩:∃t,t=r.ts[j]:=⟨_,rfl⟩
     have hrowt:(r.ts.map zad)[j]? =some (zad t):=by rw [ht];simp [j2]
     have hdt:=List.drop_eq_getElem_cons j2
     rw [hdt,←ht] at hF
     simp only [List.map_cons,List.cons_append] at hF
     obtain ⟨hx,hF⟩:=hF.cons
     refine rn ?_;refine j6 7 rfl ?_
     refine rn ?_;refine z8 rfl (w9 rfl rfl (y3.fr3 (y3.of_acall (fs:= []) (cs:= [pZ bm,pZ by_]) (zws step ok IJ y hy 0 t hx _ bm by_ _ _ hI))) rfl ?_)
     rintro _ _ ⟨_,rfl,L,hI,rfl⟩
     refine rn ?_;exact ⟨(j+1,_,L),⟨by omega,hI,hF⟩,(w8 (.cons _ _ _ rfl (.cons _ _ _ rfl (.cons _ _ _ rfl (.cons _ _ _ rfl (.cons _ _ _ rfl (.cons _ _ _ rfl (.cons _ _ _ rfl (.cons _ _ _ rfl (.nil)))))))))),by simp only;omega⟩
    ·obtain rfl:j=r.ts.length:=by
      have:r.ts.length≤j:=by simpa using hc168
      omega
     rw [List.drop_length,List.map_nil,List.nil_append] at hF
     refine rn ?_;exact ⟨(k+1,_,L),⟨by omega,hI,hF⟩,(w8 (.cons _ _ _ rfl (.cons _ _ _ rfl (.cons _ _ _ rfl (.cons _ _ _ rfl (.cons _ _ _ rfl (.nil))))))),by simp only;omega⟩
   ·obtain rfl:k=h.mats.length:=by
     have:h.mats.length≤k:=by simpa using hc144
     omega
    rw [List.drop_length,List.flatMap_nil,List.nil_append] at hF
    refine rn ?_;refine j3 (fun x:Nat×Option σ×List Res=>x.1≤h.wants.length∧IJ x.2.1 x.2.2∧Rem step ok x.2.1 (((h.wants.drop x.1).flatMap zyd)++ []) (goes step (some s0) (zcm h))) (fun x=>⟨[(185,iv x.1),(184,iv (h.wants.map zff).length),(1,pZ b1),(4,pZ bs),(5,.fn (.func 146) [] [pZ bs])],.box b1 168 [pZ bh]:: .box bh 28 (x5 h):: .box bs 216 [.fn (.func 145) [] [pZ bm,pZ by_]]:: .box bm 4 [bv (x.2.1).isSome]:: .box by_ 215 [y]::x.2.2,[]⟩) (fun x=>h.wants.length - x.1) (0,st,L) ⟨by omega,hI,by rw [List.append_nil];exact hF⟩
     (w8 (.cons _ _ _ rfl (.cons _ _ _ rfl (.cons _ _ _ rfl (.cons _ _ _ rfl (.cons _ _ _ rfl (.nil))))))) ?_
    rintro ⟨k,st,L⟩ ⟨hk,hI,hF⟩
    simp only at hk hI hF
    refine rn ?_;refine z7 rfl (fun hc186=> ?_) (fun hc186=> ?_)
    ·have k2:k < h.wants.length:=by simpa using hc186
     obtain ⟨r,hr⟩:∃r,r=h.wants[k]:=⟨_,rfl⟩
     have hrowr:(h.wants.map zff)[k]? =some (zff r):=by rw [hr];simp [k2]
     have hdr:=List.drop_eq_getElem_cons k2
     rw [hdr,←hr] at hF
     simp only [List.flatMap_cons,zyd,List.cons_append,List.append_assoc,List.nil_append] at hF
     obtain ⟨hx,hF⟩:=hF.cons
     have hle:=la.wants
     refine rn ?_;refine j6 8 rfl ?_
     refine rn ?_;refine z8 rfl (w9 rfl rfl (y3.fr3 (y3.of_acall (fs:= []) (cs:= [pZ bm,pZ by_]) (zws step ok IJ y hy 1 r.s hx _ bm by_ _ _ hI))) rfl ?_)
     rintro _ _ ⟨_,rfl,L,hI,rfl⟩
     refine rn ?_;exact ⟨(k+1,_,L),⟨by omega,hI,hF⟩,(w8 (.cons _ _ _ rfl (.cons _ _ _ rfl (.cons _ _ _ rfl (.cons _ _ _ rfl (.cons _ _ _ rfl (.nil))))))),by simp only;omega⟩
    ·obtain rfl:k=h.wants.length:=by
      have:h.wants.length≤k:=by simpa using hc186
      omega
     rw [List.drop_length,List.flatMap_nil,List.nil_append] at hF
     refine rn ?_;have hF':st=goes step (some s0) (zcm h):=hF.fin
     exact ze9 .nil (.trans (.perm ((pt2 _ _ _ _).trans (.cons _ ((pt2 _ _ _ _).trans (.cons _ (pt2 _ _ _ _))))) _) (.drop [_,_,_] _ _)) ⟨L,hF' ▸ hI,rfl⟩
theorem ygr (bh:Nat) (h:List Res):x4 Tryz.prog 104 [pZ bh] h (fun r h'=>∃b1,h'= .box b1 168 [pZ bh]::h∧r= .fn (.func 144) [] [pZ b1]):=by
 refine z6 Tryz.func104 rfl rfl rfl ?_
 refine rn ?_;refine z8 rfl (x9 rfl rfl rfl fun b1=> ?_)
 refine rn ?_;exact u9 rfl (.refl _ _) ⟨_,rfl,rfl⟩
def IJC (lp:LP) (q b2 b3:Nat):Option (List Int)→List Res→Prop
 |some m,L=>L=lp .ready none:: .defs q:: .box b3 148 ((m).map iv):: .box b2 32 [iv 0]:: [.glob 3 148 x6,.glob 5 276 x7,.glob 6 279 y7]∧m.length=4
 |none,L=>∃m:List Int,L=lp .done (some .ret):: .defs q:: .box b3 148 ((m).map iv):: .box b2 32 [iv 210]:: [.glob 3 148 x6,.glob 5 276 x7,.glob 6 279 y7]
theorem yph (h:Hist) (la:Lim 4611686018427387904 h):x4 Tryz.prog 51 [.agg (x5 h)] [.glob 3 148 x6,.glob 5 276 x7,.glob 6 279 y7] (fun r h'=>h'= [.glob 3 148 x6,.glob 5 276 x7,.glob 6 279 y7]∧r=iv (zdz h)):=by
 refine z6 Tryz.func51 rfl rfl rfl ?_
 refine rn ?_;refine z8 rfl (x9 rfl rfl rfl fun b1=> ?_)
 refine z8 rfl (y6 rfl fun b2=> ?_)
 refine rn ?_;refine qv rfl rfl (y4 rfl rfl (y3.qt (y3.of_fun (yms h la)) ((pt2 _ _ _ _).trans (.cons _ ((pt2 _ _ _ _).trans (.cons _ (pt2 _ _ _ _))))))) ?_
 refine rn ?_;refine z7 rfl (fun hc10=> ?_) (fun hc10=> ?_)
 ·have hs:j8 h=false:=zq8 hc10
  refine rn ?_;exact zfw (.cons _ _ _ _ (.one _ _ _ _ _ _ _ rfl inferInstance inferInstance rfl) .nil) (.drop [_,_] _ _) ⟨rfl,congrArg iv (yf0 hs).symm⟩
 ·have hs:j8 h=true:=zq9 hc10
  refine rn ?_;refine z8 rfl (y6 rfl fun b3=> ?_)
  refine rn ?_;refine z8 rfl (w9 rfl rfl (y3.of_fun (ygr b1 _)) rfl ?_)
  rintro _ _ ⟨b1',rfl,rfl⟩
  refine rn ?_;refine znk (fun pend h''=>(pend=none∧∃m:List Int,zni h=some m∧m.length=4∧h''= .box b1' 168 [pZ b1]:: .box b1 28 (x5 h):: .box b3 148 ((m).map iv):: .box b2 32 [iv 0]:: [.glob 3 148 x6,.glob 5 276 x7,.glob 6 279 y7])∨(pend=some .ret∧zni h=none∧∃m:List Int,h''= .box b1' 168 [pZ b1]:: .box b1 28 (x5 h):: .box b3 148 ((m).map iv):: .box b2 32 [iv 210]:: [.glob 3 148 x6,.glob 5 276 x7,.glob 6 279 y7])) rfl (fun fn l q lp hlp=> ?_) (fun q h'' hK=> ?_) (fun q h'' c hK=> ?_)
  ·suffices hy:∀(s:List Int) (L:List Res) (sort:Nat) (n:Int) (cells:List AV),OkN h (sort,n)→IJC lp q b2 b3 (some s) L→y3 Tryz.prog (yv l) [iv sort,.pp (iv n::cells)] L (fun r h'=>r=bv (zau s (sort,n)).isSome∧IJC lp q b2 b3 (zau s (sort,n)) h') by
    refine x4.mono (x4.perm ((pt2 _ _ _ _).trans (.cons _ (pt4 _ _ _ _ _ _))) (yit zau (OkN h) (IJC lp q b2 b3) (yv l) rfl hy h la b1' b1 (zqq hs) [0,0,0,0] _ ⟨rfl,rfl⟩)) ?_
    rintro _ _ ⟨L',hI,rfl⟩
    cases hm:goes zau (some [0,0,0,0]) (zcm h) with
    |some m=>
     rw [hm] at hI
     obtain ⟨rfl,hl⟩:=hI
     exact ⟨_,_,_,((pt2 _ _ _ _).trans (.cons _ (pt2 _ _ _ _))),by simp,.inl ⟨rfl,m,hm,hl,rfl⟩⟩
    |none=>
     rw [hm] at hI
     obtain ⟨m,rfl⟩:=hI
     exact ⟨_,_,_,((pt2 _ _ _ _).trans (.cons _ (pt2 _ _ _ _))),by simp,.inr ⟨rfl,hm,m,rfl⟩⟩
   rintro m _ sort n cells ⟨hs4,hn0,hn1⟩ ⟨rfl,hl⟩
   simp only at hs4 hn0 hn1
   have hnm:=la.nm sort
   refine zv5 hlp rfl rfl ?_
   refine rn ?_;refine ⟨[(4,iv sort),(5,.pp (iv n::cells)),(3,pZ b3),(2,pZ b2)],(w8 (.cons _ _ _ rfl (.cons _ _ _ rfl (.cons _ _ _ rfl (.cons _ _ _ rfl (.nil)))))),?_⟩
   refine rn ?_;refine j6 6 rfl ?_
   refine dq rfl rfl qrA ?_;refine dq rfl rfl qrA ?_;refine dq rfl rfl qrA ?_;refine dq rfl rfl qrA ?_;refine dq rfl rfl (k6 rfl rfl hs4) ?_
   refine dq rfl rfl (zaa rfl (yrt hl hs4)) ?_
   refine rn ?_;refine z7 rfl (fun hc20=> ?_) (fun hc20=> ?_)
   ·refine rn ?_;have hst:zau m (sort,n)=none:=by rw [zau];exact if_pos (by simpa using hc20)
    exact zl4 (.refl _) (by rw [hst];exact ⟨rfl,_,rfl⟩)
   ·refine rn ?_;refine j6 9 rfl ?_
    refine dq rfl rfl qrA ?_;refine dq rfl rfl qrA ?_;refine dq rfl rfl (k6 rfl rfl hs4) ?_
    refine dq rfl rfl (zaa rfl (yrt hl hs4)) ?_
    refine rn2 ?_;refine qq rfl rfl (k6 rfl rfl hs4) ?_
    refine z8 rfl (zba rfl rfl rfl rfl (by simp [hl];omega) ?_)
    refine rn ?_;have hst:zau m (sort,n)=some (m.set sort (max (m.getD sort 0) (n+1))):=by rw [zau];exact if_neg (by simpa using hc20)
    exact zg2 (.refl _) (by rw [hst];exact ⟨rfl,by rw [←ysz hl hs4];rfl,by simpa using hl⟩)
  ·obtain ⟨_,m,hm,hl,rfl⟩|⟨hc,_⟩:=hK
   rotate_left
   ·cases hc
   refine rn ?_;refine qv rfl rfl (y4 rfl rfl (v7 (yj7 _) (Sbs.refl _))) ?_
   refine rn ?_;refine j3 (fun k:Nat=>k≤4∧∀j,j < k→m.getD j 0=(nmK h j).length) (fun k=>⟨[(33,iv k),(32,.agg (zkf h)),(3,pZ b3),(2,pZ b2)],.defs q:: .box b1' 168 [pZ b1]:: .box b1 28 (x5 h):: .box b3 148 ((m).map iv):: .box b2 32 [iv 0]:: [.glob 3 148 x6,.glob 5 276 x7,.glob 6 279 y7],[q]⟩) (fun k=>4 - k) 0 ⟨by omega,fun j hj=>absurd hj (Nat.not_lt_zero j)⟩
    (w8 (.cons _ _ _ rfl (.cons _ _ _ rfl (.cons _ _ _ rfl (.cons _ _ _ rfl (.nil)))))) ?_
   rintro k ⟨hk,hz⟩
   refine rn ?_;refine z7 rfl (fun hc34=> ?_) (fun hc34=> ?_)
   ·have hk4:k < 4:=by simp at hc34;omega
    refine zab ?_;refine k8 ?_;refine x8 ?_;refine zal ?_;refine x8 (y5 ?_)
    refine q1 ?_;refine qq rfl rfl (zda rfl rfl (by omega) (by have:=yac h hk4;simpa using this)) ?_
    refine q1 ?_;refine q1 ?_;refine u5 (k8 ?_)
    refine x8 (y5 ?_)
    refine q1 ?_;refine qq rfl rfl (k6 rfl rfl hk4) ?_
    refine qq rfl rfl (zaa rfl (yrt hl hk4)) ?_
    refine rn ?_;refine z7 rfl (fun hc42=> ?_) (fun hc42=> ?_)
    ·refine rn ?_;exact zhy (.refl _) (.cons _ _ _ _ (.one _ _ _ _ _ _ _ rfl inferInstance inferInstance rfl) .nil) (.drop [_,_,_,_] _ _) ⟨rfl,congrArg iv (yf1 hm hk4 (by simpa using hc42)).symm⟩
    ·refine rn ?_;exact ⟨k+1,⟨by omega,fun j hj=>by
      by_cases hjk:j=k
      ·subst hjk;simpa using hc42
      ·exact hz j (by omega)⟩,(w8 (.cons _ _ _ rfl (.cons _ _ _ rfl (.cons _ _ _ rfl (.cons _ _ _ rfl (.nil)))))),by omega⟩
   ·have hk4:k=4:=by simp at hc34;omega
    subst hk4
    refine rn ?_;exact zhy (.refl _) (.cons _ _ _ _ (.one _ _ _ _ _ _ _ rfl inferInstance inferInstance rfl) .nil) (.drop [_,_,_,_] _ _) ⟨rfl,congrArg iv (yf2 hs hm hl hz).symm⟩
  ·obtain ⟨hc,_⟩|⟨hc,hm,m,rfl⟩:=hK
   ·cases hc
   obtain rfl:c= .ret:=by simpa using hc
   refine rn ?_;exact zhy (.refl _) (.cons _ _ _ _ (.one _ _ _ _ _ _ _ rfl inferInstance inferInstance rfl) .nil) (.drop [_,_,_,_] _ _) ⟨rfl,congrArg iv (zxu hm).symm⟩
attribute [local irreducible] zeq jch zf2
def u6:List AV:= [.any,.fn (.func 245) [] [],.fn (.func 249) [] [],.fn (.func 250) [] [],.fn (.func 251) [] [],.fn (.func 252) [] [],.fn (.func 253) [] [],.fn (.func 254) [] [],.fn (.func 255) [] [],.fn (.func 256) [] [],.fn (.func 257) [] []]
def yqp (k:Nat):AV:=u6.getD k .any
theorem ylz {k:Nat} (h2:k≤10):u6[k]? =some (yqp k):=by
 have:k < u6.length:=by show k < 11;omega
 rw [yqp,List.getD_eq_getElem?_getD,List.getElem?_eq_getElem this];rfl
theorem ygd (h:Hist) (la:Lim 3000 h) (b:Nat) (G:List Res) {k:Nat} (h1:1≤k) (h2:k≤10):y3 Tryz.prog (yqp k) [pZ b] (.box b 203 (zbz h)::G) (fun r h'=>h'=G∧r=za6 (zci h k)):=by
 match k,h1,h2 with
 |1,_,_=>exact y3.of_acall (fs:= []) (cs:= []) (yno h la b G)
 |2,_,_=>exact y3.of_acall (fs:= []) (cs:= []) (yta h la b G)
 |3,_,_=>exact y3.of_acall (fs:= []) (cs:= []) (ynm h la b G)
 |4,_,_=>exact y3.of_acall (fs:= []) (cs:= []) (yea h la b G)
 |5,_,_=>exact y3.of_acall (fs:= []) (cs:= []) (ys6 h la b G)
 |6,_,_=>exact y3.of_acall (fs:= []) (cs:= []) (yq5 h la b G)
 |7,_,_=>exact y3.of_acall (fs:= []) (cs:= []) (ynh h la b G)
 |8,_,_=>exact y3.of_acall (fs:= []) (cs:= []) (yed h la b G)
 |9,_,_=>exact y3.of_acall (fs:= []) (cs:= []) (ynk h la b G)
 |10,_,_=>exact y3.of_acall (fs:= []) (cs:= []) (yq3 h la b G)
 |k+11,_,h2=>omega
theorem yj1 {o:Option Nat} {i:Int} {b:Bool} (h:za6 o= .tup [iv i,bv b]):i=ytc o∧b=o.isSome:=by
 cases o with
 |none=>simp only [za6,AV.tup.injEq,List.cons.injEq,AV.v.injEq,Value.int.injEq,Value.bool.injEq,true_and,and_true] at h;exact ⟨h.1.symm,h.2.symm⟩
 |some n=>simp only [za6,AV.tup.injEq,List.cons.injEq,AV.v.injEq,Value.int.injEq,Value.bool.injEq,true_and,and_true] at h;exact ⟨h.1.symm,h.2.symm⟩
theorem zo7 {h:Hist} (hm:zfb h=true):Lim 3000 h:=by
 unfold zfb at hm;simp only [Bool.and_eq_true] at hm;exact znr hm.1
theorem ynl (h:Hist) (la:Lim 4611686018427387904 h):x4 Tryz.prog 91 [.agg (x5 h)] [.glob 3 148 x6,.glob 5 276 x7,.glob 6 279 y7,.glob 2 197 u6] (fun r h'=>h'= [.glob 3 148 x6,.glob 5 276 x7,.glob 6 279 y7,.glob 2 197 u6]∧r=zhr h):=by
 refine z6 Tryz.func91 rfl rfl rfl ?_
 refine rn ?_;refine z8 rfl (x9 rfl rfl rfl fun b1=> ?_)
 refine z8 rfl (y6 rfl fun b2=> ?_)
 refine rn ?_;refine qv rfl rfl (y4 rfl rfl (y3.qt (y3.of_fun (yph h la)) ((pt2 _ _ _ _).trans (.cons _ ((pt2 _ _ _ _).trans (.cons _ (pt2 _ _ _ _))))))) ?_
 refine rn ?_;refine z7 rfl (fun hc12=> ?_) (fun hc12=> ?_)
 ·have hm:¬zfb h=true:=by intro q;rw [zdz,if_pos q] at hc12;cases hc12
  have he:zdz h=210:=by rw [zdz,if_neg hm]
  refine rn ?_;exact zfw (.cons _ _ _ _ (.agg _ _ _ _ _ _ _ rfl inferInstance inferInstance inferInstance rfl) (.cons _ _ _ _ (.tmp _ _ rfl) (.cons _ _ _ _ (.tmp _ _ rfl) .nil))) (.drop [_,_] _ _) ⟨rfl,by rw [zhr,if_neg hm,he];rfl⟩
 ·have hm:zfb h=true:=yb1.1 (by simpa using hc12)
  have la3:=zo7 hm
  refine rn ?_;refine zct (fun k:Nat=>(1≤k∧k≤11)∧zas (zci h) rules10=zas (zci h) (rules10.drop (k - 1))) (fun k=>⟨[(6,iv k),(1,pZ b1),(2,pZ b2)],(.box b2 152 [iv 0,iv 0]:: .box b1 28 (x5 h):: .glob 3 148 x6:: .glob 5 276 x7:: .glob 6 279 y7:: .glob 2 197 u6:: []),[]⟩) (fun k=>11 - k) 1 ⟨by omega,rfl⟩ es ?_
  rintro k ⟨⟨k1,k3⟩,zk⟩
  obtain ⟨pi,pb,hpv⟩:∃i b,za6 (zci h k)= .tup [iv i,bv b]:=zdp _
  obtain ⟨ei,eb⟩:=yj1 hpv
  refine rn ?_;refine z7 rfl (fun hc16=> ?_) (fun hc16=> ?_)
  ·have k2:k≤10:=by have:=of_decide_eq_true hc16;omega
   refine zab ?_;refine rn0 ?_;refine x8 ?_;refine zal ?_;refine x8 ?_;refine zlq 11 [5,6] [7,8,9,10] (fun he=>he=(.box b2 152 [iv 0,iv 0]:: .box b1 28 (x5 h):: .glob 3 148 x6:: .glob 5 276 x7:: .glob 6 279 y7:: .glob 2 197 u6:: [])∨∃b,he= .box b 203 (zbz h)::(.box b2 152 [iv 0,iv 0]:: .box b1 28 (x5 h):: .glob 3 148 x6:: .glob 5 276 x7:: .glob 6 279 y7:: .glob 2 197 u6:: [])) rfl rfl (.inl rfl) ?_
   refine jq rfl (fun he hC=>by rcases hC with rfl|⟨b,rfl⟩ <;> exact qrA) ?_
   refine jq rfl (fun he hC=>by rcases hC with rfl|⟨b,rfl⟩ <;> exact (by exact k6 rfl rfl (by show k < 11;omega))) ?_
   refine jq rfl (fun he hC=>by rcases hC with rfl|⟨b,rfl⟩ <;> exact (by exact zaa rfl (show u6[0+k * 1]? =some (yqp k) by rw [Nat.zero_add,Nat.mul_one];exact ylz k2))) ?_
   refine jq rfl (fun he hC=>by rcases hC with rfl|⟨b,rfl⟩ <;> exact qrA) ?_
   refine jq rfl (fun he hC=>by rcases hC with rfl|⟨b,rfl⟩ <;> exact (by exact zai (out:=zbz h) rfl (by rfl))) ?_
   refine je rfl ?_;refine je rfl ?_;refine je rfl ?_;refine je rfl ?_;refine je rfl ?_;refine je rfl ?_;refine yfg ?_;refine jce rfl fun u=> ?_
   refine x9 rfl rfl rfl fun b5=>⟨_,_,rfl,.inr ⟨_,rfl⟩,?_⟩
   refine jce rfl fun u=> ?_
   refine w9 rfl rfl (ygd h la3 b5 _ k1 k2) rfl ?_
   rintro _ _ ⟨rfl,rfl⟩
   rw [hpv]
   refine ⟨_,_,rfl,.inl rfl,?_⟩
   refine jcn ?_;refine lq rfl rfl (by exact qrA) ?_
   refine lq rfl rfl (by exact qrA) ?_
   refine lq rfl rfl (by exact qrA) ?_
   refine lq rfl rfl (by exact qrA) ?_
   refine ln ?_;refine rn ?_;refine z7 rfl (fun hc29=> ?_) (fun hc29=> ?_)
   ·refine rn ?_;exact zfw (.cons _ _ _ _ (.agg _ _ _ _ _ _ _ rfl inferInstance inferInstance inferInstance rfl) (.cons _ _ _ _ (.tmp _ _ rfl) (.cons _ _ _ _ (.tmp _ _ rfl) .nil))) (.drop [_,_] _ _) ⟨rfl,by
     cases hp:zci h k with
     |none=>rw [hp] at eb;rw [eb] at hc29;cases hc29
     |some n=>rw [hp] at ei;subst ei;rw [zhr,if_pos hm,zjc,zru k1 k2 zk hp];rfl⟩
   ·refine rn ?_;exact ⟨k+1,⟨by omega,zn6 k1 k2 zk (by cases hp:zci h k with|none=>rfl|some n=>rw [hp] at eb;rw [eb] at hc29;cases hc29)⟩,eA,by omega⟩
  ·have k2:11≤k:=by have:=of_decide_eq_false hc16;omega
   refine rn ?_;exact zfw (.cons _ _ _ _ (.agg _ _ _ _ _ _ _ rfl inferInstance inferInstance inferInstance rfl) (.cons _ _ _ _ (.tmp _ _ rfl) (.cons _ _ _ _ (.tmp _ _ rfl) .nil))) (.drop [_,_] _ _) ⟨rfl,by rw [zhr,if_pos hm,zjc,zn7 k2 k3 zk];rfl⟩
theorem ync (h:Hist) (la:Lim 4611686018427387904 h):x4 Tryz.prog 45 [.agg (x5 h)] [.glob 3 148 x6,.glob 5 276 x7,.glob 6 279 y7,.glob 2 197 u6] (fun r h'=>h'= [.glob 3 148 x6,.glob 5 276 x7,.glob 6 279 y7,.glob 2 197 u6]∧r=bv (zbg h)):=by
 refine z6 Tryz.func45 rfl rfl rfl ?_
 refine rn ?_;refine z8 rfl (x9 rfl rfl rfl fun b1=> ?_)
 refine q1 ?_;refine u5 (k8 ?_)
 refine x8 (y5 ?_)
 obtain ⟨fi,fj,fb,fe,hf,hfb⟩:=zrv h
 refine rn ?_;refine qv rfl rfl (y4 rfl rfl (y3.qt (y3.of_fun (ynl h la)) ((pt1 _ _ _).trans (.cons _ ((pt1 _ _ _).trans (.cons _ ((pt1 _ _ _).trans (.cons _ (pt1 _ _ _))))))))) ?_
 rw [hf]
 refine rn ?_;refine z8 rfl (y6 rfl fun b3=> ?_)
 refine rn ?_;refine y9 (fun hg2_2=> ?_) (fun hg2_2=> ?_)
 ·refine rn ?_;refine rq 2 ?_
  exact ⟨rfl,congrArg bv (by rw [hfb];simp_all)⟩
 ·refine rn ?_;refine rq 2 ?_
  exact ⟨rfl,congrArg bv (by rw [hfb];simp_all)⟩
end Go.Proofs
set_option maxRecDepth 100000
namespace Go.Proofs.YtcaijocpofcbdaaGreatDoor
open Go Go.Ab Go.H
def yly:DataW Unit:=match (Rows.laid_yardarm_rules_asks:DataW Unit) with| .iface _ d=>d|d=>d
def yad:List (List UInt8):=match yly with| .agg ds=>ds.map (fun d=>match d with| .iface _ (.lit (.string b))=>b|_=> [])|_=> []
def nm (k:Nat):List UInt8:=yad.getD (k+1) []
theorem ycg:yly.funcsOut= .agg (.nil::(yad.drop 1).map .held):=by kernel_rfl
theorem zvx {w:World} {c:Array Value} {T0:TypeId} {fr:Nat×Nat} {g:Nat} {T:TypeId} {vs:List AV} (hh:w.heap[g]? =some (.cells c T0 fr)) (hl:vs.length=c.size) (h:∀j (h1:j < vs.length) (h2:j < c.size),Rel w noX vs[j] c[j]):(Res.glob g T vs).holds w noX:=
 ⟨fun h=>h,(Array.getElem?_eq_some_iff.1 hh).1,c,T0,fr,hh,hl,fun j h1 h2=>h j h1 h2⟩
theorem zjb (w:World) (f:Nat):Rel w noX (.fn (.func f) [] []) (.func (.func f) #[] #[]):= .fn _ _ _ _ _ rfl rfl (fun j h=>absurd h (Nat.not_lt_zero _)) (fun j h=>absurd h (Nat.not_lt_zero _))
def fnA:List Nat:= [245,249,250,251,252,253,254,255,256,257]
theorem ygc (k:Nat) (hk:k < 10):∃b r,yad[k+1]? =some (b::r)∧((List.range Tryz.prog.funcs.size).filter fun f=>(Tryz.prog.funcs[f]?).any (·.name.toUTF8.data.toList==b::r))= [fnA.getD k 0]∧u6[k+1]? =some (.fn (.func (fnA.getD k 0)) [] []):=by
 match k,hk with
 |0,_=>exact ⟨(nm 0).headD 0,(nm 0).tail,by kernel_rfl,by kernel_rfl,by kernel_rfl⟩
 |1,_=>exact ⟨(nm 1).headD 0,(nm 1).tail,by kernel_rfl,by kernel_rfl,by kernel_rfl⟩
 |2,_=>exact ⟨(nm 2).headD 0,(nm 2).tail,by kernel_rfl,by kernel_rfl,by kernel_rfl⟩
 |3,_=>exact ⟨(nm 3).headD 0,(nm 3).tail,by kernel_rfl,by kernel_rfl,by kernel_rfl⟩
 |4,_=>exact ⟨(nm 4).headD 0,(nm 4).tail,by kernel_rfl,by kernel_rfl,by kernel_rfl⟩
 |5,_=>exact ⟨(nm 5).headD 0,(nm 5).tail,by kernel_rfl,by kernel_rfl,by kernel_rfl⟩
 |6,_=>exact ⟨(nm 6).headD 0,(nm 6).tail,by kernel_rfl,by kernel_rfl,by kernel_rfl⟩
 |7,_=>exact ⟨(nm 7).headD 0,(nm 7).tail,by kernel_rfl,by kernel_rfl,by kernel_rfl⟩
 |8,_=>exact ⟨(nm 8).headD 0,(nm 8).tail,by kernel_rfl,by kernel_rfl,by kernel_rfl⟩
 |9,_=>exact ⟨(nm 9).headD 0,(nm 9).tail,by kernel_rfl,by kernel_rfl,by kernel_rfl⟩
end Go.Proofs.YtcaijocpofcbdaaGreatDoor
