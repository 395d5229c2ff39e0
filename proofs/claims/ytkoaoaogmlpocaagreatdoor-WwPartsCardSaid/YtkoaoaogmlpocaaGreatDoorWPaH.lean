/- The decoding of runes. Conditions: none. -/
import Derived.Test.YtkoaoaogmlpocaaGreatDoorWPaG
set_option linter.unusedSectionVars false
set_option linter.unusedSimpArgs false
set_option linter.unusedVariables false
set_option linter.unusedVariables false
set_option linter.unusedSimpArgs false
set_option maxRecDepth 10000
namespace Go.Proofs
open Go Go.Ab
attribute [local irreducible] QR QV OE aops aw dsoup dsoupM dalloc dallocM thn inBlk
open Go.H
theorem decodeSlow240 (s : ByteArray) (hx : firstV (bt s 0).toNat = 240) : ACall Tryz.prog 243 [.v (.string s)] [.glob 2 287 firstC, .glob 3 290 acceptC] (fun r h' => h' = [.glob 2 287 firstC, .glob 3 290 acceptC] ∧ r = .tup [.v (.int .i32 (decSlow s).1), iv (decSlow s).2]) := by
  refine acall_of_aw Tryz.func243 rfl rfl rfl ?_
  refine rn ?_
  refine aw_cond rfl (fun hc16 => ?_) (fun hc16 => ?_)
  · refine rn ?_
    have hd : decSlow s = (65533, 0) := by
      unfold decSlow
      rw [if_pos (by simp at hc16; omega)]
    exact retq (.cons _ _ _ _ (.tmp _ _ rfl) (.cons _ _ _ _ (.tmp _ _ rfl) .nil)) (.refl _ _) ⟨rfl, by rw [hd]; rfl⟩
  · have h1 : 0 < s.size := by simp at hc16; omega
    refine rn ?_
    refine qq rfl rfl (qr_index_bt 0 rfl rfl (by omega)) ?_
    refine rn ?_
    refine qq rfl rfl (qr_indexAddr_int rfl rfl (bt_ge _ _) (bt_lt _ _)) ?_
    refine qq rfl rfl (qr_load_one rfl (show _ = some (.v (.int .u8 240)) from by rw [firstC_get (bt_ge s 0) (bt_lt s 0), hx])) ?_
    refine rn ?_
    refine aw_cond rfl (fun hc23 => ?_) (fun hc23 => ?_)
    · refine rn ?_
      refine qq rfl rfl (qr_index_bt 0 rfl rfl (by omega)) ?_
      refine rn ?_
      have hd : decSlow s = (bI .or .i32 (bI .andNot .i32 (IntKind.i32.wrap (bt s 0)) (decMask 240)) (bI .and .i32 65533 (decMask 240)), 1) := by
        unfold decSlow
        rw [if_neg (by omega)]
        simp only [hx]
        rw [if_pos (by decide)]
      exact retq (.cons _ _ _ _ (.tmp _ _ rfl) (.cons _ _ _ _ (.tmp _ _ rfl) .nil)) (.refl _ _) ⟨rfl, by rw [hd]; rfl⟩
    · first | cases hc23 | exact absurd hc23 (by decide) | (exfalso; simp_all; done)
theorem decodeSlow241 (s : ByteArray) (hx : firstV (bt s 0).toNat = 241) : ACall Tryz.prog 243 [.v (.string s)] [.glob 2 287 firstC, .glob 3 290 acceptC] (fun r h' => h' = [.glob 2 287 firstC, .glob 3 290 acceptC] ∧ r = .tup [.v (.int .i32 (decSlow s).1), iv (decSlow s).2]) := by
  refine acall_of_aw Tryz.func243 rfl rfl rfl ?_
  refine rn ?_
  refine aw_cond rfl (fun hc16 => ?_) (fun hc16 => ?_)
  · refine rn ?_
    have hd : decSlow s = (65533, 0) := by
      unfold decSlow
      rw [if_pos (by simp at hc16; omega)]
    exact retq (.cons _ _ _ _ (.tmp _ _ rfl) (.cons _ _ _ _ (.tmp _ _ rfl) .nil)) (.refl _ _) ⟨rfl, by rw [hd]; rfl⟩
  · have h1 : 0 < s.size := by simp at hc16; omega
    refine rn ?_
    refine qq rfl rfl (qr_index_bt 0 rfl rfl (by omega)) ?_
    refine rn ?_
    refine qq rfl rfl (qr_indexAddr_int rfl rfl (bt_ge _ _) (bt_lt _ _)) ?_
    refine qq rfl rfl (qr_load_one rfl (show _ = some (.v (.int .u8 241)) from by rw [firstC_get (bt_ge s 0) (bt_lt s 0), hx])) ?_
    refine rn ?_
    refine aw_cond rfl (fun hc23 => ?_) (fun hc23 => ?_)
    · refine rn ?_
      refine qq rfl rfl (qr_index_bt 0 rfl rfl (by omega)) ?_
      refine rn ?_
      have hd : decSlow s = (bI .or .i32 (bI .andNot .i32 (IntKind.i32.wrap (bt s 0)) (decMask 241)) (bI .and .i32 65533 (decMask 241)), 1) := by
        unfold decSlow
        rw [if_neg (by omega)]
        simp only [hx]
        rw [if_pos (by decide)]
      exact retq (.cons _ _ _ _ (.tmp _ _ rfl) (.cons _ _ _ _ (.tmp _ _ rfl) .nil)) (.refl _ _) ⟨rfl, by rw [hd]; rfl⟩
    · first | cases hc23 | exact absurd hc23 (by decide) | (exfalso; simp_all; done)
theorem decodeSlow2 (s : ByteArray) (hx : firstV (bt s 0).toNat = 2) : ACall Tryz.prog 243 [.v (.string s)] [.glob 2 287 firstC, .glob 3 290 acceptC] (fun r h' => h' = [.glob 2 287 firstC, .glob 3 290 acceptC] ∧ r = .tup [.v (.int .i32 (decSlow s).1), iv (decSlow s).2]) := by
  refine acall_of_aw Tryz.func243 rfl rfl rfl ?_
  refine rn ?_
  refine aw_cond rfl (fun hc16 => ?_) (fun hc16 => ?_)
  · refine rn ?_
    have hd : decSlow s = (65533, 0) := by
      unfold decSlow
      rw [if_pos (by simp at hc16; omega)]
    exact retq (.cons _ _ _ _ (.tmp _ _ rfl) (.cons _ _ _ _ (.tmp _ _ rfl) .nil)) (.refl _ _) ⟨rfl, by rw [hd]; rfl⟩
  · have h1 : 0 < s.size := by simp at hc16; omega
    refine rn ?_
    refine qq rfl rfl (qr_index_bt 0 rfl rfl (by omega)) ?_
    refine rn ?_
    refine qq rfl rfl (qr_indexAddr_int rfl rfl (bt_ge _ _) (bt_lt _ _)) ?_
    refine qq rfl rfl (qr_load_one rfl (show _ = some (.v (.int .u8 2)) from by rw [firstC_get (bt_ge s 0) (bt_lt s 0), hx])) ?_
    refine rn ?_
    refine aw_cond rfl (fun hc23 => ?_) (fun hc23 => ?_)
    · first | cases hc23 | exact absurd hc23 (by decide) | (exfalso; simp_all; done)
    · refine rn ?_
      refine qq rfl rfl (qr_indexAddr_int rfl rfl (by decide) (by decide)) ?_
      refine rn ?_
      refine aops_e rfl (oe_alloc rfl fun b9 => ?_)
      refine rn ?_
      refine aw_cond rfl (fun hc45 => ?_) (fun hc45 => ?_)
      · refine rn ?_
        have hd : decSlow s = (65533, 1) := by
          unfold decSlow
          rw [if_neg (by omega)]
          simp only [hx]
          rw [if_neg (by decide), if_pos (show (s.size : Int) < (2 : Int) % 8 from of_decide_eq_true hc45)]
        exact retq (.cons _ _ _ _ (.tmp _ _ rfl) (.cons _ _ _ _ (.tmp _ _ rfl) .nil)) (.drop1 _ _ _) ⟨rfl, by rw [hd]; rfl⟩
      · have h2 : 2 ≤ s.size := by
          have : ¬ ((s.size : Int) < 2) := of_decide_eq_false hc45
          omega
        refine rn ?_
        refine qq rfl rfl (qr_index_bt 1 rfl rfl (by omega)) ?_
        refine rn ?_
        refine asplit (fun hg14_4 => ?_) (fun hg14_4 => ?_)
        · refine rn ?_
          refine aw_cond rfl (fun hc57 => ?_) (fun hc57 => ?_)
          · refine rn ?_
            have hd : decSlow s = (65533, 1) := by
              unfold decSlow
              rw [if_neg (by omega)]
              simp only [hx]
              rw [if_neg (by decide), if_neg (show ¬ (s.size : Int) < (2 : Int) % 8 from of_decide_eq_false hc45), if_pos (show bt s 1 < accLo ((2 : Int) / 16).toNat ∨ accHi ((2 : Int) / 16).toNat < bt s 1 from by first | exact .inl (of_decide_eq_true hg14_4) | exact .inr (of_decide_eq_true hc57))]
            exact retq (.cons _ _ _ _ (.tmp _ _ rfl) (.cons _ _ _ _ (.tmp _ _ rfl) .nil)) (.drop1 _ _ _) ⟨rfl, by rw [hd]; rfl⟩
          · first | cases hc57 | exact absurd hc57 (by decide) | (exfalso; simp_all; done)
        · refine rn ?_
          refine aw_cond rfl (fun hc57 => ?_) (fun hc57 => ?_)
          · refine rn ?_
            have hd : decSlow s = (65533, 1) := by
              unfold decSlow
              rw [if_neg (by omega)]
              simp only [hx]
              rw [if_neg (by decide), if_neg (show ¬ (s.size : Int) < (2 : Int) % 8 from of_decide_eq_false hc45), if_pos (show bt s 1 < accLo ((2 : Int) / 16).toNat ∨ accHi ((2 : Int) / 16).toNat < bt s 1 from by first | exact .inl (of_decide_eq_true hg14_4) | exact .inr (of_decide_eq_true hc57))]
            exact retq (.cons _ _ _ _ (.tmp _ _ rfl) (.cons _ _ _ _ (.tmp _ _ rfl) .nil)) (.drop1 _ _ _) ⟨rfl, by rw [hd]; rfl⟩
          · refine rn ?_
            refine aw_cond rfl (fun hc59 => ?_) (fun hc59 => ?_)
            · refine rn ?_
              have hd : decSlow s = (bI .or .i32 (rbits (bt s 0) 31 6) (rbits (bt s 1) 63 0), 2) := by
                unfold decSlow
                rw [if_neg (by omega)]
                simp only [hx]
                rw [if_neg (by decide), if_neg (show ¬ (s.size : Int) < (2 : Int) % 8 from of_decide_eq_false hc45), if_neg (show ¬ (bt s 1 < accLo ((2 : Int) / 16).toNat ∨ accHi ((2 : Int) / 16).toNat < bt s 1) from fun q => q.elim (of_decide_eq_false hg14_4) (of_decide_eq_false hc57)), if_pos (by decide)]
              exact retq (.cons _ _ _ _ (.tmp _ _ rfl) (.cons _ _ _ _ (.tmp _ _ rfl) .nil)) (.drop1 _ _ _) ⟨rfl, by rw [hd]; rfl⟩
            · first | cases hc59 | exact absurd hc59 (by decide) | (exfalso; simp_all; done)
theorem decodeSlow19 (s : ByteArray) (hx : firstV (bt s 0).toNat = 19) : ACall Tryz.prog 243 [.v (.string s)] [.glob 2 287 firstC, .glob 3 290 acceptC] (fun r h' => h' = [.glob 2 287 firstC, .glob 3 290 acceptC] ∧ r = .tup [.v (.int .i32 (decSlow s).1), iv (decSlow s).2]) := by
  refine acall_of_aw Tryz.func243 rfl rfl rfl ?_
  refine rn ?_
  refine aw_cond rfl (fun hc16 => ?_) (fun hc16 => ?_)
  · refine rn ?_
    have hd : decSlow s = (65533, 0) := by
      unfold decSlow
      rw [if_pos (by simp at hc16; omega)]
    exact retq (.cons _ _ _ _ (.tmp _ _ rfl) (.cons _ _ _ _ (.tmp _ _ rfl) .nil)) (.refl _ _) ⟨rfl, by rw [hd]; rfl⟩
  · have h1 : 0 < s.size := by simp at hc16; omega
    refine rn ?_
    refine qq rfl rfl (qr_index_bt 0 rfl rfl (by omega)) ?_
    refine rn ?_
    refine qq rfl rfl (qr_indexAddr_int rfl rfl (bt_ge _ _) (bt_lt _ _)) ?_
    refine qq rfl rfl (qr_load_one rfl (show _ = some (.v (.int .u8 19)) from by rw [firstC_get (bt_ge s 0) (bt_lt s 0), hx])) ?_
    refine rn ?_
    refine aw_cond rfl (fun hc23 => ?_) (fun hc23 => ?_)
    · first | cases hc23 | exact absurd hc23 (by decide) | (exfalso; simp_all; done)
    · refine rn ?_
      refine qq rfl rfl (qr_indexAddr_int rfl rfl (by decide) (by decide)) ?_
      refine rn ?_
      refine aops_e rfl (oe_alloc rfl fun b9 => ?_)
      refine rn ?_
      refine aw_cond rfl (fun hc45 => ?_) (fun hc45 => ?_)
      · refine rn ?_
        have hd : decSlow s = (65533, 1) := by
          unfold decSlow
          rw [if_neg (by omega)]
          simp only [hx]
          rw [if_neg (by decide), if_pos (show (s.size : Int) < (19 : Int) % 8 from of_decide_eq_true hc45)]
        exact retq (.cons _ _ _ _ (.tmp _ _ rfl) (.cons _ _ _ _ (.tmp _ _ rfl) .nil)) (.drop1 _ _ _) ⟨rfl, by rw [hd]; rfl⟩
      · have h2 : 3 ≤ s.size := by
          have : ¬ ((s.size : Int) < 3) := of_decide_eq_false hc45
          omega
        refine rn ?_
        refine qq rfl rfl (qr_index_bt 1 rfl rfl (by omega)) ?_
        refine rn ?_
        refine asplit (fun hg14_4 => ?_) (fun hg14_4 => ?_)
        · refine rn ?_
          refine aw_cond rfl (fun hc57 => ?_) (fun hc57 => ?_)
          · refine rn ?_
            have hd : decSlow s = (65533, 1) := by
              unfold decSlow
              rw [if_neg (by omega)]
              simp only [hx]
              rw [if_neg (by decide), if_neg (show ¬ (s.size : Int) < (19 : Int) % 8 from of_decide_eq_false hc45), if_pos (show bt s 1 < accLo ((19 : Int) / 16).toNat ∨ accHi ((19 : Int) / 16).toNat < bt s 1 from by first | exact .inl (of_decide_eq_true hg14_4) | exact .inr (of_decide_eq_true hc57))]
            exact retq (.cons _ _ _ _ (.tmp _ _ rfl) (.cons _ _ _ _ (.tmp _ _ rfl) .nil)) (.drop1 _ _ _) ⟨rfl, by rw [hd]; rfl⟩
          · first | cases hc57 | exact absurd hc57 (by decide) | (exfalso; simp_all; done)
        · refine rn ?_
          refine aw_cond rfl (fun hc57 => ?_) (fun hc57 => ?_)
          · refine rn ?_
            have hd : decSlow s = (65533, 1) := by
              unfold decSlow
              rw [if_neg (by omega)]
              simp only [hx]
              rw [if_neg (by decide), if_neg (show ¬ (s.size : Int) < (19 : Int) % 8 from of_decide_eq_false hc45), if_pos (show bt s 1 < accLo ((19 : Int) / 16).toNat ∨ accHi ((19 : Int) / 16).toNat < bt s 1 from by first | exact .inl (of_decide_eq_true hg14_4) | exact .inr (of_decide_eq_true hc57))]
            exact retq (.cons _ _ _ _ (.tmp _ _ rfl) (.cons _ _ _ _ (.tmp _ _ rfl) .nil)) (.drop1 _ _ _) ⟨rfl, by rw [hd]; rfl⟩
          · refine rn ?_
            refine aw_cond rfl (fun hc59 => ?_) (fun hc59 => ?_)
            · first | cases hc59 | exact absurd hc59 (by decide) | (exfalso; simp_all; done)
            · refine rn ?_
              refine qq rfl rfl (qr_index_bt 2 rfl rfl (by omega)) ?_
              refine rn ?_
              refine asplit (fun hg19_2 => ?_) (fun hg19_2 => ?_)
              · refine rn ?_
                refine aw_cond rfl (fun hc75 => ?_) (fun hc75 => ?_)
                · refine rn ?_
                  have hd : decSlow s = (65533, 1) := by
                    unfold decSlow
                    rw [if_neg (by omega)]
                    simp only [hx]
                    rw [if_neg (by decide), if_neg (show ¬ (s.size : Int) < (19 : Int) % 8 from of_decide_eq_false hc45), if_neg (show ¬ (bt s 1 < accLo ((19 : Int) / 16).toNat ∨ accHi ((19 : Int) / 16).toNat < bt s 1) from fun q => q.elim (of_decide_eq_false hg14_4) (of_decide_eq_false hc57)), if_neg (by decide), if_pos (show bt s 2 < 128 ∨ 191 < bt s 2 from by first | exact .inl (of_decide_eq_true hg19_2) | exact .inr (of_decide_eq_true hc75))]
                  exact retq (.cons _ _ _ _ (.tmp _ _ rfl) (.cons _ _ _ _ (.tmp _ _ rfl) .nil)) (.drop1 _ _ _) ⟨rfl, by rw [hd]; rfl⟩
                · first | cases hc75 | exact absurd hc75 (by decide) | (exfalso; simp_all; done)
              · refine rn ?_
                refine aw_cond rfl (fun hc75 => ?_) (fun hc75 => ?_)
                · refine rn ?_
                  have hd : decSlow s = (65533, 1) := by
                    unfold decSlow
                    rw [if_neg (by omega)]
                    simp only [hx]
                    rw [if_neg (by decide), if_neg (show ¬ (s.size : Int) < (19 : Int) % 8 from of_decide_eq_false hc45), if_neg (show ¬ (bt s 1 < accLo ((19 : Int) / 16).toNat ∨ accHi ((19 : Int) / 16).toNat < bt s 1) from fun q => q.elim (of_decide_eq_false hg14_4) (of_decide_eq_false hc57)), if_neg (by decide), if_pos (show bt s 2 < 128 ∨ 191 < bt s 2 from by first | exact .inl (of_decide_eq_true hg19_2) | exact .inr (of_decide_eq_true hc75))]
                  exact retq (.cons _ _ _ _ (.tmp _ _ rfl) (.cons _ _ _ _ (.tmp _ _ rfl) .nil)) (.drop1 _ _ _) ⟨rfl, by rw [hd]; rfl⟩
                · refine rn ?_
                  refine aw_cond rfl (fun hc77 => ?_) (fun hc77 => ?_)
                  · refine rn ?_
                    have hd : decSlow s = (bI .or .i32 (bI .or .i32 (rbits (bt s 0) 15 12) (rbits (bt s 1) 63 6)) (rbits (bt s 2) 63 0), 3) := by
                      unfold decSlow
                      rw [if_neg (by omega)]
                      simp only [hx]
                      rw [if_neg (by decide), if_neg (show ¬ (s.size : Int) < (19 : Int) % 8 from of_decide_eq_false hc45), if_neg (show ¬ (bt s 1 < accLo ((19 : Int) / 16).toNat ∨ accHi ((19 : Int) / 16).toNat < bt s 1) from fun q => q.elim (of_decide_eq_false hg14_4) (of_decide_eq_false hc57)), if_neg (by decide), if_neg (show ¬ (bt s 2 < 128 ∨ 191 < bt s 2) from fun q => q.elim (of_decide_eq_false hg19_2) (of_decide_eq_false hc75)), if_pos (by decide)]
                    exact retq (.cons _ _ _ _ (.tmp _ _ rfl) (.cons _ _ _ _ (.tmp _ _ rfl) .nil)) (.drop1 _ _ _) ⟨rfl, by rw [hd]; rfl⟩
                  · first | cases hc77 | exact absurd hc77 (by decide) | (exfalso; simp_all; done)
theorem decodeSlow3 (s : ByteArray) (hx : firstV (bt s 0).toNat = 3) : ACall Tryz.prog 243 [.v (.string s)] [.glob 2 287 firstC, .glob 3 290 acceptC] (fun r h' => h' = [.glob 2 287 firstC, .glob 3 290 acceptC] ∧ r = .tup [.v (.int .i32 (decSlow s).1), iv (decSlow s).2]) := by
  refine acall_of_aw Tryz.func243 rfl rfl rfl ?_
  refine rn ?_
  refine aw_cond rfl (fun hc16 => ?_) (fun hc16 => ?_)
  · refine rn ?_
    have hd : decSlow s = (65533, 0) := by
      unfold decSlow
      rw [if_pos (by simp at hc16; omega)]
    exact retq (.cons _ _ _ _ (.tmp _ _ rfl) (.cons _ _ _ _ (.tmp _ _ rfl) .nil)) (.refl _ _) ⟨rfl, by rw [hd]; rfl⟩
  · have h1 : 0 < s.size := by simp at hc16; omega
    refine rn ?_
    refine qq rfl rfl (qr_index_bt 0 rfl rfl (by omega)) ?_
    refine rn ?_
    refine qq rfl rfl (qr_indexAddr_int rfl rfl (bt_ge _ _) (bt_lt _ _)) ?_
    refine qq rfl rfl (qr_load_one rfl (show _ = some (.v (.int .u8 3)) from by rw [firstC_get (bt_ge s 0) (bt_lt s 0), hx])) ?_
    refine rn ?_
    refine aw_cond rfl (fun hc23 => ?_) (fun hc23 => ?_)
    · first | cases hc23 | exact absurd hc23 (by decide) | (exfalso; simp_all; done)
    · refine rn ?_
      refine qq rfl rfl (qr_indexAddr_int rfl rfl (by decide) (by decide)) ?_
      refine rn ?_
      refine aops_e rfl (oe_alloc rfl fun b9 => ?_)
      refine rn ?_
      refine aw_cond rfl (fun hc45 => ?_) (fun hc45 => ?_)
      · refine rn ?_
        have hd : decSlow s = (65533, 1) := by
          unfold decSlow
          rw [if_neg (by omega)]
          simp only [hx]
          rw [if_neg (by decide), if_pos (show (s.size : Int) < (3 : Int) % 8 from of_decide_eq_true hc45)]
        exact retq (.cons _ _ _ _ (.tmp _ _ rfl) (.cons _ _ _ _ (.tmp _ _ rfl) .nil)) (.drop1 _ _ _) ⟨rfl, by rw [hd]; rfl⟩
      · have h2 : 3 ≤ s.size := by
          have : ¬ ((s.size : Int) < 3) := of_decide_eq_false hc45
          omega
        refine rn ?_
        refine qq rfl rfl (qr_index_bt 1 rfl rfl (by omega)) ?_
        refine rn ?_
        refine asplit (fun hg14_4 => ?_) (fun hg14_4 => ?_)
        · refine rn ?_
          refine aw_cond rfl (fun hc57 => ?_) (fun hc57 => ?_)
          · refine rn ?_
            have hd : decSlow s = (65533, 1) := by
              unfold decSlow
              rw [if_neg (by omega)]
              simp only [hx]
              rw [if_neg (by decide), if_neg (show ¬ (s.size : Int) < (3 : Int) % 8 from of_decide_eq_false hc45), if_pos (show bt s 1 < accLo ((3 : Int) / 16).toNat ∨ accHi ((3 : Int) / 16).toNat < bt s 1 from by first | exact .inl (of_decide_eq_true hg14_4) | exact .inr (of_decide_eq_true hc57))]
            exact retq (.cons _ _ _ _ (.tmp _ _ rfl) (.cons _ _ _ _ (.tmp _ _ rfl) .nil)) (.drop1 _ _ _) ⟨rfl, by rw [hd]; rfl⟩
          · first | cases hc57 | exact absurd hc57 (by decide) | (exfalso; simp_all; done)
        · refine rn ?_
          refine aw_cond rfl (fun hc57 => ?_) (fun hc57 => ?_)
          · refine rn ?_
            have hd : decSlow s = (65533, 1) := by
              unfold decSlow
              rw [if_neg (by omega)]
              simp only [hx]
              rw [if_neg (by decide), if_neg (show ¬ (s.size : Int) < (3 : Int) % 8 from of_decide_eq_false hc45), if_pos (show bt s 1 < accLo ((3 : Int) / 16).toNat ∨ accHi ((3 : Int) / 16).toNat < bt s 1 from by first | exact .inl (of_decide_eq_true hg14_4) | exact .inr (of_decide_eq_true hc57))]
            exact retq (.cons _ _ _ _ (.tmp _ _ rfl) (.cons _ _ _ _ (.tmp _ _ rfl) .nil)) (.drop1 _ _ _) ⟨rfl, by rw [hd]; rfl⟩
          · refine rn ?_
            refine aw_cond rfl (fun hc59 => ?_) (fun hc59 => ?_)
            · first | cases hc59 | exact absurd hc59 (by decide) | (exfalso; simp_all; done)
            · refine rn ?_
              refine qq rfl rfl (qr_index_bt 2 rfl rfl (by omega)) ?_
              refine rn ?_
              refine asplit (fun hg19_2 => ?_) (fun hg19_2 => ?_)
              · refine rn ?_
                refine aw_cond rfl (fun hc75 => ?_) (fun hc75 => ?_)
                · refine rn ?_
                  have hd : decSlow s = (65533, 1) := by
                    unfold decSlow
                    rw [if_neg (by omega)]
                    simp only [hx]
                    rw [if_neg (by decide), if_neg (show ¬ (s.size : Int) < (3 : Int) % 8 from of_decide_eq_false hc45), if_neg (show ¬ (bt s 1 < accLo ((3 : Int) / 16).toNat ∨ accHi ((3 : Int) / 16).toNat < bt s 1) from fun q => q.elim (of_decide_eq_false hg14_4) (of_decide_eq_false hc57)), if_neg (by decide), if_pos (show bt s 2 < 128 ∨ 191 < bt s 2 from by first | exact .inl (of_decide_eq_true hg19_2) | exact .inr (of_decide_eq_true hc75))]
                  exact retq (.cons _ _ _ _ (.tmp _ _ rfl) (.cons _ _ _ _ (.tmp _ _ rfl) .nil)) (.drop1 _ _ _) ⟨rfl, by rw [hd]; rfl⟩
                · first | cases hc75 | exact absurd hc75 (by decide) | (exfalso; simp_all; done)
              · refine rn ?_
                refine aw_cond rfl (fun hc75 => ?_) (fun hc75 => ?_)
                · refine rn ?_
                  have hd : decSlow s = (65533, 1) := by
                    unfold decSlow
                    rw [if_neg (by omega)]
                    simp only [hx]
                    rw [if_neg (by decide), if_neg (show ¬ (s.size : Int) < (3 : Int) % 8 from of_decide_eq_false hc45), if_neg (show ¬ (bt s 1 < accLo ((3 : Int) / 16).toNat ∨ accHi ((3 : Int) / 16).toNat < bt s 1) from fun q => q.elim (of_decide_eq_false hg14_4) (of_decide_eq_false hc57)), if_neg (by decide), if_pos (show bt s 2 < 128 ∨ 191 < bt s 2 from by first | exact .inl (of_decide_eq_true hg19_2) | exact .inr (of_decide_eq_true hc75))]
                  exact retq (.cons _ _ _ _ (.tmp _ _ rfl) (.cons _ _ _ _ (.tmp _ _ rfl) .nil)) (.drop1 _ _ _) ⟨rfl, by rw [hd]; rfl⟩
                · refine rn ?_
                  refine aw_cond rfl (fun hc77 => ?_) (fun hc77 => ?_)
                  · refine rn ?_
                    have hd : decSlow s = (bI .or .i32 (bI .or .i32 (rbits (bt s 0) 15 12) (rbits (bt s 1) 63 6)) (rbits (bt s 2) 63 0), 3) := by
                      unfold decSlow
                      rw [if_neg (by omega)]
                      simp only [hx]
                      rw [if_neg (by decide), if_neg (show ¬ (s.size : Int) < (3 : Int) % 8 from of_decide_eq_false hc45), if_neg (show ¬ (bt s 1 < accLo ((3 : Int) / 16).toNat ∨ accHi ((3 : Int) / 16).toNat < bt s 1) from fun q => q.elim (of_decide_eq_false hg14_4) (of_decide_eq_false hc57)), if_neg (by decide), if_neg (show ¬ (bt s 2 < 128 ∨ 191 < bt s 2) from fun q => q.elim (of_decide_eq_false hg19_2) (of_decide_eq_false hc75)), if_pos (by decide)]
                    exact retq (.cons _ _ _ _ (.tmp _ _ rfl) (.cons _ _ _ _ (.tmp _ _ rfl) .nil)) (.drop1 _ _ _) ⟨rfl, by rw [hd]; rfl⟩
                  · first | cases hc77 | exact absurd hc77 (by decide) | (exfalso; simp_all; done)
theorem decodeSlow35 (s : ByteArray) (hx : firstV (bt s 0).toNat = 35) : ACall Tryz.prog 243 [.v (.string s)] [.glob 2 287 firstC, .glob 3 290 acceptC] (fun r h' => h' = [.glob 2 287 firstC, .glob 3 290 acceptC] ∧ r = .tup [.v (.int .i32 (decSlow s).1), iv (decSlow s).2]) := by
  refine acall_of_aw Tryz.func243 rfl rfl rfl ?_
  refine rn ?_
  refine aw_cond rfl (fun hc16 => ?_) (fun hc16 => ?_)
  · refine rn ?_
    have hd : decSlow s = (65533, 0) := by
      unfold decSlow
      rw [if_pos (by simp at hc16; omega)]
    exact retq (.cons _ _ _ _ (.tmp _ _ rfl) (.cons _ _ _ _ (.tmp _ _ rfl) .nil)) (.refl _ _) ⟨rfl, by rw [hd]; rfl⟩
  · have h1 : 0 < s.size := by simp at hc16; omega
    refine rn ?_
    refine qq rfl rfl (qr_index_bt 0 rfl rfl (by omega)) ?_
    refine rn ?_
    refine qq rfl rfl (qr_indexAddr_int rfl rfl (bt_ge _ _) (bt_lt _ _)) ?_
    refine qq rfl rfl (qr_load_one rfl (show _ = some (.v (.int .u8 35)) from by rw [firstC_get (bt_ge s 0) (bt_lt s 0), hx])) ?_
    refine rn ?_
    refine aw_cond rfl (fun hc23 => ?_) (fun hc23 => ?_)
    · first | cases hc23 | exact absurd hc23 (by decide) | (exfalso; simp_all; done)
    · refine rn ?_
      refine qq rfl rfl (qr_indexAddr_int rfl rfl (by decide) (by decide)) ?_
      refine rn ?_
      refine aops_e rfl (oe_alloc rfl fun b9 => ?_)
      refine rn ?_
      refine aw_cond rfl (fun hc45 => ?_) (fun hc45 => ?_)
      · refine rn ?_
        have hd : decSlow s = (65533, 1) := by
          unfold decSlow
          rw [if_neg (by omega)]
          simp only [hx]
          rw [if_neg (by decide), if_pos (show (s.size : Int) < (35 : Int) % 8 from of_decide_eq_true hc45)]
        exact retq (.cons _ _ _ _ (.tmp _ _ rfl) (.cons _ _ _ _ (.tmp _ _ rfl) .nil)) (.drop1 _ _ _) ⟨rfl, by rw [hd]; rfl⟩
      · have h2 : 3 ≤ s.size := by
          have : ¬ ((s.size : Int) < 3) := of_decide_eq_false hc45
          omega
        refine rn ?_
        refine qq rfl rfl (qr_index_bt 1 rfl rfl (by omega)) ?_
        refine rn ?_
        refine asplit (fun hg14_4 => ?_) (fun hg14_4 => ?_)
        · refine rn ?_
          refine aw_cond rfl (fun hc57 => ?_) (fun hc57 => ?_)
          · refine rn ?_
            have hd : decSlow s = (65533, 1) := by
              unfold decSlow
              rw [if_neg (by omega)]
              simp only [hx]
              rw [if_neg (by decide), if_neg (show ¬ (s.size : Int) < (35 : Int) % 8 from of_decide_eq_false hc45), if_pos (show bt s 1 < accLo ((35 : Int) / 16).toNat ∨ accHi ((35 : Int) / 16).toNat < bt s 1 from by first | exact .inl (of_decide_eq_true hg14_4) | exact .inr (of_decide_eq_true hc57))]
            exact retq (.cons _ _ _ _ (.tmp _ _ rfl) (.cons _ _ _ _ (.tmp _ _ rfl) .nil)) (.drop1 _ _ _) ⟨rfl, by rw [hd]; rfl⟩
          · first | cases hc57 | exact absurd hc57 (by decide) | (exfalso; simp_all; done)
        · refine rn ?_
          refine aw_cond rfl (fun hc57 => ?_) (fun hc57 => ?_)
          · refine rn ?_
            have hd : decSlow s = (65533, 1) := by
              unfold decSlow
              rw [if_neg (by omega)]
              simp only [hx]
              rw [if_neg (by decide), if_neg (show ¬ (s.size : Int) < (35 : Int) % 8 from of_decide_eq_false hc45), if_pos (show bt s 1 < accLo ((35 : Int) / 16).toNat ∨ accHi ((35 : Int) / 16).toNat < bt s 1 from by first | exact .inl (of_decide_eq_true hg14_4) | exact .inr (of_decide_eq_true hc57))]
            exact retq (.cons _ _ _ _ (.tmp _ _ rfl) (.cons _ _ _ _ (.tmp _ _ rfl) .nil)) (.drop1 _ _ _) ⟨rfl, by rw [hd]; rfl⟩
          · refine rn ?_
            refine aw_cond rfl (fun hc59 => ?_) (fun hc59 => ?_)
            · first | cases hc59 | exact absurd hc59 (by decide) | (exfalso; simp_all; done)
            · refine rn ?_
              refine qq rfl rfl (qr_index_bt 2 rfl rfl (by omega)) ?_
              refine rn ?_
              refine asplit (fun hg19_2 => ?_) (fun hg19_2 => ?_)
              · refine rn ?_
                refine aw_cond rfl (fun hc75 => ?_) (fun hc75 => ?_)
                · refine rn ?_
                  have hd : decSlow s = (65533, 1) := by
                    unfold decSlow
                    rw [if_neg (by omega)]
                    simp only [hx]
                    rw [if_neg (by decide), if_neg (show ¬ (s.size : Int) < (35 : Int) % 8 from of_decide_eq_false hc45), if_neg (show ¬ (bt s 1 < accLo ((35 : Int) / 16).toNat ∨ accHi ((35 : Int) / 16).toNat < bt s 1) from fun q => q.elim (of_decide_eq_false hg14_4) (of_decide_eq_false hc57)), if_neg (by decide), if_pos (show bt s 2 < 128 ∨ 191 < bt s 2 from by first | exact .inl (of_decide_eq_true hg19_2) | exact .inr (of_decide_eq_true hc75))]
                  exact retq (.cons _ _ _ _ (.tmp _ _ rfl) (.cons _ _ _ _ (.tmp _ _ rfl) .nil)) (.drop1 _ _ _) ⟨rfl, by rw [hd]; rfl⟩
                · first | cases hc75 | exact absurd hc75 (by decide) | (exfalso; simp_all; done)
              · refine rn ?_
                refine aw_cond rfl (fun hc75 => ?_) (fun hc75 => ?_)
                · refine rn ?_
                  have hd : decSlow s = (65533, 1) := by
                    unfold decSlow
                    rw [if_neg (by omega)]
                    simp only [hx]
                    rw [if_neg (by decide), if_neg (show ¬ (s.size : Int) < (35 : Int) % 8 from of_decide_eq_false hc45), if_neg (show ¬ (bt s 1 < accLo ((35 : Int) / 16).toNat ∨ accHi ((35 : Int) / 16).toNat < bt s 1) from fun q => q.elim (of_decide_eq_false hg14_4) (of_decide_eq_false hc57)), if_neg (by decide), if_pos (show bt s 2 < 128 ∨ 191 < bt s 2 from by first | exact .inl (of_decide_eq_true hg19_2) | exact .inr (of_decide_eq_true hc75))]
                  exact retq (.cons _ _ _ _ (.tmp _ _ rfl) (.cons _ _ _ _ (.tmp _ _ rfl) .nil)) (.drop1 _ _ _) ⟨rfl, by rw [hd]; rfl⟩
                · refine rn ?_
                  refine aw_cond rfl (fun hc77 => ?_) (fun hc77 => ?_)
                  · refine rn ?_
                    have hd : decSlow s = (bI .or .i32 (bI .or .i32 (rbits (bt s 0) 15 12) (rbits (bt s 1) 63 6)) (rbits (bt s 2) 63 0), 3) := by
                      unfold decSlow
                      rw [if_neg (by omega)]
                      simp only [hx]
                      rw [if_neg (by decide), if_neg (show ¬ (s.size : Int) < (35 : Int) % 8 from of_decide_eq_false hc45), if_neg (show ¬ (bt s 1 < accLo ((35 : Int) / 16).toNat ∨ accHi ((35 : Int) / 16).toNat < bt s 1) from fun q => q.elim (of_decide_eq_false hg14_4) (of_decide_eq_false hc57)), if_neg (by decide), if_neg (show ¬ (bt s 2 < 128 ∨ 191 < bt s 2) from fun q => q.elim (of_decide_eq_false hg19_2) (of_decide_eq_false hc75)), if_pos (by decide)]
                    exact retq (.cons _ _ _ _ (.tmp _ _ rfl) (.cons _ _ _ _ (.tmp _ _ rfl) .nil)) (.drop1 _ _ _) ⟨rfl, by rw [hd]; rfl⟩
                  · first | cases hc77 | exact absurd hc77 (by decide) | (exfalso; simp_all; done)
theorem decodeSlow52 (s : ByteArray) (hx : firstV (bt s 0).toNat = 52) : ACall Tryz.prog 243 [.v (.string s)] [.glob 2 287 firstC, .glob 3 290 acceptC] (fun r h' => h' = [.glob 2 287 firstC, .glob 3 290 acceptC] ∧ r = .tup [.v (.int .i32 (decSlow s).1), iv (decSlow s).2]) := by
  refine acall_of_aw Tryz.func243 rfl rfl rfl ?_
  refine rn ?_
  refine aw_cond rfl (fun hc16 => ?_) (fun hc16 => ?_)
  · refine rn ?_
    have hd : decSlow s = (65533, 0) := by
      unfold decSlow
      rw [if_pos (by simp at hc16; omega)]
    exact retq (.cons _ _ _ _ (.tmp _ _ rfl) (.cons _ _ _ _ (.tmp _ _ rfl) .nil)) (.refl _ _) ⟨rfl, by rw [hd]; rfl⟩
  · have h1 : 0 < s.size := by simp at hc16; omega
    refine rn ?_
    refine qq rfl rfl (qr_index_bt 0 rfl rfl (by omega)) ?_
    refine rn ?_
    refine qq rfl rfl (qr_indexAddr_int rfl rfl (bt_ge _ _) (bt_lt _ _)) ?_
    refine qq rfl rfl (qr_load_one rfl (show _ = some (.v (.int .u8 52)) from by rw [firstC_get (bt_ge s 0) (bt_lt s 0), hx])) ?_
    refine rn ?_
    refine aw_cond rfl (fun hc23 => ?_) (fun hc23 => ?_)
    · first | cases hc23 | exact absurd hc23 (by decide) | (exfalso; simp_all; done)
    · refine rn ?_
      refine qq rfl rfl (qr_indexAddr_int rfl rfl (by decide) (by decide)) ?_
      refine rn ?_
      refine aops_e rfl (oe_alloc rfl fun b9 => ?_)
      refine rn ?_
      refine aw_cond rfl (fun hc45 => ?_) (fun hc45 => ?_)
      · refine rn ?_
        have hd : decSlow s = (65533, 1) := by
          unfold decSlow
          rw [if_neg (by omega)]
          simp only [hx]
          rw [if_neg (by decide), if_pos (show (s.size : Int) < (52 : Int) % 8 from of_decide_eq_true hc45)]
        exact retq (.cons _ _ _ _ (.tmp _ _ rfl) (.cons _ _ _ _ (.tmp _ _ rfl) .nil)) (.drop1 _ _ _) ⟨rfl, by rw [hd]; rfl⟩
      · have h2 : 4 ≤ s.size := by
          have : ¬ ((s.size : Int) < 4) := of_decide_eq_false hc45
          omega
        refine rn ?_
        refine qq rfl rfl (qr_index_bt 1 rfl rfl (by omega)) ?_
        refine rn ?_
        refine asplit (fun hg14_4 => ?_) (fun hg14_4 => ?_)
        · refine rn ?_
          refine aw_cond rfl (fun hc57 => ?_) (fun hc57 => ?_)
          · refine rn ?_
            have hd : decSlow s = (65533, 1) := by
              unfold decSlow
              rw [if_neg (by omega)]
              simp only [hx]
              rw [if_neg (by decide), if_neg (show ¬ (s.size : Int) < (52 : Int) % 8 from of_decide_eq_false hc45), if_pos (show bt s 1 < accLo ((52 : Int) / 16).toNat ∨ accHi ((52 : Int) / 16).toNat < bt s 1 from by first | exact .inl (of_decide_eq_true hg14_4) | exact .inr (of_decide_eq_true hc57))]
            exact retq (.cons _ _ _ _ (.tmp _ _ rfl) (.cons _ _ _ _ (.tmp _ _ rfl) .nil)) (.drop1 _ _ _) ⟨rfl, by rw [hd]; rfl⟩
          · first | cases hc57 | exact absurd hc57 (by decide) | (exfalso; simp_all; done)
        · refine rn ?_
          refine aw_cond rfl (fun hc57 => ?_) (fun hc57 => ?_)
          · refine rn ?_
            have hd : decSlow s = (65533, 1) := by
              unfold decSlow
              rw [if_neg (by omega)]
              simp only [hx]
              rw [if_neg (by decide), if_neg (show ¬ (s.size : Int) < (52 : Int) % 8 from of_decide_eq_false hc45), if_pos (show bt s 1 < accLo ((52 : Int) / 16).toNat ∨ accHi ((52 : Int) / 16).toNat < bt s 1 from by first | exact .inl (of_decide_eq_true hg14_4) | exact .inr (of_decide_eq_true hc57))]
            exact retq (.cons _ _ _ _ (.tmp _ _ rfl) (.cons _ _ _ _ (.tmp _ _ rfl) .nil)) (.drop1 _ _ _) ⟨rfl, by rw [hd]; rfl⟩
          · refine rn ?_
            refine aw_cond rfl (fun hc59 => ?_) (fun hc59 => ?_)
            · first | cases hc59 | exact absurd hc59 (by decide) | (exfalso; simp_all; done)
            · refine rn ?_
              refine qq rfl rfl (qr_index_bt 2 rfl rfl (by omega)) ?_
              refine rn ?_
              refine asplit (fun hg19_2 => ?_) (fun hg19_2 => ?_)
              · refine rn ?_
                refine aw_cond rfl (fun hc75 => ?_) (fun hc75 => ?_)
                · refine rn ?_
                  have hd : decSlow s = (65533, 1) := by
                    unfold decSlow
                    rw [if_neg (by omega)]
                    simp only [hx]
                    rw [if_neg (by decide), if_neg (show ¬ (s.size : Int) < (52 : Int) % 8 from of_decide_eq_false hc45), if_neg (show ¬ (bt s 1 < accLo ((52 : Int) / 16).toNat ∨ accHi ((52 : Int) / 16).toNat < bt s 1) from fun q => q.elim (of_decide_eq_false hg14_4) (of_decide_eq_false hc57)), if_neg (by decide), if_pos (show bt s 2 < 128 ∨ 191 < bt s 2 from by first | exact .inl (of_decide_eq_true hg19_2) | exact .inr (of_decide_eq_true hc75))]
                  exact retq (.cons _ _ _ _ (.tmp _ _ rfl) (.cons _ _ _ _ (.tmp _ _ rfl) .nil)) (.drop1 _ _ _) ⟨rfl, by rw [hd]; rfl⟩
                · first | cases hc75 | exact absurd hc75 (by decide) | (exfalso; simp_all; done)
              · refine rn ?_
                refine aw_cond rfl (fun hc75 => ?_) (fun hc75 => ?_)
                · refine rn ?_
                  have hd : decSlow s = (65533, 1) := by
                    unfold decSlow
                    rw [if_neg (by omega)]
                    simp only [hx]
                    rw [if_neg (by decide), if_neg (show ¬ (s.size : Int) < (52 : Int) % 8 from of_decide_eq_false hc45), if_neg (show ¬ (bt s 1 < accLo ((52 : Int) / 16).toNat ∨ accHi ((52 : Int) / 16).toNat < bt s 1) from fun q => q.elim (of_decide_eq_false hg14_4) (of_decide_eq_false hc57)), if_neg (by decide), if_pos (show bt s 2 < 128 ∨ 191 < bt s 2 from by first | exact .inl (of_decide_eq_true hg19_2) | exact .inr (of_decide_eq_true hc75))]
                  exact retq (.cons _ _ _ _ (.tmp _ _ rfl) (.cons _ _ _ _ (.tmp _ _ rfl) .nil)) (.drop1 _ _ _) ⟨rfl, by rw [hd]; rfl⟩
                · refine rn ?_
                  refine aw_cond rfl (fun hc77 => ?_) (fun hc77 => ?_)
                  · first | cases hc77 | exact absurd hc77 (by decide) | (exfalso; simp_all; done)
                  · refine rn ?_
                    refine qq rfl rfl (qr_index_bt 3 rfl rfl (by omega)) ?_
                    refine rn ?_
                    refine asplit (fun hg24_2 => ?_) (fun hg24_2 => ?_)
                    · refine rn ?_
                      refine aw_cond rfl (fun hc98 => ?_) (fun hc98 => ?_)
                      · refine rn ?_
                        have hd : decSlow s = (65533, 1) := by
                          unfold decSlow
                          rw [if_neg (by omega)]
                          simp only [hx]
                          rw [if_neg (by decide), if_neg (show ¬ (s.size : Int) < (52 : Int) % 8 from of_decide_eq_false hc45), if_neg (show ¬ (bt s 1 < accLo ((52 : Int) / 16).toNat ∨ accHi ((52 : Int) / 16).toNat < bt s 1) from fun q => q.elim (of_decide_eq_false hg14_4) (of_decide_eq_false hc57)), if_neg (by decide), if_neg (show ¬ (bt s 2 < 128 ∨ 191 < bt s 2) from fun q => q.elim (of_decide_eq_false hg19_2) (of_decide_eq_false hc75)), if_neg (by decide), if_pos (show bt s 3 < 128 ∨ 191 < bt s 3 from by first | exact .inl (of_decide_eq_true hg24_2) | exact .inr (of_decide_eq_true hc98))]
                        exact retq (.cons _ _ _ _ (.tmp _ _ rfl) (.cons _ _ _ _ (.tmp _ _ rfl) .nil)) (.drop1 _ _ _) ⟨rfl, by rw [hd]; rfl⟩
                      · first | cases hc98 | exact absurd hc98 (by decide) | (exfalso; simp_all; done)
                    · refine rn ?_
                      refine aw_cond rfl (fun hc98 => ?_) (fun hc98 => ?_)
                      · refine rn ?_
                        have hd : decSlow s = (65533, 1) := by
                          unfold decSlow
                          rw [if_neg (by omega)]
                          simp only [hx]
                          rw [if_neg (by decide), if_neg (show ¬ (s.size : Int) < (52 : Int) % 8 from of_decide_eq_false hc45), if_neg (show ¬ (bt s 1 < accLo ((52 : Int) / 16).toNat ∨ accHi ((52 : Int) / 16).toNat < bt s 1) from fun q => q.elim (of_decide_eq_false hg14_4) (of_decide_eq_false hc57)), if_neg (by decide), if_neg (show ¬ (bt s 2 < 128 ∨ 191 < bt s 2) from fun q => q.elim (of_decide_eq_false hg19_2) (of_decide_eq_false hc75)), if_neg (by decide), if_pos (show bt s 3 < 128 ∨ 191 < bt s 3 from by first | exact .inl (of_decide_eq_true hg24_2) | exact .inr (of_decide_eq_true hc98))]
                        exact retq (.cons _ _ _ _ (.tmp _ _ rfl) (.cons _ _ _ _ (.tmp _ _ rfl) .nil)) (.drop1 _ _ _) ⟨rfl, by rw [hd]; rfl⟩
                      · refine rn ?_
                        have hd : decSlow s = (bI .or .i32 (bI .or .i32 (bI .or .i32 (rbits (bt s 0) 7 18) (rbits (bt s 1) 63 12)) (rbits (bt s 2) 63 6)) (rbits (bt s 3) 63 0), 4) := by
                          unfold decSlow
                          rw [if_neg (by omega)]
                          simp only [hx]
                          rw [if_neg (by decide), if_neg (show ¬ (s.size : Int) < (52 : Int) % 8 from of_decide_eq_false hc45), if_neg (show ¬ (bt s 1 < accLo ((52 : Int) / 16).toNat ∨ accHi ((52 : Int) / 16).toNat < bt s 1) from fun q => q.elim (of_decide_eq_false hg14_4) (of_decide_eq_false hc57)), if_neg (by decide), if_neg (show ¬ (bt s 2 < 128 ∨ 191 < bt s 2) from fun q => q.elim (of_decide_eq_false hg19_2) (of_decide_eq_false hc75)), if_neg (by decide), if_neg (show ¬ (bt s 3 < 128 ∨ 191 < bt s 3) from fun q => q.elim (of_decide_eq_false hg24_2) (of_decide_eq_false hc98))]
                        exact retq (.cons _ _ _ _ (.tmp _ _ rfl) (.cons _ _ _ _ (.tmp _ _ rfl) .nil)) (.drop1 _ _ _) ⟨rfl, by rw [hd]; rfl⟩
theorem decodeSlow4 (s : ByteArray) (hx : firstV (bt s 0).toNat = 4) : ACall Tryz.prog 243 [.v (.string s)] [.glob 2 287 firstC, .glob 3 290 acceptC] (fun r h' => h' = [.glob 2 287 firstC, .glob 3 290 acceptC] ∧ r = .tup [.v (.int .i32 (decSlow s).1), iv (decSlow s).2]) := by
  refine acall_of_aw Tryz.func243 rfl rfl rfl ?_
  refine rn ?_
  refine aw_cond rfl (fun hc16 => ?_) (fun hc16 => ?_)
  · refine rn ?_
    have hd : decSlow s = (65533, 0) := by
      unfold decSlow
      rw [if_pos (by simp at hc16; omega)]
    exact retq (.cons _ _ _ _ (.tmp _ _ rfl) (.cons _ _ _ _ (.tmp _ _ rfl) .nil)) (.refl _ _) ⟨rfl, by rw [hd]; rfl⟩
  · have h1 : 0 < s.size := by simp at hc16; omega
    refine rn ?_
    refine qq rfl rfl (qr_index_bt 0 rfl rfl (by omega)) ?_
    refine rn ?_
    refine qq rfl rfl (qr_indexAddr_int rfl rfl (bt_ge _ _) (bt_lt _ _)) ?_
    refine qq rfl rfl (qr_load_one rfl (show _ = some (.v (.int .u8 4)) from by rw [firstC_get (bt_ge s 0) (bt_lt s 0), hx])) ?_
    refine rn ?_
    refine aw_cond rfl (fun hc23 => ?_) (fun hc23 => ?_)
    · first | cases hc23 | exact absurd hc23 (by decide) | (exfalso; simp_all; done)
    · refine rn ?_
      refine qq rfl rfl (qr_indexAddr_int rfl rfl (by decide) (by decide)) ?_
      refine rn ?_
      refine aops_e rfl (oe_alloc rfl fun b9 => ?_)
      refine rn ?_
      refine aw_cond rfl (fun hc45 => ?_) (fun hc45 => ?_)
      · refine rn ?_
        have hd : decSlow s = (65533, 1) := by
          unfold decSlow
          rw [if_neg (by omega)]
          simp only [hx]
          rw [if_neg (by decide), if_pos (show (s.size : Int) < (4 : Int) % 8 from of_decide_eq_true hc45)]
        exact retq (.cons _ _ _ _ (.tmp _ _ rfl) (.cons _ _ _ _ (.tmp _ _ rfl) .nil)) (.drop1 _ _ _) ⟨rfl, by rw [hd]; rfl⟩
      · have h2 : 4 ≤ s.size := by
          have : ¬ ((s.size : Int) < 4) := of_decide_eq_false hc45
          omega
        refine rn ?_
        refine qq rfl rfl (qr_index_bt 1 rfl rfl (by omega)) ?_
        refine rn ?_
        refine asplit (fun hg14_4 => ?_) (fun hg14_4 => ?_)
        · refine rn ?_
          refine aw_cond rfl (fun hc57 => ?_) (fun hc57 => ?_)
          · refine rn ?_
            have hd : decSlow s = (65533, 1) := by
              unfold decSlow
              rw [if_neg (by omega)]
              simp only [hx]
              rw [if_neg (by decide), if_neg (show ¬ (s.size : Int) < (4 : Int) % 8 from of_decide_eq_false hc45), if_pos (show bt s 1 < accLo ((4 : Int) / 16).toNat ∨ accHi ((4 : Int) / 16).toNat < bt s 1 from by first | exact .inl (of_decide_eq_true hg14_4) | exact .inr (of_decide_eq_true hc57))]
            exact retq (.cons _ _ _ _ (.tmp _ _ rfl) (.cons _ _ _ _ (.tmp _ _ rfl) .nil)) (.drop1 _ _ _) ⟨rfl, by rw [hd]; rfl⟩
          · first | cases hc57 | exact absurd hc57 (by decide) | (exfalso; simp_all; done)
        · refine rn ?_
          refine aw_cond rfl (fun hc57 => ?_) (fun hc57 => ?_)
          · refine rn ?_
            have hd : decSlow s = (65533, 1) := by
              unfold decSlow
              rw [if_neg (by omega)]
              simp only [hx]
              rw [if_neg (by decide), if_neg (show ¬ (s.size : Int) < (4 : Int) % 8 from of_decide_eq_false hc45), if_pos (show bt s 1 < accLo ((4 : Int) / 16).toNat ∨ accHi ((4 : Int) / 16).toNat < bt s 1 from by first | exact .inl (of_decide_eq_true hg14_4) | exact .inr (of_decide_eq_true hc57))]
            exact retq (.cons _ _ _ _ (.tmp _ _ rfl) (.cons _ _ _ _ (.tmp _ _ rfl) .nil)) (.drop1 _ _ _) ⟨rfl, by rw [hd]; rfl⟩
          · refine rn ?_
            refine aw_cond rfl (fun hc59 => ?_) (fun hc59 => ?_)
            · first | cases hc59 | exact absurd hc59 (by decide) | (exfalso; simp_all; done)
            · refine rn ?_
              refine qq rfl rfl (qr_index_bt 2 rfl rfl (by omega)) ?_
              refine rn ?_
              refine asplit (fun hg19_2 => ?_) (fun hg19_2 => ?_)
              · refine rn ?_
                refine aw_cond rfl (fun hc75 => ?_) (fun hc75 => ?_)
                · refine rn ?_
                  have hd : decSlow s = (65533, 1) := by
                    unfold decSlow
                    rw [if_neg (by omega)]
                    simp only [hx]
                    rw [if_neg (by decide), if_neg (show ¬ (s.size : Int) < (4 : Int) % 8 from of_decide_eq_false hc45), if_neg (show ¬ (bt s 1 < accLo ((4 : Int) / 16).toNat ∨ accHi ((4 : Int) / 16).toNat < bt s 1) from fun q => q.elim (of_decide_eq_false hg14_4) (of_decide_eq_false hc57)), if_neg (by decide), if_pos (show bt s 2 < 128 ∨ 191 < bt s 2 from by first | exact .inl (of_decide_eq_true hg19_2) | exact .inr (of_decide_eq_true hc75))]
                  exact retq (.cons _ _ _ _ (.tmp _ _ rfl) (.cons _ _ _ _ (.tmp _ _ rfl) .nil)) (.drop1 _ _ _) ⟨rfl, by rw [hd]; rfl⟩
                · first | cases hc75 | exact absurd hc75 (by decide) | (exfalso; simp_all; done)
              · refine rn ?_
                refine aw_cond rfl (fun hc75 => ?_) (fun hc75 => ?_)
                · refine rn ?_
                  have hd : decSlow s = (65533, 1) := by
                    unfold decSlow
                    rw [if_neg (by omega)]
                    simp only [hx]
                    rw [if_neg (by decide), if_neg (show ¬ (s.size : Int) < (4 : Int) % 8 from of_decide_eq_false hc45), if_neg (show ¬ (bt s 1 < accLo ((4 : Int) / 16).toNat ∨ accHi ((4 : Int) / 16).toNat < bt s 1) from fun q => q.elim (of_decide_eq_false hg14_4) (of_decide_eq_false hc57)), if_neg (by decide), if_pos (show bt s 2 < 128 ∨ 191 < bt s 2 from by first | exact .inl (of_decide_eq_true hg19_2) | exact .inr (of_decide_eq_true hc75))]
                  exact retq (.cons _ _ _ _ (.tmp _ _ rfl) (.cons _ _ _ _ (.tmp _ _ rfl) .nil)) (.drop1 _ _ _) ⟨rfl, by rw [hd]; rfl⟩
                · refine rn ?_
                  refine aw_cond rfl (fun hc77 => ?_) (fun hc77 => ?_)
                  · first | cases hc77 | exact absurd hc77 (by decide) | (exfalso; simp_all; done)
                  · refine rn ?_
                    refine qq rfl rfl (qr_index_bt 3 rfl rfl (by omega)) ?_
                    refine rn ?_
                    refine asplit (fun hg24_2 => ?_) (fun hg24_2 => ?_)
                    · refine rn ?_
                      refine aw_cond rfl (fun hc98 => ?_) (fun hc98 => ?_)
                      · refine rn ?_
                        have hd : decSlow s = (65533, 1) := by
                          unfold decSlow
                          rw [if_neg (by omega)]
                          simp only [hx]
                          rw [if_neg (by decide), if_neg (show ¬ (s.size : Int) < (4 : Int) % 8 from of_decide_eq_false hc45), if_neg (show ¬ (bt s 1 < accLo ((4 : Int) / 16).toNat ∨ accHi ((4 : Int) / 16).toNat < bt s 1) from fun q => q.elim (of_decide_eq_false hg14_4) (of_decide_eq_false hc57)), if_neg (by decide), if_neg (show ¬ (bt s 2 < 128 ∨ 191 < bt s 2) from fun q => q.elim (of_decide_eq_false hg19_2) (of_decide_eq_false hc75)), if_neg (by decide), if_pos (show bt s 3 < 128 ∨ 191 < bt s 3 from by first | exact .inl (of_decide_eq_true hg24_2) | exact .inr (of_decide_eq_true hc98))]
                        exact retq (.cons _ _ _ _ (.tmp _ _ rfl) (.cons _ _ _ _ (.tmp _ _ rfl) .nil)) (.drop1 _ _ _) ⟨rfl, by rw [hd]; rfl⟩
                      · first | cases hc98 | exact absurd hc98 (by decide) | (exfalso; simp_all; done)
                    · refine rn ?_
                      refine aw_cond rfl (fun hc98 => ?_) (fun hc98 => ?_)
                      · refine rn ?_
                        have hd : decSlow s = (65533, 1) := by
                          unfold decSlow
                          rw [if_neg (by omega)]
                          simp only [hx]
                          rw [if_neg (by decide), if_neg (show ¬ (s.size : Int) < (4 : Int) % 8 from of_decide_eq_false hc45), if_neg (show ¬ (bt s 1 < accLo ((4 : Int) / 16).toNat ∨ accHi ((4 : Int) / 16).toNat < bt s 1) from fun q => q.elim (of_decide_eq_false hg14_4) (of_decide_eq_false hc57)), if_neg (by decide), if_neg (show ¬ (bt s 2 < 128 ∨ 191 < bt s 2) from fun q => q.elim (of_decide_eq_false hg19_2) (of_decide_eq_false hc75)), if_neg (by decide), if_pos (show bt s 3 < 128 ∨ 191 < bt s 3 from by first | exact .inl (of_decide_eq_true hg24_2) | exact .inr (of_decide_eq_true hc98))]
                        exact retq (.cons _ _ _ _ (.tmp _ _ rfl) (.cons _ _ _ _ (.tmp _ _ rfl) .nil)) (.drop1 _ _ _) ⟨rfl, by rw [hd]; rfl⟩
                      · refine rn ?_
                        have hd : decSlow s = (bI .or .i32 (bI .or .i32 (bI .or .i32 (rbits (bt s 0) 7 18) (rbits (bt s 1) 63 12)) (rbits (bt s 2) 63 6)) (rbits (bt s 3) 63 0), 4) := by
                          unfold decSlow
                          rw [if_neg (by omega)]
                          simp only [hx]
                          rw [if_neg (by decide), if_neg (show ¬ (s.size : Int) < (4 : Int) % 8 from of_decide_eq_false hc45), if_neg (show ¬ (bt s 1 < accLo ((4 : Int) / 16).toNat ∨ accHi ((4 : Int) / 16).toNat < bt s 1) from fun q => q.elim (of_decide_eq_false hg14_4) (of_decide_eq_false hc57)), if_neg (by decide), if_neg (show ¬ (bt s 2 < 128 ∨ 191 < bt s 2) from fun q => q.elim (of_decide_eq_false hg19_2) (of_decide_eq_false hc75)), if_neg (by decide), if_neg (show ¬ (bt s 3 < 128 ∨ 191 < bt s 3) from fun q => q.elim (of_decide_eq_false hg24_2) (of_decide_eq_false hc98))]
                        exact retq (.cons _ _ _ _ (.tmp _ _ rfl) (.cons _ _ _ _ (.tmp _ _ rfl) .nil)) (.drop1 _ _ _) ⟨rfl, by rw [hd]; rfl⟩
theorem decodeSlow68 (s : ByteArray) (hx : firstV (bt s 0).toNat = 68) : ACall Tryz.prog 243 [.v (.string s)] [.glob 2 287 firstC, .glob 3 290 acceptC] (fun r h' => h' = [.glob 2 287 firstC, .glob 3 290 acceptC] ∧ r = .tup [.v (.int .i32 (decSlow s).1), iv (decSlow s).2]) := by
  refine acall_of_aw Tryz.func243 rfl rfl rfl ?_
  refine rn ?_
  refine aw_cond rfl (fun hc16 => ?_) (fun hc16 => ?_)
  · refine rn ?_
    have hd : decSlow s = (65533, 0) := by
      unfold decSlow
      rw [if_pos (by simp at hc16; omega)]
    exact retq (.cons _ _ _ _ (.tmp _ _ rfl) (.cons _ _ _ _ (.tmp _ _ rfl) .nil)) (.refl _ _) ⟨rfl, by rw [hd]; rfl⟩
  · have h1 : 0 < s.size := by simp at hc16; omega
    refine rn ?_
    refine qq rfl rfl (qr_index_bt 0 rfl rfl (by omega)) ?_
    refine rn ?_
    refine qq rfl rfl (qr_indexAddr_int rfl rfl (bt_ge _ _) (bt_lt _ _)) ?_
    refine qq rfl rfl (qr_load_one rfl (show _ = some (.v (.int .u8 68)) from by rw [firstC_get (bt_ge s 0) (bt_lt s 0), hx])) ?_
    refine rn ?_
    refine aw_cond rfl (fun hc23 => ?_) (fun hc23 => ?_)
    · first | cases hc23 | exact absurd hc23 (by decide) | (exfalso; simp_all; done)
    · refine rn ?_
      refine qq rfl rfl (qr_indexAddr_int rfl rfl (by decide) (by decide)) ?_
      refine rn ?_
      refine aops_e rfl (oe_alloc rfl fun b9 => ?_)
      refine rn ?_
      refine aw_cond rfl (fun hc45 => ?_) (fun hc45 => ?_)
      · refine rn ?_
        have hd : decSlow s = (65533, 1) := by
          unfold decSlow
          rw [if_neg (by omega)]
          simp only [hx]
          rw [if_neg (by decide), if_pos (show (s.size : Int) < (68 : Int) % 8 from of_decide_eq_true hc45)]
        exact retq (.cons _ _ _ _ (.tmp _ _ rfl) (.cons _ _ _ _ (.tmp _ _ rfl) .nil)) (.drop1 _ _ _) ⟨rfl, by rw [hd]; rfl⟩
      · have h2 : 4 ≤ s.size := by
          have : ¬ ((s.size : Int) < 4) := of_decide_eq_false hc45
          omega
        refine rn ?_
        refine qq rfl rfl (qr_index_bt 1 rfl rfl (by omega)) ?_
        refine rn ?_
        refine asplit (fun hg14_4 => ?_) (fun hg14_4 => ?_)
        · refine rn ?_
          refine aw_cond rfl (fun hc57 => ?_) (fun hc57 => ?_)
          · refine rn ?_
            have hd : decSlow s = (65533, 1) := by
              unfold decSlow
              rw [if_neg (by omega)]
              simp only [hx]
              rw [if_neg (by decide), if_neg (show ¬ (s.size : Int) < (68 : Int) % 8 from of_decide_eq_false hc45), if_pos (show bt s 1 < accLo ((68 : Int) / 16).toNat ∨ accHi ((68 : Int) / 16).toNat < bt s 1 from by first | exact .inl (of_decide_eq_true hg14_4) | exact .inr (of_decide_eq_true hc57))]
            exact retq (.cons _ _ _ _ (.tmp _ _ rfl) (.cons _ _ _ _ (.tmp _ _ rfl) .nil)) (.drop1 _ _ _) ⟨rfl, by rw [hd]; rfl⟩
          · first | cases hc57 | exact absurd hc57 (by decide) | (exfalso; simp_all; done)
        · refine rn ?_
          refine aw_cond rfl (fun hc57 => ?_) (fun hc57 => ?_)
          · refine rn ?_
            have hd : decSlow s = (65533, 1) := by
              unfold decSlow
              rw [if_neg (by omega)]
              simp only [hx]
              rw [if_neg (by decide), if_neg (show ¬ (s.size : Int) < (68 : Int) % 8 from of_decide_eq_false hc45), if_pos (show bt s 1 < accLo ((68 : Int) / 16).toNat ∨ accHi ((68 : Int) / 16).toNat < bt s 1 from by first | exact .inl (of_decide_eq_true hg14_4) | exact .inr (of_decide_eq_true hc57))]
            exact retq (.cons _ _ _ _ (.tmp _ _ rfl) (.cons _ _ _ _ (.tmp _ _ rfl) .nil)) (.drop1 _ _ _) ⟨rfl, by rw [hd]; rfl⟩
          · refine rn ?_
            refine aw_cond rfl (fun hc59 => ?_) (fun hc59 => ?_)
            · first | cases hc59 | exact absurd hc59 (by decide) | (exfalso; simp_all; done)
            · refine rn ?_
              refine qq rfl rfl (qr_index_bt 2 rfl rfl (by omega)) ?_
              refine rn ?_
              refine asplit (fun hg19_2 => ?_) (fun hg19_2 => ?_)
              · refine rn ?_
                refine aw_cond rfl (fun hc75 => ?_) (fun hc75 => ?_)
                · refine rn ?_
                  have hd : decSlow s = (65533, 1) := by
                    unfold decSlow
                    rw [if_neg (by omega)]
                    simp only [hx]
                    rw [if_neg (by decide), if_neg (show ¬ (s.size : Int) < (68 : Int) % 8 from of_decide_eq_false hc45), if_neg (show ¬ (bt s 1 < accLo ((68 : Int) / 16).toNat ∨ accHi ((68 : Int) / 16).toNat < bt s 1) from fun q => q.elim (of_decide_eq_false hg14_4) (of_decide_eq_false hc57)), if_neg (by decide), if_pos (show bt s 2 < 128 ∨ 191 < bt s 2 from by first | exact .inl (of_decide_eq_true hg19_2) | exact .inr (of_decide_eq_true hc75))]
                  exact retq (.cons _ _ _ _ (.tmp _ _ rfl) (.cons _ _ _ _ (.tmp _ _ rfl) .nil)) (.drop1 _ _ _) ⟨rfl, by rw [hd]; rfl⟩
                · first | cases hc75 | exact absurd hc75 (by decide) | (exfalso; simp_all; done)
              · refine rn ?_
                refine aw_cond rfl (fun hc75 => ?_) (fun hc75 => ?_)
                · refine rn ?_
                  have hd : decSlow s = (65533, 1) := by
                    unfold decSlow
                    rw [if_neg (by omega)]
                    simp only [hx]
                    rw [if_neg (by decide), if_neg (show ¬ (s.size : Int) < (68 : Int) % 8 from of_decide_eq_false hc45), if_neg (show ¬ (bt s 1 < accLo ((68 : Int) / 16).toNat ∨ accHi ((68 : Int) / 16).toNat < bt s 1) from fun q => q.elim (of_decide_eq_false hg14_4) (of_decide_eq_false hc57)), if_neg (by decide), if_pos (show bt s 2 < 128 ∨ 191 < bt s 2 from by first | exact .inl (of_decide_eq_true hg19_2) | exact .inr (of_decide_eq_true hc75))]
                  exact retq (.cons _ _ _ _ (.tmp _ _ rfl) (.cons _ _ _ _ (.tmp _ _ rfl) .nil)) (.drop1 _ _ _) ⟨rfl, by rw [hd]; rfl⟩
                · refine rn ?_
                  refine aw_cond rfl (fun hc77 => ?_) (fun hc77 => ?_)
                  · first | cases hc77 | exact absurd hc77 (by decide) | (exfalso; simp_all; done)
                  · refine rn ?_
                    refine qq rfl rfl (qr_index_bt 3 rfl rfl (by omega)) ?_
                    refine rn ?_
                    refine asplit (fun hg24_2 => ?_) (fun hg24_2 => ?_)
                    · refine rn ?_
                      refine aw_cond rfl (fun hc98 => ?_) (fun hc98 => ?_)
                      · refine rn ?_
                        have hd : decSlow s = (65533, 1) := by
                          unfold decSlow
                          rw [if_neg (by omega)]
                          simp only [hx]
                          rw [if_neg (by decide), if_neg (show ¬ (s.size : Int) < (68 : Int) % 8 from of_decide_eq_false hc45), if_neg (show ¬ (bt s 1 < accLo ((68 : Int) / 16).toNat ∨ accHi ((68 : Int) / 16).toNat < bt s 1) from fun q => q.elim (of_decide_eq_false hg14_4) (of_decide_eq_false hc57)), if_neg (by decide), if_neg (show ¬ (bt s 2 < 128 ∨ 191 < bt s 2) from fun q => q.elim (of_decide_eq_false hg19_2) (of_decide_eq_false hc75)), if_neg (by decide), if_pos (show bt s 3 < 128 ∨ 191 < bt s 3 from by first | exact .inl (of_decide_eq_true hg24_2) | exact .inr (of_decide_eq_true hc98))]
                        exact retq (.cons _ _ _ _ (.tmp _ _ rfl) (.cons _ _ _ _ (.tmp _ _ rfl) .nil)) (.drop1 _ _ _) ⟨rfl, by rw [hd]; rfl⟩
                      · first | cases hc98 | exact absurd hc98 (by decide) | (exfalso; simp_all; done)
                    · refine rn ?_
                      refine aw_cond rfl (fun hc98 => ?_) (fun hc98 => ?_)
                      · refine rn ?_
                        have hd : decSlow s = (65533, 1) := by
                          unfold decSlow
                          rw [if_neg (by omega)]
                          simp only [hx]
                          rw [if_neg (by decide), if_neg (show ¬ (s.size : Int) < (68 : Int) % 8 from of_decide_eq_false hc45), if_neg (show ¬ (bt s 1 < accLo ((68 : Int) / 16).toNat ∨ accHi ((68 : Int) / 16).toNat < bt s 1) from fun q => q.elim (of_decide_eq_false hg14_4) (of_decide_eq_false hc57)), if_neg (by decide), if_neg (show ¬ (bt s 2 < 128 ∨ 191 < bt s 2) from fun q => q.elim (of_decide_eq_false hg19_2) (of_decide_eq_false hc75)), if_neg (by decide), if_pos (show bt s 3 < 128 ∨ 191 < bt s 3 from by first | exact .inl (of_decide_eq_true hg24_2) | exact .inr (of_decide_eq_true hc98))]
                        exact retq (.cons _ _ _ _ (.tmp _ _ rfl) (.cons _ _ _ _ (.tmp _ _ rfl) .nil)) (.drop1 _ _ _) ⟨rfl, by rw [hd]; rfl⟩
                      · refine rn ?_
                        have hd : decSlow s = (bI .or .i32 (bI .or .i32 (bI .or .i32 (rbits (bt s 0) 7 18) (rbits (bt s 1) 63 12)) (rbits (bt s 2) 63 6)) (rbits (bt s 3) 63 0), 4) := by
                          unfold decSlow
                          rw [if_neg (by omega)]
                          simp only [hx]
                          rw [if_neg (by decide), if_neg (show ¬ (s.size : Int) < (68 : Int) % 8 from of_decide_eq_false hc45), if_neg (show ¬ (bt s 1 < accLo ((68 : Int) / 16).toNat ∨ accHi ((68 : Int) / 16).toNat < bt s 1) from fun q => q.elim (of_decide_eq_false hg14_4) (of_decide_eq_false hc57)), if_neg (by decide), if_neg (show ¬ (bt s 2 < 128 ∨ 191 < bt s 2) from fun q => q.elim (of_decide_eq_false hg19_2) (of_decide_eq_false hc75)), if_neg (by decide), if_neg (show ¬ (bt s 3 < 128 ∨ 191 < bt s 3) from fun q => q.elim (of_decide_eq_false hg24_2) (of_decide_eq_false hc98))]
                        exact retq (.cons _ _ _ _ (.tmp _ _ rfl) (.cons _ _ _ _ (.tmp _ _ rfl) .nil)) (.drop1 _ _ _) ⟨rfl, by rw [hd]; rfl⟩
theorem decodeSlow (s : ByteArray) : ACall Tryz.prog 243 [.v (.string s)] [.glob 2 287 firstC, .glob 3 290 acceptC] (fun r h' => h' = [.glob 2 287 firstC, .glob 3 290 acceptC] ∧ r = .tup [.v (.int .i32 (decSlow s).1), iv (decSlow s).2]) := by
  rcases firstV_cases (bt s 0).toNat with hx | hx | hx | hx | hx | hx | hx | hx | hx
  · exact decodeSlow240 s hx
  · exact decodeSlow241 s hx
  · exact decodeSlow2 s hx
  · exact decodeSlow19 s hx
  · exact decodeSlow3 s hx
  · exact decodeSlow35 s hx
  · exact decodeSlow52 s hx
  · exact decodeSlow4 s hx
  · exact decodeSlow68 s hx
theorem decodeRune (s : ByteArray) : ACall Tryz.prog 241 [.v (.string s)] [.glob 2 287 firstC, .glob 3 290 acceptC] (fun r h' => h' = [.glob 2 287 firstC, .glob 3 290 acceptC] ∧ r = .tup [.v (.int .i32 (decStr s).1), iv (decStr s).2]) := by
  refine acall_of_aw Tryz.func241 rfl rfl rfl ?_
  refine rn ?_
  refine asplit (fun hg1_2 => ?_) (fun hg1_2 => ?_)
  · refine rn ?_
    have h1 : 0 < s.size := str_ne hg1_2
    refine qq rfl rfl (qr_index_bt 0 rfl rfl (by omega)) ?_
    refine rn ?_
    refine aw_cond rfl (fun hc10 => ?_) (fun hc10 => ?_)
    · refine rn ?_
      refine qq rfl rfl (qr_index_bt 0 rfl rfl (by omega)) ?_
      refine rn ?_
      have hd : decStr s = (bt s 0, 1) := by
        unfold decStr
        exact if_pos ⟨str_ne hg1_2, of_decide_eq_true hc10⟩
      exact retq (.cons _ _ _ _ (.tmp _ _ rfl) (.cons _ _ _ _ (.tmp _ _ rfl) .nil)) (.refl _ _) ⟨rfl, by rw [hd]; exact congrArg (fun c => AV.tup [.v (.int .i32 c), iv 1]) (bt_wrap s 0)⟩
    · refine rn ?_
      refine qv rfl rfl (qv_call rfl rfl (FCall.of_fun (decodeSlow s))) ?_
      refine rn ?_
      have hd : decStr s = decSlow s := by
        unfold decStr
        exact if_neg fun q => by first | exact str_eq hg1_2 q.1 | exact absurd q.2 (of_decide_eq_false hc10)
      exact retq (.cons _ _ _ _ (.tmp _ _ rfl) (.cons _ _ _ _ (.tmp _ _ rfl) .nil)) (.refl _ _) ⟨rfl, by rw [hd]; rfl⟩
  · refine rn ?_
    refine aw_cf rfl ?_
    refine rn ?_
    refine qv rfl rfl (qv_call rfl rfl (FCall.of_fun (decodeSlow s))) ?_
    refine rn ?_
    have hd : decStr s = decSlow s := by
      unfold decStr
      exact if_neg fun q => by first | exact str_eq hg1_2 q.1 | exact absurd q.2 (of_decide_eq_false hc10)
    exact retq (.cons _ _ _ _ (.tmp _ _ rfl) (.cons _ _ _ _ (.tmp _ _ rfl) .nil)) (.refl _ _) ⟨rfl, by rw [hd]; rfl⟩
end Go.Proofs
/- The walks of slices.Equal. Conditions: none. -/
set_option linter.unusedVariables false
set_option linter.unusedSimpArgs false
set_option maxRecDepth 10000
namespace Go.Proofs
open Go Go.Ab
attribute [local irreducible] QR QV OE aops aw dsoup dsoupM dalloc dallocM thn inBlk
open Go.H
theorem equalInt {f g : Bool} (l m : List Int) (hl : l.length ≤ 4611686018427387904) (hm : m.length ≤ 4611686018427387904) : ACall Tryz.prog 22 [.list f 1 (l.map intR), .list g 1 (m.map intR)] [] (fun r h' => h' = [] ∧ r = bv (eqF intEq l m)) := by
  refine acall_of_aw Tryz.func22 rfl rfl rfl ?_
  refine rn ?_
  refine aw_cond rfl (fun hc10 => ?_) (fun hc10 => ?_)
  · refine rn ?_
    have hne : (l.length == m.length) = false := beq_eq_false_iff_ne.2 fun q => by simp [q] at hc10
    exact retq (.cons _ _ _ _ (.tmp _ _ rfl) .nil) (.refl _ _) ⟨rfl, by rw [eqF, hne, Bool.false_and]; rfl⟩
  · have hlm : l.length = m.length := by simp at hc10; omega
    refine rn ?_
    refine aw_loop' (fun k : Nat => k ≤ l.length ∧ zall intEq l m = zall intEq (l.drop k) (m.drop k)) (fun k => ⟨[(13, iv k), (12, iv (l.map intR).length), (0, .list f 1 (l.map intR)), (1, .list g 1 (m.map intR))], [], []⟩) (fun k => l.length - k) 0 ⟨Nat.zero_le _, by simp⟩
      (ent_sub (.cons _ _ _ rfl (.cons _ _ _ rfl (.cons _ _ _ rfl (.cons _ _ _ rfl (.nil)))))) ?_
    rintro k ⟨hk, hz⟩
    refine rn ?_
    refine aw_cond rfl (fun hc14 => ?_) (fun hc14 => ?_)
    · have hk2 : k < l.length := by simpa using hc14
      have hk3 : k < m.length := by omega
      have hrow1 : (l.map intR)[k]? = some (intR l[k]) := by simp [hk2]
      have hrow2 : (m.map intR)[k]? = some (intR m[k]) := by simp [hk3]
      have hd1 := List.drop_eq_getElem_cons hk2
      have hd2 := List.drop_eq_getElem_cons hk3
      refine rn ?_
      refine aw_draw 8 rfl ?_
      refine rn ?_
      refine aw_cond rfl (fun hc24 => ?_) (fun hc24 => ?_)
      · refine rn ?_
        exact retq (.cons _ _ _ _ (.tmp _ _ rfl) .nil) (.refl _ _) ⟨rfl, by rw [eqF, hz, hd1, hd2, zall, show intEq l[k] m[k] = false from not_t hc24, Bool.false_and, Bool.and_false]; rfl⟩
      · refine rn ?_
        exact ⟨k + 1, ⟨by omega, by rw [hz, hd1, hd2, zall, show intEq l[k] m[k] = true from not_f hc24, Bool.true_and]⟩, (ent_sub (.cons _ _ _ rfl (.cons _ _ _ rfl (.cons _ _ _ rfl (.cons _ _ _ rfl (.nil)))))), by omega⟩
    · have hk3 : k = l.length := by
        have : l.length ≤ k := by simpa using hc14
        omega
      refine rn ?_
      exact retq (.cons _ _ _ _ (.tmp _ _ rfl) .nil) (.refl _ _) ⟨rfl, by rw [eqF, hz, hk3, List.drop_length, zall_nil, hlm, beq_self_eq_true]; rfl⟩
theorem equalSeen {f g : Bool} (l m : List Seen) (hl : l.length ≤ 4611686018427387904) (hm : m.length ≤ 4611686018427387904) : ACall Tryz.prog 234 [.list f 3 (l.map seenR), .list g 3 (m.map seenR)] [] (fun r h' => h' = [] ∧ r = bv (eqF seenEq l m)) := by
  refine acall_of_aw Tryz.func234 rfl rfl rfl ?_
  refine rn ?_
  refine aw_cond rfl (fun hc10 => ?_) (fun hc10 => ?_)
  · refine rn ?_
    have hne : (l.length == m.length) = false := beq_eq_false_iff_ne.2 fun q => by simp [q] at hc10
    exact retq (.cons _ _ _ _ (.tmp _ _ rfl) .nil) (.refl _ _) ⟨rfl, by rw [eqF, hne, Bool.false_and]; rfl⟩
  · have hlm : l.length = m.length := by simp at hc10; omega
    refine rn ?_
    refine aw_loop' (fun k : Nat => k ≤ l.length ∧ zall seenEq l m = zall seenEq (l.drop k) (m.drop k)) (fun k => ⟨[(13, iv k), (12, iv (l.map seenR).length), (0, .list f 3 (l.map seenR)), (1, .list g 3 (m.map seenR))], [], []⟩) (fun k => l.length - k) 0 ⟨Nat.zero_le _, by simp⟩
      (ent_sub (.cons _ _ _ rfl (.cons _ _ _ rfl (.cons _ _ _ rfl (.cons _ _ _ rfl (.nil)))))) ?_
    rintro k ⟨hk, hz⟩
    refine rn ?_
    refine aw_cond rfl (fun hc14 => ?_) (fun hc14 => ?_)
    · have hk2 : k < l.length := by simpa using hc14
      have hk3 : k < m.length := by omega
      have hrow1 : (l.map seenR)[k]? = some (seenR l[k]) := by simp [hk2]
      have hrow2 : (m.map seenR)[k]? = some (seenR m[k]) := by simp [hk3]
      have hd1 := List.drop_eq_getElem_cons hk2
      have hd2 := List.drop_eq_getElem_cons hk3
      refine rn ?_
      refine aw_draw 8 rfl ?_
      refine rn ?_
      refine aw_cond rfl (fun hc24 => ?_) (fun hc24 => ?_)
      · refine rn ?_
        exact retq (.cons _ _ _ _ (.tmp _ _ rfl) .nil) (.refl _ _) ⟨rfl, by rw [eqF, hz, hd1, hd2, zall, show seenEq l[k] m[k] = false from not_t hc24, Bool.false_and, Bool.and_false]; rfl⟩
      · refine rn ?_
        exact ⟨k + 1, ⟨by omega, by rw [hz, hd1, hd2, zall, show seenEq l[k] m[k] = true from not_f hc24, Bool.true_and]⟩, (ent_sub (.cons _ _ _ rfl (.cons _ _ _ rfl (.cons _ _ _ rfl (.cons _ _ _ rfl (.nil)))))), by omega⟩
    · have hk3 : k = l.length := by
        have : l.length ≤ k := by simpa using hc14
        omega
      refine rn ?_
      exact retq (.cons _ _ _ _ (.tmp _ _ rfl) .nil) (.refl _ _) ⟨rfl, by rw [eqF, hz, hk3, List.drop_length, zall_nil, hlm, beq_self_eq_true]; rfl⟩
end Go.Proofs
/- The walks of small functions. Conditions: none. -/
set_option linter.unusedVariables false
set_option linter.unusedSimpArgs false
set_option maxRecDepth 10000
namespace Go.Proofs
open Go Go.Ab
attribute [local irreducible] QR QV OE aops aw dsoup dsoupM dalloc dallocM thn inBlk
open Go.H
theorem levelCheck (l : Int) : ACall Tryz.prog 83 [iv l] [] (fun r h' => h' = [] ∧ r = iv (levB l)) := by
  refine acall_of_aw Tryz.func83 rfl rfl rfl ?_
  refine rn ?_
  refine asplit (fun hg1_2 => ?_) (fun hg1_2 => ?_)
  · refine rn ?_
    refine aw_ct rfl ?_
    refine rn ?_
    exact retq (.cons _ _ _ _ (.tmp _ _ rfl) .nil) (.refl _ _) ⟨rfl, congrArg iv (by simp_all [levB])⟩
  · refine rn ?_
    refine aw_cond rfl (fun hc8 => ?_) (fun hc8 => ?_)
    · refine rn ?_
      exact retq (.cons _ _ _ _ (.tmp _ _ rfl) .nil) (.refl _ _) ⟨rfl, congrArg iv (by simp_all [levB])⟩
    · refine rn ?_
      exact retq (.cons _ _ _ _ (.tmp _ _ rfl) .nil) (.refl _ _) ⟨rfl, congrArg iv (by simp_all [levB])⟩
theorem lexNumber (c : Int) : ACall Tryz.prog 197 [.v (.int .i32 c)] [] (fun r h' => h' = [] ∧ r = bv (numB c)) := by
  refine acall_of_aw Tryz.func197 rfl rfl rfl ?_
  refine rn ?_
  refine asplit (fun hg1_2 => ?_) (fun hg1_2 => ?_)
  · refine rn ?_
    exact retq (.cons _ _ _ _ (.tmp _ _ rfl) .nil) (.refl _ _) ⟨rfl, congrArg bv (by first | (simp only [numB, *, Bool.true_and, Bool.false_and, Bool.and_false, Bool.and_true, Bool.true_or, Bool.or_false, Bool.false_or, Bool.or_true, if_true, if_false, Bool.false_eq_true, Bool.not_true, Bool.not_false]; done) | (simp_all [numB]; done) | (simp_all [numB] <;> omega))⟩
  · refine rn ?_
    exact retq (.cons _ _ _ _ (.tmp _ _ rfl) .nil) (.refl _ _) ⟨rfl, congrArg bv (by first | (simp only [numB, *, Bool.true_and, Bool.false_and, Bool.and_false, Bool.and_true, Bool.true_or, Bool.or_false, Bool.false_or, Bool.or_true, if_true, if_false, Bool.false_eq_true, Bool.not_true, Bool.not_false]; done) | (simp_all [numB]; done) | (simp_all [numB] <;> omega))⟩
theorem lexLetter (c : Int) : ACall Tryz.prog 230 [.v (.int .i32 c)] [] (fun r h' => h' = [] ∧ r = bv (letB c)) := by
  refine acall_of_aw Tryz.func230 rfl rfl rfl ?_
  refine rn ?_
  refine asplit (fun hg1_2 => ?_) (fun hg1_2 => ?_)
  · refine rn ?_
    exact retq (.cons _ _ _ _ (.tmp _ _ rfl) .nil) (.refl _ _) ⟨rfl, congrArg bv (by first | (simp only [letB, *, Bool.true_and, Bool.false_and, Bool.and_false, Bool.and_true, Bool.true_or, Bool.or_false, Bool.false_or, Bool.or_true, if_true, if_false, Bool.false_eq_true, Bool.not_true, Bool.not_false]; done) | (simp_all [letB]; done) | (simp_all [letB] <;> omega))⟩
  · refine rn ?_
    refine asplit (fun hg1_5 => ?_) (fun hg1_5 => ?_)
    · refine rn ?_
      refine asplit (fun hg1_10 => ?_) (fun hg1_10 => ?_)
      · refine rn ?_
        exact retq (.cons _ _ _ _ (.tmp _ _ rfl) .nil) (.refl _ _) ⟨rfl, congrArg bv (by first | (simp only [letB, *, Bool.true_and, Bool.false_and, Bool.and_false, Bool.and_true, Bool.true_or, Bool.or_false, Bool.false_or, Bool.or_true, if_true, if_false, Bool.false_eq_true, Bool.not_true, Bool.not_false]; done) | (simp_all [letB]; done) | (simp_all [letB] <;> omega))⟩
      · refine rn ?_
        refine asplit (fun hg1_13 => ?_) (fun hg1_13 => ?_)
        · refine rn ?_
          refine asplit (fun hg1_18 => ?_) (fun hg1_18 => ?_)
          · refine rn ?_
            exact retq (.cons _ _ _ _ (.tmp _ _ rfl) .nil) (.refl _ _) ⟨rfl, congrArg bv (by first | (simp only [letB, *, Bool.true_and, Bool.false_and, Bool.and_false, Bool.and_true, Bool.true_or, Bool.or_false, Bool.false_or, Bool.or_true, if_true, if_false, Bool.false_eq_true, Bool.not_true, Bool.not_false]; done) | (simp_all [letB]; done) | (simp_all [letB] <;> omega))⟩
          · refine rn ?_
            exact retq (.cons _ _ _ _ (.tmp _ _ rfl) .nil) (.refl _ _) ⟨rfl, congrArg bv (by first | (simp only [letB, *, Bool.true_and, Bool.false_and, Bool.and_false, Bool.and_true, Bool.true_or, Bool.or_false, Bool.false_or, Bool.or_true, if_true, if_false, Bool.false_eq_true, Bool.not_true, Bool.not_false]; done) | (simp_all [letB]; done) | (simp_all [letB] <;> omega))⟩
        · refine rn ?_
          exact retq (.cons _ _ _ _ (.tmp _ _ rfl) .nil) (.refl _ _) ⟨rfl, congrArg bv (by first | (simp only [letB, *, Bool.true_and, Bool.false_and, Bool.and_false, Bool.and_true, Bool.true_or, Bool.or_false, Bool.false_or, Bool.or_true, if_true, if_false, Bool.false_eq_true, Bool.not_true, Bool.not_false]; done) | (simp_all [letB]; done) | (simp_all [letB] <;> omega))⟩
    · refine rn ?_
      refine asplit (fun hg1_13 => ?_) (fun hg1_13 => ?_)
      · refine rn ?_
        refine asplit (fun hg1_18 => ?_) (fun hg1_18 => ?_)
        · refine rn ?_
          exact retq (.cons _ _ _ _ (.tmp _ _ rfl) .nil) (.refl _ _) ⟨rfl, congrArg bv (by first | (simp only [letB, *, Bool.true_and, Bool.false_and, Bool.and_false, Bool.and_true, Bool.true_or, Bool.or_false, Bool.false_or, Bool.or_true, if_true, if_false, Bool.false_eq_true, Bool.not_true, Bool.not_false]; done) | (simp_all [letB]; done) | (simp_all [letB] <;> omega))⟩
        · refine rn ?_
          exact retq (.cons _ _ _ _ (.tmp _ _ rfl) .nil) (.refl _ _) ⟨rfl, congrArg bv (by first | (simp only [letB, *, Bool.true_and, Bool.false_and, Bool.and_false, Bool.and_true, Bool.true_or, Bool.or_false, Bool.false_or, Bool.or_true, if_true, if_false, Bool.false_eq_true, Bool.not_true, Bool.not_false]; done) | (simp_all [letB]; done) | (simp_all [letB] <;> omega))⟩
      · refine rn ?_
        exact retq (.cons _ _ _ _ (.tmp _ _ rfl) .nil) (.refl _ _) ⟨rfl, congrArg bv (by first | (simp only [letB, *, Bool.true_and, Bool.false_and, Bool.and_false, Bool.and_true, Bool.true_or, Bool.or_false, Bool.false_or, Bool.or_true, if_true, if_false, Bool.false_eq_true, Bool.not_true, Bool.not_false]; done) | (simp_all [letB]; done) | (simp_all [letB] <;> omega))⟩
theorem lexEither (c : Int) : ACall Tryz.prog 199 [.v (.int .i32 c)] [] (fun r h' => h' = [] ∧ r = bv (letB c || numB c)) := by
  refine acall_of_aw Tryz.func199 rfl rfl rfl ?_
  refine rn ?_
  refine qv rfl rfl (qv_call rfl rfl (pcall (lexLetter _) (Sbs.refl _))) ?_
  refine rn ?_
  refine asplit (fun hg1_2 => ?_) (fun hg1_2 => ?_)
  · refine rn ?_
    exact retq (.cons _ _ _ _ (.tmp _ _ rfl) .nil) (.refl _ _) ⟨rfl, congrArg bv (by first | (simp only [*, Bool.true_and, Bool.false_and, Bool.and_false, Bool.and_true, Bool.true_or, Bool.or_false, Bool.false_or, Bool.or_true, if_true, if_false, Bool.false_eq_true, Bool.not_true, Bool.not_false]; done) | (simp_all; done) | (simp_all <;> omega))⟩
  · refine rn ?_
    refine qv rfl rfl (qv_call rfl rfl (pcall (lexNumber _) (Sbs.refl _))) ?_
    refine rn ?_
    exact retq (.cons _ _ _ _ (.tmp _ _ rfl) .nil) (.refl _ _) ⟨rfl, congrArg bv (by first | (simp only [*, Bool.true_and, Bool.false_and, Bool.and_false, Bool.and_true, Bool.true_or, Bool.or_false, Bool.false_or, Bool.or_true, if_true, if_false, Bool.false_eq_true, Bool.not_true, Bool.not_false]; done) | (simp_all; done) | (simp_all <;> omega))⟩
theorem names (h : Hist) : ACall Tryz.prog 139 [.agg (histC h)] [] (fun r h' => h' = [] ∧ r = .agg (namesC h)) := by
  refine acall_of_aw Tryz.func139 rfl rfl rfl ?_
  refine rn ?_
  refine aops_e rfl (oe_box rfl rfl rfl fun b1 => ?_)
  refine aops_e rfl (oe_alloc rfl fun b2 => ?_)
  refine rn ?_
  exact retq (.cons _ _ _ _ (.agg _ _ _ _ _ _ _ rfl inferInstance inferInstance inferInstance rfl) .nil) (.drop [_, _] _ _) ⟨rfl, rfl⟩
theorem told (h : Hist) (sort : Nat) (n : Int) (l : List ByteArray) (hs : (namesC h)[sort]? = some (strsA l)) (hs4 : sort < 4) : ACall Tryz.prog 176 [.agg (histC h), iv sort, iv n] [] (fun r h' => h' = [] ∧ r = bv (toldB l n)) := by
  refine acall_of_aw Tryz.func176 rfl rfl rfl ?_
  refine rn ?_
  refine aops_e rfl (oe_box rfl rfl rfl fun b3 => ?_)
  refine rn ?_
  refine asplit (fun hg1_2 => ?_) (fun hg1_2 => ?_)
  · refine rn ?_
    refine qv rfl rfl (qv_call rfl rfl (pcall (names _) (Sbs.refl _))) ?_
    refine q1 ?_
    refine qq rfl rfl (qr_index_arr_one rfl rfl (by omega) (by simpa using hs)) ?_
    refine rn ?_
    exact retq (.cons _ _ _ _ (.tmp _ _ rfl) .nil) (.drop1 _ _ _) ⟨rfl, congrArg bv (by first | (simp only [toldB, *, Bool.true_and, Bool.false_and, Bool.and_false, Bool.and_true, Bool.true_or, Bool.or_false, Bool.false_or, Bool.or_true, if_true, if_false, Bool.false_eq_true, Bool.not_true, Bool.not_false]; done) | (simp_all [toldB]; done) | (simp_all [toldB] <;> omega))⟩
  · refine rn ?_
    exact retq (.cons _ _ _ _ (.tmp _ _ rfl) .nil) (.drop1 _ _ _) ⟨rfl, congrArg bv (by first | (simp only [toldB, *, Bool.true_and, Bool.false_and, Bool.and_false, Bool.and_true, Bool.true_or, Bool.or_false, Bool.false_or, Bool.or_true, if_true, if_false, Bool.false_eq_true, Bool.not_true, Bool.not_false]; done) | (simp_all [toldB]; done) | (simp_all [toldB] <;> omega))⟩
theorem version (h : Hist) (v : Ver) : ACall Tryz.prog 206 [.agg (histC h), .agg (verR v)] [] (fun r h' => h' = [] ∧ r = bv (verB h.ts v)) := by
  refine acall_of_aw Tryz.func206 rfl rfl rfl ?_
  refine rn ?_
  refine aops_e rfl (oe_box rfl rfl rfl fun b2 => ?_)
  refine aops_e rfl (oe_box rfl rfl rfl fun b3 => ?_)
  refine rn ?_
  refine aw_cond rfl (fun hc7 => ?_) (fun hc7 => ?_)
  · refine rn ?_
    exact retq (.cons _ _ _ _ (.tmp _ _ rfl) .nil) (.drop [_, _] _ _) ⟨rfl, congrArg bv (by first | (simp only [verB, *, Bool.true_and, Bool.false_and, Bool.and_false, Bool.and_true, Bool.true_or, Bool.or_false, Bool.false_or, Bool.or_true, if_true, if_false, Bool.false_eq_true, Bool.not_true, Bool.not_false]; done) | (simp_all [verB]; done) | (simp_all [verB] <;> omega))⟩
  · refine rn ?_
    refine qv rfl rfl (qv_call rfl rfl (pcall (told _ 0 _ _ rfl (by decide)) (Sbs.refl _))) ?_
    refine rn ?_
    refine asplit (fun hg3_4 => ?_) (fun hg3_4 => ?_)
    · refine rn ?_
      refine asplit (fun hg3_9 => ?_) (fun hg3_9 => ?_)
      · refine rn ?_
        exact retq (.cons _ _ _ _ (.tmp _ _ rfl) .nil) (.drop [_, _] _ _) ⟨rfl, congrArg bv (by first | (simp only [verB, *, Bool.true_and, Bool.false_and, Bool.and_false, Bool.and_true, Bool.true_or, Bool.or_false, Bool.false_or, Bool.or_true, if_true, if_false, Bool.false_eq_true, Bool.not_true, Bool.not_false]; done) | (simp_all [verB]; done) | (simp_all [verB] <;> omega))⟩
      · refine rn ?_
        exact retq (.cons _ _ _ _ (.tmp _ _ rfl) .nil) (.drop [_, _] _ _) ⟨rfl, congrArg bv (by first | (simp only [verB, *, Bool.true_and, Bool.false_and, Bool.and_false, Bool.and_true, Bool.true_or, Bool.or_false, Bool.false_or, Bool.or_true, if_true, if_false, Bool.false_eq_true, Bool.not_true, Bool.not_false]; done) | (simp_all [verB]; done) | (simp_all [verB] <;> omega))⟩
    · refine rn ?_
      exact retq (.cons _ _ _ _ (.tmp _ _ rfl) .nil) (.drop [_, _] _ _) ⟨rfl, congrArg bv (by first | (simp only [verB, *, Bool.true_and, Bool.false_and, Bool.and_false, Bool.and_true, Bool.true_or, Bool.or_false, Bool.false_or, Bool.or_true, if_true, if_false, Bool.false_eq_true, Bool.not_true, Bool.not_false]; done) | (simp_all [verB]; done) | (simp_all [verB] <;> omega))⟩
theorem sameEvent (a b : Ev) (ha : a.scan.length ≤ 4611686018427387904) (hb : b.scan.length ≤ 4611686018427387904) : ACall Tryz.prog 213 [.agg (evR a), .agg (evR b)] [] (fun r h' => h' = [] ∧ r = bv (evEq a b)) := by
  refine acall_of_aw Tryz.func213 rfl rfl rfl ?_
  refine rn ?_
  refine aops_e rfl (oe_box rfl rfl rfl fun b2 => ?_)
  refine aops_e rfl (oe_box rfl rfl rfl fun b3 => ?_)
  refine rn ?_
  refine asplit (fun hg1_5 => ?_) (fun hg1_5 => ?_)
  · refine rn ?_
    refine asplit (fun hg1_12 => ?_) (fun hg1_12 => ?_)
    · refine rn ?_
      refine asplit (fun hg1_19 => ?_) (fun hg1_19 => ?_)
      · refine rn ?_
        refine asplit (fun hg2_1 => ?_) (fun hg2_1 => ?_)
        · refine rn ?_
          refine asplit (fun hg2_8 => ?_) (fun hg2_8 => ?_)
          · refine rn ?_
            refine asplit (fun hg2_15 => ?_) (fun hg2_15 => ?_)
            · refine rn ?_
              refine asplit (fun hg2_22 => ?_) (fun hg2_22 => ?_)
              · refine rn ?_
                refine qv rfl rfl (qv_call rfl rfl (pcall (equalSeen _ _ ha hb) (Sbs.refl _))) ?_
                refine rn ?_
                exact retq (.cons _ _ _ _ (.tmp _ _ rfl) .nil) (.drop [_, _] _ _) ⟨rfl, congrArg bv (by first | (simp only [evEq, *, Bool.true_and, Bool.false_and, Bool.and_false, Bool.and_true, Bool.true_or, Bool.or_false, Bool.false_or, Bool.or_true, if_true, if_false, Bool.false_eq_true, Bool.not_true, Bool.not_false]; done) | (simp_all [evEq]; done) | (simp_all [evEq] <;> omega))⟩
              · refine rn ?_
                exact retq (.cons _ _ _ _ (.tmp _ _ rfl) .nil) (.drop [_, _] _ _) ⟨rfl, congrArg bv (by first | (simp only [evEq, *, Bool.true_and, Bool.false_and, Bool.and_false, Bool.and_true, Bool.true_or, Bool.or_false, Bool.false_or, Bool.or_true, if_true, if_false, Bool.false_eq_true, Bool.not_true, Bool.not_false]; done) | (simp_all [evEq]; done) | (simp_all [evEq] <;> omega))⟩
            · refine rn ?_
              exact retq (.cons _ _ _ _ (.tmp _ _ rfl) .nil) (.drop [_, _] _ _) ⟨rfl, congrArg bv (by first | (simp only [evEq, *, Bool.true_and, Bool.false_and, Bool.and_false, Bool.and_true, Bool.true_or, Bool.or_false, Bool.false_or, Bool.or_true, if_true, if_false, Bool.false_eq_true, Bool.not_true, Bool.not_false]; done) | (simp_all [evEq]; done) | (simp_all [evEq] <;> omega))⟩
          · refine rn ?_
            exact retq (.cons _ _ _ _ (.tmp _ _ rfl) .nil) (.drop [_, _] _ _) ⟨rfl, congrArg bv (by first | (simp only [evEq, *, Bool.true_and, Bool.false_and, Bool.and_false, Bool.and_true, Bool.true_or, Bool.or_false, Bool.false_or, Bool.or_true, if_true, if_false, Bool.false_eq_true, Bool.not_true, Bool.not_false]; done) | (simp_all [evEq]; done) | (simp_all [evEq] <;> omega))⟩
        · refine rn ?_
          exact retq (.cons _ _ _ _ (.tmp _ _ rfl) .nil) (.drop [_, _] _ _) ⟨rfl, congrArg bv (by first | (simp only [evEq, *, Bool.true_and, Bool.false_and, Bool.and_false, Bool.and_true, Bool.true_or, Bool.or_false, Bool.false_or, Bool.or_true, if_true, if_false, Bool.false_eq_true, Bool.not_true, Bool.not_false]; done) | (simp_all [evEq]; done) | (simp_all [evEq] <;> omega))⟩
      · refine rn ?_
        exact retq (.cons _ _ _ _ (.tmp _ _ rfl) .nil) (.drop [_, _] _ _) ⟨rfl, congrArg bv (by first | (simp only [evEq, *, Bool.true_and, Bool.false_and, Bool.and_false, Bool.and_true, Bool.true_or, Bool.or_false, Bool.false_or, Bool.or_true, if_true, if_false, Bool.false_eq_true, Bool.not_true, Bool.not_false]; done) | (simp_all [evEq]; done) | (simp_all [evEq] <;> omega))⟩
    · refine rn ?_
      exact retq (.cons _ _ _ _ (.tmp _ _ rfl) .nil) (.drop [_, _] _ _) ⟨rfl, congrArg bv (by first | (simp only [evEq, *, Bool.true_and, Bool.false_and, Bool.and_false, Bool.and_true, Bool.true_or, Bool.or_false, Bool.false_or, Bool.or_true, if_true, if_false, Bool.false_eq_true, Bool.not_true, Bool.not_false]; done) | (simp_all [evEq]; done) | (simp_all [evEq] <;> omega))⟩
  · refine rn ?_
    exact retq (.cons _ _ _ _ (.tmp _ _ rfl) .nil) (.drop [_, _] _ _) ⟨rfl, congrArg bv (by first | (simp only [evEq, *, Bool.true_and, Bool.false_and, Bool.and_false, Bool.and_true, Bool.true_or, Bool.or_false, Bool.false_or, Bool.or_true, if_true, if_false, Bool.false_eq_true, Bool.not_true, Bool.not_false]; done) | (simp_all [evEq]; done) | (simp_all [evEq] <;> omega))⟩
end Go.Proofs
/- The walks of package lex. Conditions: none. -/
set_option linter.unusedVariables false
set_option linter.unusedSimpArgs false
set_option maxRecDepth 10000
namespace Go.Proofs
open Go Go.Ab
attribute [local irreducible] QR QV OE aops aw dsoup dsoupM dalloc dallocM thn inBlk
open Go.H
theorem runeTold (s : ByteArray) (i : Nat) (c : Int) (bs bi bc : Nat) (hi : i ≤ s.size) : ACall Tryz.prog 240 [.v (.pointer (some ⟨bs, 0, none⟩)), .v (.pointer (some ⟨bi, 0, none⟩)), .v (.pointer (some ⟨bc, 0, none⟩))] [.box bs 9 [sv s], .box bi 3 [iv (i : Nat)], .box bc 21 [.v (.int .i32 c)], .glob 2 287 firstC, .glob 3 290 acceptC] (fun r h' => h' = [.box bs 9 [sv s], .box bi 3 [iv (i : Nat)], .box bc 21 [.v (.int .i32 c)], .glob 2 287 firstC, .glob 3 290 acceptC] ∧ r = .tup [.v (.int .i32 c), bv (toldF s i c)]) := by
  refine acall_of_aw Tryz.func240 rfl rfl rfl ?_
  refine aw_seq (aw_region ?_)
  refine q1 ?_
  refine q1 ?_
  refine aops_nil (thn_n ?_)
  refine aw_seq (aw_region ?_)
  refine q1 ?_
  refine q1 ?_
  refine qq rfl rfl (qr_slice_string_l rfl rfl hi) ?_
  refine qv rfl rfl (qv_call rfl rfl (FCall.quiet (R := fun x => x = _) (h2 := [_, _, _]) (List.perm_append_comm (l₁ := [_, _, _])) (FCall.of_fun (decodeRune (s.extract i s.size))))) ?_
  refine rn ?_
  refine asplit (fun hg2_3 => ?_) (fun hg2_3 => ?_)
  · refine rn ?_
    exact retq (.cons _ _ _ _ (.tmp _ _ rfl) (.cons _ _ _ _ (.tmp _ _ rfl) .nil)) (.refl _ _) ⟨rfl, congrArg (fun b => AV.tup [.v (.int .i32 c), bv b]) (by first | (simp only [toldF, *, Bool.true_and, Bool.false_and, Bool.and_false, Bool.and_true, Bool.true_or, Bool.or_false, Bool.false_or, Bool.or_true, if_true, if_false, Bool.false_eq_true, Bool.not_true, Bool.not_false]; done) | (simp_all [toldF]; done))⟩
  · refine rn ?_
    exact retq (.cons _ _ _ _ (.tmp _ _ rfl) (.cons _ _ _ _ (.tmp _ _ rfl) .nil)) (.refl _ _) ⟨rfl, congrArg (fun b => AV.tup [.v (.int .i32 c), bv b]) (by first | (simp only [toldF, *, Bool.true_and, Bool.false_and, Bool.and_false, Bool.and_true, Bool.true_or, Bool.or_false, Bool.false_or, Bool.or_true, if_true, if_false, Bool.false_eq_true, Bool.not_true, Bool.not_false]; done) | (simp_all [toldF]; done))⟩
theorem runesIter (s : ByteArray) (bs : Nat) (y : AV) (p : Nat → Int → Bool) (I : List Res → Prop) (J : Nat → List Res → Prop) (hy : ∀ (i bi bc it : Nat) (L : List Res), i < s.size → I L → FCall Tryz.prog y [iv i, .fn (.func 240) [] [.v (.pointer (some ⟨bs, 0, none⟩)), .v (.pointer (some ⟨bi, 0, none⟩)), .v (.pointer (some ⟨bc, 0, none⟩))]] (.box bc 21 [.v (.int .i32 (Utf8.decode s i).1)] :: .box bi 3 [iv (i : Nat)] :: .obj it (.stringIter s (i + (Utf8.decode s i).2)) :: .box bs 9 [sv s] :: L) (fun r h' => ∃ L', h' = .box bc 21 [.v (.int .i32 (Utf8.decode s i).1)] :: .box bi 3 [iv (i : Nat)] :: .obj it (.stringIter s (i + (Utf8.decode s i).2)) :: .box bs 9 [sv s] :: L' ∧ ((p i (Utf8.decode s i).1 = true ∧ r = bv true ∧ I L') ∨ (p i (Utf8.decode s i).1 = false ∧ r = bv false ∧ J i L')))) (L0 : List Res) (h0 : I L0) : ACall Tryz.prog 239 [y, .v (.pointer (some ⟨bs, 0, none⟩))] (.box bs 9 [sv s] :: L0) (fun r h' => ∃ L', h' = .box bs 9 [sv s] :: L' ∧ ((whileF s p 0 = s.size ∧ I L') ∨ (whileF s p 0 < s.size ∧ J (whileF s p 0) L'))) := by
  refine acall_of_aw Tryz.func239 rfl rfl rfl ?_
  refine rn ?_
  refine aops_e rfl (oe_range_str rfl rfl fun b7 => ?_)
  refine rn ?_
  refine aw_loop' (fun x : Nat × List Res => whileF s p 0 = whileF s p x.1 ∧ I x.2) (fun x => ⟨[(7, .v (.pointer (some ⟨b7, 0, none⟩))), (0, y), (1, .v (.pointer (some ⟨bs, 0, none⟩)))], .obj b7 (.stringIter s x.1) :: .box bs 9 [sv s] :: x.2, []⟩) (fun x => s.size - x.1) (0, L0) ⟨rfl, h0⟩
    (ent_sub (.cons _ _ _ rfl (.cons _ _ _ rfl (.cons _ _ _ rfl (.nil))))) ?_
  rintro ⟨k, L⟩ ⟨hw, hI⟩
  simp only at hw hI
  refine aw_seq (aw_region ?_)
  refine aops_e rfl (oe_next_str rfl rfl (fun hp => ?_) (fun hp => ?_))
  · refine rn ?_
    refine aw_cond rfl (fun hc9 => ?_) (fun hc9 => ?_)
    · first | cases hc9 | exact absurd hc9 (by decide) | (exfalso; simp_all; done)
    · refine rn ?_
      exact retq_n .nil (.drop1 _ _ _) ⟨_, rfl, .inl ⟨by rw [hw, whileF_end hp], hI⟩⟩
  · refine rn ?_
    refine aw_cond rfl (fun hc9 => ?_) (fun hc9 => ?_)
    · refine rn ?_
      refine aops_e rfl (oe_alloc rfl fun b3 => ?_)
      refine aops_e rfl (oe_alloc rfl fun b4 => ?_)
      first | refine aops_e rfl (oe_store_all rfl rfl rfl ?_) | refine aops_e rfl (oe_store rfl rfl rfl rfl (Nat.le_of_ble_eq_true rfl) ?_)
      first | refine aops_e rfl (oe_store_all rfl rfl rfl ?_) | refine aops_e rfl (oe_store rfl rfl rfl rfl (Nat.le_of_ble_eq_true rfl) ?_)
      refine aops_nil (thn_n ?_)
      refine aw_seq (aw_region ?_)
      refine q1 ?_
      refine q1 ?_
      refine aops_nil (thn_n ?_)
      refine aw_seq (aw_region ?_)
      refine q1 ?_
      refine q1 ?_
      refine q1 ?_
      refine aops_e rfl (oe_call rfl rfl (hy k b3 b4 b7 L hp hI) rfl ?_)
      rintro av h' ⟨L', rfl, ⟨hp1, rfl, hI2⟩ | ⟨hp1, rfl, hJ⟩⟩
      · refine rn ?_
        refine aw_cond rfl (fun hc17 => ?_) (fun hc17 => ?_)
        · first | cases hc17 | exact absurd hc17 (by decide) | (exfalso; simp_all; done)
        · refine rn ?_
          exact ⟨(k + (Utf8.decode s k).2, L'), ⟨hw.trans (whileF_go hp hp1), hI2⟩, (ent_trans (ent_drop (h1 := [_, _])) (ent_sub (.cons _ _ _ rfl (.cons _ _ _ rfl (.cons _ _ _ rfl (.nil)))))), by have := width_pos s k; simp only at hp ⊢; omega⟩
      · refine rn ?_
        refine aw_cond rfl (fun hc17 => ?_) (fun hc17 => ?_)
        · refine rn ?_
          exact retq .nil (.drop [_, _, _] _ _) ⟨_, rfl, .inr (by rw [hw, whileF_stop hp hp1]; exact ⟨hp, hJ⟩)⟩
        · first | cases hc17 | exact absurd hc17 (by decide) | (exfalso; simp_all; done)
    · first | cases hc9 | exact absurd hc9 (by decide) | (exfalso; simp_all; done)
end Go.Proofs
/- The walks of lex.while and lex.Word. Conditions: none. -/
set_option linter.unusedVariables false
set_option linter.unusedSimpArgs false
set_option maxRecDepth 10000
namespace Go.Proofs
open Go Go.Ab
attribute [local irreducible] QR QV OE aops aw dsoup dsoupM dalloc dallocM thn inBlk
open Go.H
theorem runes (s : ByteArray) (h : List Res) : ACall Tryz.prog 229 [sv s] h (fun r h' => ∃ bs, h' = .box bs 9 [sv s] :: h ∧ r = .fn (.func 239) [] [.v (.pointer (some ⟨bs, 0, none⟩))]) := by
  refine acall_of_aw Tryz.func229 rfl rfl rfl ?_
  refine rn ?_
  refine aops_e rfl (oe_box rfl rfl rfl fun b1 => ?_)
  refine rn ?_
  exact retq (.cons _ _ _ _ (.tmp _ _ rfl) .nil) (.refl _ _) ⟨_, rfl, rfl⟩
theorem lexWhile (s : ByteArray) (fv : AV) (g : Int → Bool) (hone : fv.cellsOf = some [fv]) (hgo : ∀ c h, FCall Tryz.prog fv [.v (.int .i32 c)] h (fun r h' => h' = h ∧ r = bv (g c))) : ACall Tryz.prog 198 [sv s, fv] [.glob 2 287 firstC, .glob 3 290 acceptC] (fun r h' => h' = [.glob 2 287 firstC, .glob 3 290 acceptC] ∧ r = iv (whileF s (okRune s g) 0 : Nat)) := by
  refine acall_of_aw Tryz.func198 rfl rfl rfl ?_
  refine rn ?_
  refine aops_e rfl (oe_box rfl hone rfl fun b3 => ?_)
  refine rn ?_
  refine aw_scope ?_
  refine rn ?_
  refine aops_e rfl (oe_alloc rfl fun b5 => ?_)
  refine rn ?_
  refine aops_e rfl (oe_call rfl rfl (FCall.of_fun (runes s _)) rfl ?_)
  rintro _ _ ⟨bs, rfl, rfl⟩
  refine rn ?_
  refine aw_rf (fun pend h'' => (pend = none ∨ pend = some (.exit 0)) ∧ h'' = .box bs 9 [sv s] :: .box b5 3 [iv (whileF s (okRune s g) 0 : Nat)] :: .box b3 263 [fv] :: [.glob 2 287 firstC, .glob 3 290 acceptC]) rfl (fun fn l q lp hlp => ?_) (fun q h'' hK => ?_) (fun q h'' c hK => ?_)
  · suffices hy : ∀ (i bi bc it : Nat) (L : List Res), i < s.size → L = lp .ready none :: .defs q :: .box b5 3 [iv s.size] :: .box b3 263 [fv] :: [.glob 2 287 firstC, .glob 3 290 acceptC] → FCall Tryz.prog (yv l) [iv i, .fn (.func 240) [] [.v (.pointer (some ⟨bs, 0, none⟩)), .v (.pointer (some ⟨bi, 0, none⟩)), .v (.pointer (some ⟨bc, 0, none⟩))]] (.box bc 21 [.v (.int .i32 (Utf8.decode s i).1)] :: .box bi 3 [iv (i : Nat)] :: .obj it (.stringIter s (i + (Utf8.decode s i).2)) :: .box bs 9 [sv s] :: L)
        (fun r h' => ∃ L', h' = .box bc 21 [.v (.int .i32 (Utf8.decode s i).1)] :: .box bi 3 [iv (i : Nat)] :: .obj it (.stringIter s (i + (Utf8.decode s i).2)) :: .box bs 9 [sv s] :: L' ∧ ((okRune s g i (Utf8.decode s i).1 = true ∧ r = bv true ∧ L' = lp .ready none :: .defs q :: .box b5 3 [iv s.size] :: .box b3 263 [fv] :: [.glob 2 287 firstC, .glob 3 290 acceptC]) ∨ (okRune s g i (Utf8.decode s i).1 = false ∧ r = bv false ∧ L' = lp .done (some (.exit 0)) :: .defs q :: .box b5 3 [iv (i : Nat)] :: .box b3 263 [fv] :: [.glob 2 287 firstC, .glob 3 290 acceptC]))) by
      refine ACall.mono (ACall.perm (pt2 _ _ _ _) (runesIter s bs (yv l) (okRune s g) _ (fun i L => L = lp .done (some (.exit 0)) :: .defs q :: .box b5 3 [iv (i : Nat)] :: .box b3 263 [fv] :: [.glob 2 287 firstC, .glob 3 290 acceptC]) hy _ rfl)) ?_
      rintro _ _ ⟨L', rfl, ⟨hw, rfl⟩ | ⟨hw, rfl⟩⟩
      · exact ⟨_, _, _, (pt2 _ _ _ _).symm, by simp, .inl rfl, by rw [hw]⟩
      · exact ⟨_, _, _, (pt2 _ _ _ _).symm, by simp, .inr rfl, rfl⟩
    rintro i bi bc it _ hi rfl
    refine FCall.perm (pt4 _ _ _ _ _ _) (FCall.permR (fcall_yl hlp rfl rfl ?_))
    refine rn ?_
    refine ⟨[(6, iv (i : Nat)), (7, .fn (.func 240) [] [.v (.pointer (some ⟨bs, 0, none⟩)), .v (.pointer (some ⟨bi, 0, none⟩)), .v (.pointer (some ⟨bc, 0, none⟩))]), (5, .v (.pointer (some ⟨b5, 0, none⟩))), (3, .v (.pointer (some ⟨b3, 0, none⟩)))], ent_sub (.cons _ _ _ rfl (.cons _ _ _ rfl (.cons _ _ _ rfl (.cons _ _ _ rfl .nil)))), ?_⟩
    refine rn ?_
    refine qv rfl rfl (qv_call rfl rfl (FCall.qt (FCall.of_acall (fs := []) (cs := [.v (.pointer (some ⟨bs, 0, none⟩)), .v (.pointer (some ⟨bi, 0, none⟩)), .v (.pointer (some ⟨bc, 0, none⟩))]) (runeTold s i (Utf8.decode s i).1 bs bi bc (by omega))) ((pt4 _ _ _ _ _ _).trans (.cons _ ((pt2 _ _ _ _).trans (.cons _ ((pt1 _ _ _).trans (.cons _ ((pt5 _ _ _ _ _ _ _).trans (.cons _ (pt5 _ _ _ _ _ _ _))))))))))) ?_
    refine rn ?_
    refine asplit (fun hg6_2 => ?_) (fun hg6_2 => ?_)
    · refine rn ?_
      refine aw_ct rfl ?_
      refine rn ?_
      exact round_e (.refl _) ⟨_, ((pt1 _ _ _).trans (.cons _ ((pt1 _ _ _).trans (.cons _ ((pt1 _ _ _).trans (.cons _ (pt1 _ _ _))))))), _, rfl, .inr ⟨by simp_all [okRune], rfl, rfl⟩⟩
    · refine rn ?_
      refine qv rfl rfl (qv_call rfl rfl (hgo _ _)) ?_
      refine rn ?_
      refine aw_cond rfl (fun hc28 => ?_) (fun hc28 => ?_)
      · refine rn ?_
        exact round_e (.refl _) ⟨_, ((pt1 _ _ _).trans (.cons _ ((pt1 _ _ _).trans (.cons _ ((pt1 _ _ _).trans (.cons _ (pt1 _ _ _))))))), _, rfl, .inr ⟨by simp_all [okRune], rfl, rfl⟩⟩
      · refine rn ?_
        exact round_n (.refl _) ⟨_, ((pt1 _ _ _).trans (.cons _ ((pt1 _ _ _).trans (.cons _ ((pt1 _ _ _).trans (.cons _ (pt1 _ _ _))))))), _, rfl, .inl ⟨by simp_all [okRune], rfl, rfl⟩⟩
  · obtain ⟨_, rfl⟩ := hK
    refine rn ?_
    refine ⟨fun l h => (by cases h), ?_⟩
    exact retqd (.refl _) (.cons _ _ _ _ (.tmp _ _ rfl) .nil) (.drop [_, _, _] _ _) ⟨rfl, rfl⟩
  · obtain ⟨hc, rfl⟩ := hK
    obtain rfl : c = .exit 0 := by simpa using hc
    refine rn ?_
    refine ⟨fun l h => (by cases h), ?_⟩
    exact retqd (.refl _) (.cons _ _ _ _ (.tmp _ _ rfl) .nil) (.drop [_, _, _] _ _) ⟨rfl, rfl⟩
theorem word (s : ByteArray) : ACall Tryz.prog 172 [sv s] [.glob 2 287 firstC, .glob 3 290 acceptC] (fun r h' => h' = [.glob 2 287 firstC, .glob 3 290 acceptC] ∧ r = bv (wordB s)) := by
  refine acall_of_aw Tryz.func172 rfl rfl rfl ?_
  refine rn ?_
  refine asplit (fun hg1_2 => ?_) (fun hg1_2 => ?_)
  · refine rn ?_
    refine asplit (fun hg1_7 => ?_) (fun hg1_7 => ?_)
    · refine rn ?_
      have h1 : 0 < s.size := str_ne hg1_2
      refine qq rfl rfl (qr_index_bt 0 rfl rfl (by omega)) ?_
      refine rn ?_
      refine qv rfl rfl (qv_call rfl rfl (pcall (lexNumber _) (Sbs.refl _))) ?_
      refine rn ?_
      refine asplit (fun hg1_14 => ?_) (fun hg1_14 => ?_)
      · refine rn ?_
        refine qv rfl rfl (qv_call rfl rfl (FCall.of_fun (lexWhile s (.fn (.func 199) [] []) eitherB rfl (fun c h => (pcall (lexEither c) (Sbs.refl _)))))) ?_
        refine rn ?_
        exact retq (.cons _ _ _ _ (.tmp _ _ rfl) .nil) (.refl _ _) ⟨rfl, congrArg bv (by first | (simp only [wordB, *, Bool.true_and, Bool.false_and, Bool.and_false, Bool.and_true, Bool.true_or, Bool.or_false, Bool.false_or, Bool.or_true, if_true, if_false, Bool.false_eq_true, Bool.not_true, Bool.not_false]; done) | (simp_all [wordB, bt_wrap]; done))⟩
      · refine rn ?_
        exact retq (.cons _ _ _ _ (.tmp _ _ rfl) .nil) (.refl _ _) ⟨rfl, congrArg bv (by first | (simp only [wordB, *, Bool.true_and, Bool.false_and, Bool.and_false, Bool.and_true, Bool.true_or, Bool.or_false, Bool.false_or, Bool.or_true, if_true, if_false, Bool.false_eq_true, Bool.not_true, Bool.not_false]; done) | (simp_all [wordB, bt_wrap]; done))⟩
    · refine rn ?_
      exact retq (.cons _ _ _ _ (.tmp _ _ rfl) .nil) (.refl _ _) ⟨rfl, congrArg bv (by first | (simp only [wordB, *, Bool.true_and, Bool.false_and, Bool.and_false, Bool.and_true, Bool.true_or, Bool.or_false, Bool.false_or, Bool.or_true, if_true, if_false, Bool.false_eq_true, Bool.not_true, Bool.not_false]; done) | (simp_all [wordB, bt_wrap]; done))⟩
  · refine rn ?_
    exact retq (.cons _ _ _ _ (.tmp _ _ rfl) .nil) (.refl _ _) ⟨rfl, congrArg bv (by first | (simp only [wordB, *, Bool.true_and, Bool.false_and, Bool.and_false, Bool.and_true, Bool.true_or, Bool.or_false, Bool.false_or, Bool.or_true, if_true, if_false, Bool.false_eq_true, Bool.not_true, Bool.not_false]; done) | (simp_all [wordB, bt_wrap]; done))⟩
end Go.Proofs
/- The walks of the closures of history.event. Conditions: none. -/
set_option linter.unusedVariables false
set_option linter.unusedSimpArgs false
set_option maxRecDepth 10000
namespace Go.Proofs
open Go Go.Ab
attribute [local irreducible] QR QV OE aops aw dsoup dsoupM dalloc dallocM thn inBlk
open Go.H
theorem event1 (e : Ev) (h : Hist) (be bh : Nat) : ACall Tryz.prog 204 [.v (.pointer (some ⟨be, 0, none⟩)), .v (.pointer (some ⟨bh, 0, none⟩))] [.box be 56 (evR e), .box bh 28 (histC h)] (fun r h' => h' = [.box be 56 (evR e), .box bh 28 (histC h)] ∧ r = .tup [.agg (evR ⟨0, 0, e.s, e.l, 0, ⟨0, 0⟩, 0, []⟩), bv (mayBegin h e)]) := by
  refine acall_of_aw Tryz.func204 rfl rfl rfl ?_
  refine rn ?_
  refine aops_e rfl (oe_alloc rfl fun b2 => ?_)
  refine rn ?_
  refine aw_drawS 16 [(b2, 56, _)] rfl (List.perm_append_comm (l₁ := [_])) ?_
  refine rn ?_
  refine dv rfl rfl (by exact qv_call rfl rfl (pcall (told _ 1 _ _ rfl (by decide)) (Sbs.refl _))) ?_
  refine rn ?_
  refine dsplit (fun hg1_9 => ?_) (fun hg1_9 => ?_)
  · refine rn ?_
    refine dv rfl rfl (by exact qv_call rfl rfl (pcall (levelCheck _) (Sbs.refl _))) ?_
    refine rn ?_
    refine dw 0 rfl rfl rfl rfl rfl (Nat.le_of_ble_eq_true rfl) ?_
    refine rn2 ?_
    show aops _ _ _ _ _ _ ⟨_, .box b2 56 _ :: _, _⟩
    refine rn ?_
    exact retq (.cons _ _ _ _ (.agg _ _ _ _ _ _ _ rfl inferInstance inferInstance inferInstance rfl) (.cons _ _ _ _ (.tmp _ _ rfl) .nil)) (.trans (.drop1 _ _ _) (vent_tup2 (by exact Sb.aggs (by exact ⟨.refl _, .refl _, .refl _, .refl _, .refl _, .refl _, .refl _, .refl _, .nil _ _, trivial⟩)) (by exact .refl _))) ⟨rfl, congrArg (fun b => AV.tup [.agg (evR ⟨0, 0, e.s, e.l, 0, ⟨0, 0⟩, 0, []⟩), bv b]) (by first | (simp only [mayBegin, *, Bool.true_and, Bool.false_and, Bool.and_false, Bool.and_true, Bool.true_or, Bool.or_false, Bool.false_or, Bool.or_true, if_true, if_false, Bool.false_eq_true, Bool.not_true, Bool.not_false]; done) | (simp_all [mayBegin]; done) | (simp_all [mayBegin] <;> omega))⟩
  · refine rn ?_
    refine dw 0 rfl rfl rfl rfl rfl (Nat.le_of_ble_eq_true rfl) ?_
    refine rn2 ?_
    show aops _ _ _ _ _ _ ⟨_, .box b2 56 _ :: _, _⟩
    refine rn ?_
    exact retq (.cons _ _ _ _ (.agg _ _ _ _ _ _ _ rfl inferInstance inferInstance inferInstance rfl) (.cons _ _ _ _ (.tmp _ _ rfl) .nil)) (.trans (.drop1 _ _ _) (vent_tup2 (by exact Sb.aggs (by exact ⟨.refl _, .refl _, .refl _, .refl _, .refl _, .refl _, .refl _, .refl _, .nil _ _, trivial⟩)) (by exact .refl _))) ⟨rfl, congrArg (fun b => AV.tup [.agg (evR ⟨0, 0, e.s, e.l, 0, ⟨0, 0⟩, 0, []⟩), bv b]) (by first | (simp only [mayBegin, *, Bool.true_and, Bool.false_and, Bool.and_false, Bool.and_true, Bool.true_or, Bool.or_false, Bool.false_or, Bool.or_true, if_true, if_false, Bool.false_eq_true, Bool.not_true, Bool.not_false]; done) | (simp_all [mayBegin]; done) | (simp_all [mayBegin] <;> omega))⟩
theorem event2 (e : Ev) (h : Hist) (be bh : Nat) : ACall Tryz.prog 205 [.v (.pointer (some ⟨be, 0, none⟩)), .v (.pointer (some ⟨bh, 0, none⟩))] [.box be 56 (evR e), .box bh 28 (histC h)] (fun r h' => h' = [.box be 56 (evR e), .box bh 28 (histC h)] ∧ r = .tup [.agg (evR ⟨0, 0, 0, 0, e.o, e.v, 0, []⟩), bv (mayWrite h e)]) := by
  refine acall_of_aw Tryz.func205 rfl rfl rfl ?_
  refine rn ?_
  refine aops_e rfl (oe_alloc rfl fun b2 => ?_)
  refine rn ?_
  refine aw_drawS 30 [(b2, 56, _)] rfl (List.perm_append_comm (l₁ := [_])) ?_
  refine rn ?_
  refine dv rfl rfl (by exact qv_call rfl rfl (pcall (told _ 2 _ _ rfl (by decide)) (Sbs.refl _))) ?_
  refine rn ?_
  refine dsplit (fun hg1_9 => ?_) (fun hg1_9 => ?_)
  · refine rn ?_
    refine dv rfl rfl (by exact qv_call rfl rfl (pcall (version h e.v) (Sbs.refl _))) ?_
    refine rn ?_
    refine dsplit (fun hg1_15 => ?_) (fun hg1_15 => ?_)
    · refine rn ?_
      refine dsplit (fun hg1_23 => ?_) (fun hg1_23 => ?_)
      · refine rn ?_
        refine dw 0 rfl rfl rfl rfl rfl (Nat.le_of_ble_eq_true rfl) ?_
        refine rn2 ?_
        show aops _ _ _ _ _ _ ⟨_, .box b2 56 _ :: _, _⟩
        refine rn ?_
        exact retq (.cons _ _ _ _ (.agg _ _ _ _ _ _ _ rfl inferInstance inferInstance inferInstance rfl) (.cons _ _ _ _ (.tmp _ _ rfl) .nil)) (.trans (.drop1 _ _ _) (vent_tup2 (by exact Sb.aggs (by exact ⟨.refl _, .refl _, .refl _, .refl _, .refl _, .refl _, .refl _, .refl _, .nil _ _, trivial⟩)) (by exact .refl _))) ⟨rfl, congrArg (fun b => AV.tup [.agg (evR ⟨0, 0, 0, 0, e.o, e.v, 0, []⟩), bv b]) (by first | (simp only [mayWrite, *, Bool.true_and, Bool.false_and, Bool.and_false, Bool.and_true, Bool.true_or, Bool.or_false, Bool.false_or, Bool.or_true, if_true, if_false, Bool.false_eq_true, Bool.not_true, Bool.not_false]; done) | (simp_all [mayWrite]; done) | (simp_all [mayWrite] <;> omega))⟩
      · refine rn ?_
        refine dw 0 rfl rfl rfl rfl rfl (Nat.le_of_ble_eq_true rfl) ?_
        refine rn2 ?_
        show aops _ _ _ _ _ _ ⟨_, .box b2 56 _ :: _, _⟩
        refine rn ?_
        exact retq (.cons _ _ _ _ (.agg _ _ _ _ _ _ _ rfl inferInstance inferInstance inferInstance rfl) (.cons _ _ _ _ (.tmp _ _ rfl) .nil)) (.trans (.drop1 _ _ _) (vent_tup2 (by exact Sb.aggs (by exact ⟨.refl _, .refl _, .refl _, .refl _, .refl _, .refl _, .refl _, .refl _, .nil _ _, trivial⟩)) (by exact .refl _))) ⟨rfl, congrArg (fun b => AV.tup [.agg (evR ⟨0, 0, 0, 0, e.o, e.v, 0, []⟩), bv b]) (by first | (simp only [mayWrite, *, Bool.true_and, Bool.false_and, Bool.and_false, Bool.and_true, Bool.true_or, Bool.or_false, Bool.false_or, Bool.or_true, if_true, if_false, Bool.false_eq_true, Bool.not_true, Bool.not_false]; done) | (simp_all [mayWrite]; done) | (simp_all [mayWrite] <;> omega))⟩
    · refine rn ?_
      refine dw 0 rfl rfl rfl rfl rfl (Nat.le_of_ble_eq_true rfl) ?_
      refine rn2 ?_
      show aops _ _ _ _ _ _ ⟨_, .box b2 56 _ :: _, _⟩
      refine rn ?_
      exact retq (.cons _ _ _ _ (.agg _ _ _ _ _ _ _ rfl inferInstance inferInstance inferInstance rfl) (.cons _ _ _ _ (.tmp _ _ rfl) .nil)) (.trans (.drop1 _ _ _) (vent_tup2 (by exact Sb.aggs (by exact ⟨.refl _, .refl _, .refl _, .refl _, .refl _, .refl _, .refl _, .refl _, .nil _ _, trivial⟩)) (by exact .refl _))) ⟨rfl, congrArg (fun b => AV.tup [.agg (evR ⟨0, 0, 0, 0, e.o, e.v, 0, []⟩), bv b]) (by first | (simp only [mayWrite, *, Bool.true_and, Bool.false_and, Bool.and_false, Bool.and_true, Bool.true_or, Bool.or_false, Bool.false_or, Bool.or_true, if_true, if_false, Bool.false_eq_true, Bool.not_true, Bool.not_false]; done) | (simp_all [mayWrite]; done) | (simp_all [mayWrite] <;> omega))⟩
  · refine rn ?_
    refine dw 0 rfl rfl rfl rfl rfl (Nat.le_of_ble_eq_true rfl) ?_
    refine rn2 ?_
    show aops _ _ _ _ _ _ ⟨_, .box b2 56 _ :: _, _⟩
    refine rn ?_
    exact retq (.cons _ _ _ _ (.agg _ _ _ _ _ _ _ rfl inferInstance inferInstance inferInstance rfl) (.cons _ _ _ _ (.tmp _ _ rfl) .nil)) (.trans (.drop1 _ _ _) (vent_tup2 (by exact Sb.aggs (by exact ⟨.refl _, .refl _, .refl _, .refl _, .refl _, .refl _, .refl _, .refl _, .nil _ _, trivial⟩)) (by exact .refl _))) ⟨rfl, congrArg (fun b => AV.tup [.agg (evR ⟨0, 0, 0, 0, e.o, e.v, 0, []⟩), bv b]) (by first | (simp only [mayWrite, *, Bool.true_and, Bool.false_and, Bool.and_false, Bool.and_true, Bool.true_or, Bool.or_false, Bool.false_or, Bool.or_true, if_true, if_false, Bool.false_eq_true, Bool.not_true, Bool.not_false]; done) | (simp_all [mayWrite]; done) | (simp_all [mayWrite] <;> omega))⟩
theorem event3 (e : Ev) (h : Hist) (be bh : Nat) : ACall Tryz.prog 207 [.v (.pointer (some ⟨be, 0, none⟩)), .v (.pointer (some ⟨bh, 0, none⟩))] [.box be 56 (evR e), .box bh 28 (histC h)] (fun r h' => h' = [.box be 56 (evR e), .box bh 28 (histC h)] ∧ r = .tup [.agg (evR ⟨0, 0, 0, 0, e.o, e.v, 0, []⟩), bv (mayRead h e)]) := by
  refine acall_of_aw Tryz.func207 rfl rfl rfl ?_
  refine rn ?_
  refine aops_e rfl (oe_alloc rfl fun b2 => ?_)
  refine rn ?_
  refine aw_drawS 16 [(b2, 56, _)] rfl (List.perm_append_comm (l₁ := [_])) ?_
  refine rn ?_
  refine dv rfl rfl (by exact qv_call rfl rfl (pcall (told _ 2 _ _ rfl (by decide)) (Sbs.refl _))) ?_
  refine rn ?_
  refine dsplit (fun hg1_9 => ?_) (fun hg1_9 => ?_)
  · refine rn ?_
    refine dv rfl rfl (by exact qv_call rfl rfl (pcall (version h e.v) (Sbs.refl _))) ?_
    refine rn ?_
    refine dw 0 rfl rfl rfl rfl rfl (Nat.le_of_ble_eq_true rfl) ?_
    refine rn2 ?_
    show aops _ _ _ _ _ _ ⟨_, .box b2 56 _ :: _, _⟩
    refine rn ?_
    exact retq (.cons _ _ _ _ (.agg _ _ _ _ _ _ _ rfl inferInstance inferInstance inferInstance rfl) (.cons _ _ _ _ (.tmp _ _ rfl) .nil)) (.trans (.drop1 _ _ _) (vent_tup2 (by exact Sb.aggs (by exact ⟨.refl _, .refl _, .refl _, .refl _, .refl _, .refl _, .refl _, .refl _, .nil _ _, trivial⟩)) (by exact .refl _))) ⟨rfl, congrArg (fun b => AV.tup [.agg (evR ⟨0, 0, 0, 0, e.o, e.v, 0, []⟩), bv b]) (by first | (simp only [mayRead, *, Bool.true_and, Bool.false_and, Bool.and_false, Bool.and_true, Bool.true_or, Bool.or_false, Bool.false_or, Bool.or_true, if_true, if_false, Bool.false_eq_true, Bool.not_true, Bool.not_false]; done) | (simp_all [mayRead]; done) | (simp_all [mayRead] <;> omega))⟩
  · refine rn ?_
    refine dw 0 rfl rfl rfl rfl rfl (Nat.le_of_ble_eq_true rfl) ?_
    refine rn2 ?_
    show aops _ _ _ _ _ _ ⟨_, .box b2 56 _ :: _, _⟩
    refine rn ?_
    exact retq (.cons _ _ _ _ (.agg _ _ _ _ _ _ _ rfl inferInstance inferInstance inferInstance rfl) (.cons _ _ _ _ (.tmp _ _ rfl) .nil)) (.trans (.drop1 _ _ _) (vent_tup2 (by exact Sb.aggs (by exact ⟨.refl _, .refl _, .refl _, .refl _, .refl _, .refl _, .refl _, .refl _, .nil _ _, trivial⟩)) (by exact .refl _))) ⟨rfl, congrArg (fun b => AV.tup [.agg (evR ⟨0, 0, 0, 0, e.o, e.v, 0, []⟩), bv b]) (by first | (simp only [mayRead, *, Bool.true_and, Bool.false_and, Bool.and_false, Bool.and_true, Bool.true_or, Bool.or_false, Bool.false_or, Bool.or_true, if_true, if_false, Bool.false_eq_true, Bool.not_true, Bool.not_false]; done) | (simp_all [mayRead]; done) | (simp_all [mayRead] <;> omega))⟩
theorem event41 (s : Seen) (h : Hist) (bh : Nat) : ACall Tryz.prog 209 [.agg (seenR s), .v (.pointer (some ⟨bh, 0, none⟩))] [.box bh 28 (histC h)] (fun r h' => h' = [.box bh 28 (histC h)] ∧ r = bv (seenB h s)) := by
  refine acall_of_aw Tryz.func209 rfl rfl rfl ?_
  refine rn ?_
  refine aops_e rfl (oe_box rfl rfl rfl fun b2 => ?_)
  refine rn ?_
  refine qv rfl rfl (qv_call rfl rfl (pcall (told _ 2 _ _ rfl (by decide)) (Sbs.refl _))) ?_
  refine rn ?_
  refine asplit (fun hg1_4 => ?_) (fun hg1_4 => ?_)
  · refine rn ?_
    refine qv rfl rfl (qv_call rfl rfl (pcall (version h s.v) (Sbs.refl _))) ?_
    refine rn ?_
    exact retq (.cons _ _ _ _ (.tmp _ _ rfl) .nil) (.drop1 _ _ _) ⟨rfl, congrArg bv (by first | (simp only [seenB, *, Bool.true_and, Bool.false_and, Bool.and_false, Bool.and_true, Bool.true_or, Bool.or_false, Bool.false_or, Bool.or_true, if_true, if_false, Bool.false_eq_true, Bool.not_true, Bool.not_false]; done) | (simp_all [seenB]; done) | (simp_all [seenB] <;> omega))⟩
  · refine rn ?_
    exact retq (.cons _ _ _ _ (.tmp _ _ rfl) .nil) (.drop1 _ _ _) ⟨rfl, congrArg bv (by first | (simp only [seenB, *, Bool.true_and, Bool.false_and, Bool.and_false, Bool.and_true, Bool.true_or, Bool.or_false, Bool.false_or, Bool.or_true, if_true, if_false, Bool.false_eq_true, Bool.not_true, Bool.not_false]; done) | (simp_all [seenB]; done) | (simp_all [seenB] <;> omega))⟩
theorem event4 (e : Ev) (h : Hist) (be bh : Nat) (hl : e.scan.length ≤ 4611686018427387904) : ACall Tryz.prog 208 [.v (.pointer (some ⟨bh, 0, none⟩)), .v (.pointer (some ⟨be, 0, none⟩))] [.box be 56 (evR e), .box bh 28 (histC h)] (fun r h' => h' = [.box be 56 (evR e), .box bh 28 (histC h)] ∧ r = .tup [.agg (evR ⟨0, 0, 0, 0, 0, ⟨0, 0⟩, e.p, e.scan⟩), bv (mayScan h e)]) := by
  refine acall_of_aw Tryz.func208 rfl rfl rfl ?_
  refine rn ?_
  refine aops_e rfl (oe_alloc rfl fun b2 => ?_)
  refine rn ?_
  refine aw_drawS 22 [(b2, 56, _)] rfl (List.perm_append_comm (l₁ := [_])) ?_
  refine rn ?_
  refine dv rfl rfl (by exact qv_call rfl rfl (pcall (told _ 3 _ _ rfl (by decide)) (Sbs.refl _))) ?_
  refine rn ?_
  refine dsplit (fun hg2_9 => ?_) (fun hg2_9 => ?_)
  · refine rn ?_
    refine dsplit (fun hg2_15 => ?_) (fun hg2_15 => ?_)
    · refine rn ?_
      refine dv rfl rfl (by exact qv_call rfl rfl (FCall.of_fun (allSeen e.scan (.fn (.func 209) [] [.v (.pointer (some ⟨bh, 0, none⟩))]) (seenB h) [.box be 56 (evR e), .box bh 28 (histC h)] rfl (fun s hs => FCall.quiet (R := fun x => x = bv (seenB h s)) (h2 := [_]) (List.perm_append_comm (l₁ := [_])) (FCall.of_acall (fs := []) (cs := [.v (.pointer (some ⟨bh, 0, none⟩))]) (event41 s h bh))) hl))) ?_
      refine rn ?_
      refine dw 0 rfl rfl rfl rfl rfl (Nat.le_of_ble_eq_true rfl) ?_
      refine rn2 ?_
      show aops _ _ _ _ _ _ ⟨_, .box b2 56 _ :: _, _⟩
      refine rn ?_
      exact retq (.cons _ _ _ _ (.agg _ _ _ _ _ _ _ rfl inferInstance inferInstance inferInstance rfl) (.cons _ _ _ _ (.tmp _ _ rfl) .nil)) (.trans (.drop1 _ _ _) (vent_tup2 (by exact Sb.aggs (by exact ⟨.refl _, .refl _, .refl _, .refl _, .refl _, .refl _, .refl _, .refl _, .refl _, trivial⟩)) (by exact .refl _))) ⟨rfl, congrArg (fun b => AV.tup [.agg (evR ⟨0, 0, 0, 0, 0, ⟨0, 0⟩, e.p, e.scan⟩), bv b]) (by first | (simp only [mayScan, *, Bool.true_and, Bool.false_and, Bool.and_false, Bool.and_true, Bool.true_or, Bool.or_false, Bool.false_or, Bool.or_true, if_true, if_false, Bool.false_eq_true, Bool.not_true, Bool.not_false]; done) | (simp_all [mayScan]; done) | (simp_all [mayScan] <;> omega))⟩
    · refine rn ?_
      refine dw 0 rfl rfl rfl rfl rfl (Nat.le_of_ble_eq_true rfl) ?_
      refine rn2 ?_
      show aops _ _ _ _ _ _ ⟨_, .box b2 56 _ :: _, _⟩
      refine rn ?_
      exact retq (.cons _ _ _ _ (.agg _ _ _ _ _ _ _ rfl inferInstance inferInstance inferInstance rfl) (.cons _ _ _ _ (.tmp _ _ rfl) .nil)) (.trans (.drop1 _ _ _) (vent_tup2 (by exact Sb.aggs (by exact ⟨.refl _, .refl _, .refl _, .refl _, .refl _, .refl _, .refl _, .refl _, .refl _, trivial⟩)) (by exact .refl _))) ⟨rfl, congrArg (fun b => AV.tup [.agg (evR ⟨0, 0, 0, 0, 0, ⟨0, 0⟩, e.p, e.scan⟩), bv b]) (by first | (simp only [mayScan, *, Bool.true_and, Bool.false_and, Bool.and_false, Bool.and_true, Bool.true_or, Bool.or_false, Bool.false_or, Bool.or_true, if_true, if_false, Bool.false_eq_true, Bool.not_true, Bool.not_false]; done) | (simp_all [mayScan]; done) | (simp_all [mayScan] <;> omega))⟩
  · refine rn ?_
    refine dw 0 rfl rfl rfl rfl rfl (Nat.le_of_ble_eq_true rfl) ?_
    refine rn2 ?_
    show aops _ _ _ _ _ _ ⟨_, .box b2 56 _ :: _, _⟩
    refine rn ?_
    exact retq (.cons _ _ _ _ (.agg _ _ _ _ _ _ _ rfl inferInstance inferInstance inferInstance rfl) (.cons _ _ _ _ (.tmp _ _ rfl) .nil)) (.trans (.drop1 _ _ _) (vent_tup2 (by exact Sb.aggs (by exact ⟨.refl _, .refl _, .refl _, .refl _, .refl _, .refl _, .refl _, .refl _, .refl _, trivial⟩)) (by exact .refl _))) ⟨rfl, congrArg (fun b => AV.tup [.agg (evR ⟨0, 0, 0, 0, 0, ⟨0, 0⟩, e.p, e.scan⟩), bv b]) (by first | (simp only [mayScan, *, Bool.true_and, Bool.false_and, Bool.and_false, Bool.and_true, Bool.true_or, Bool.or_false, Bool.false_or, Bool.or_true, if_true, if_false, Bool.false_eq_true, Bool.not_true, Bool.not_false]; done) | (simp_all [mayScan]; done) | (simp_all [mayScan] <;> omega))⟩
theorem event5  : ACall Tryz.prog 211 [] [] (fun r h' => h' = [] ∧ r = .tup [.agg (evR ⟨0, 0, 0, 0, 0, ⟨0, 0⟩, 0, []⟩), bv true]) := by
  refine acall_of_aw Tryz.func211 rfl rfl rfl ?_
  refine rn ?_
  refine aops_e rfl (oe_alloc rfl fun b0 => ?_)
  refine rn ?_
  exact retq (.cons _ _ _ _ (.agg _ _ _ _ _ _ _ rfl inferInstance inferInstance inferInstance rfl) (.cons _ _ _ _ (.tmp _ _ rfl) .nil)) (.trans (.drop1 _ _ _) (vent_tup2 (by exact Sb.aggs (by exact ⟨.refl _, .refl _, .refl _, .refl _, .refl _, .refl _, .refl _, .refl _, .nil _ _, trivial⟩)) (by exact .refl _))) ⟨rfl, congrArg (fun b => AV.tup [.agg (evR ⟨0, 0, 0, 0, 0, ⟨0, 0⟩, 0, []⟩), bv b]) (by rfl)⟩
theorem event6  : ACall Tryz.prog 212 [] [] (fun r h' => h' = [] ∧ r = .tup [.agg (evR ⟨0, 0, 0, 0, 0, ⟨0, 0⟩, 0, []⟩), bv true]) := by
  refine acall_of_aw Tryz.func212 rfl rfl rfl ?_
  refine rn ?_
  refine aops_e rfl (oe_alloc rfl fun b0 => ?_)
  refine rn ?_
  exact retq (.cons _ _ _ _ (.agg _ _ _ _ _ _ _ rfl inferInstance inferInstance inferInstance rfl) (.cons _ _ _ _ (.tmp _ _ rfl) .nil)) (.trans (.drop1 _ _ _) (vent_tup2 (by exact Sb.aggs (by exact ⟨.refl _, .refl _, .refl _, .refl _, .refl _, .refl _, .refl _, .refl _, .nil _ _, trivial⟩)) (by exact .refl _))) ⟨rfl, congrArg (fun b => AV.tup [.agg (evR ⟨0, 0, 0, 0, 0, ⟨0, 0⟩, 0, []⟩), bv b]) (by rfl)⟩
end Go.Proofs
/- The walk of history.event. Conditions: none. -/
set_option linter.unusedVariables false
set_option linter.unusedSimpArgs false
set_option maxRecDepth 10000
namespace Go.Proofs
open Go Go.Ab
attribute [local irreducible] QR QV OE aops aw dsoup dsoupM dalloc dallocM thn inBlk
open Go.H
theorem eventTab (h : Hist) (e : Ev) (b2 b3 k : Nat) (hl : e.scan.length ≤ 4611686018427387904) (hk : e.kind = k) (h1 : 1 ≤ k) (h7 : k < 7) :
    ∃ av, (([.v .nilFunc, .fn (.func 204) [] [.v (.pointer (some ⟨b3, 0, none⟩)), .v (.pointer (some ⟨b2, 0, none⟩))], .fn (.func 205) [] [.v (.pointer (some ⟨b3, 0, none⟩)), .v (.pointer (some ⟨b2, 0, none⟩))], .fn (.func 207) [] [.v (.pointer (some ⟨b3, 0, none⟩)), .v (.pointer (some ⟨b2, 0, none⟩))], .fn (.func 208) [] [.v (.pointer (some ⟨b2, 0, none⟩)), .v (.pointer (some ⟨b3, 0, none⟩))], .fn (.func 211) [] [], .fn (.func 212) [] []]) : List AV)[k * 1]? = some av ∧ FCall Tryz.prog av [] [.box b3 56 (evR e), .box b2 28 (histC h)] (fun r h' => h' = [.box b3 56 (evR e), .box b2 28 (histC h)] ∧ r = .tup [.agg (evR (cand h e).1), bv (cand h e).2]) := by
  rcases (by omega : k = 1 ∨ k = 2 ∨ k = 3 ∨ k = 4 ∨ k = 5 ∨ k = 6) with rfl | rfl | rfl | rfl | rfl | rfl
  · refine ⟨_, rfl, ?_⟩
    have hc : cand h e = (⟨0, 0, e.s, e.l, 0, ⟨0, 0⟩, 0, []⟩, mayBegin h e) := by unfold cand; rw [hk]; rfl
    rw [hc]
    exact FCall.of_acall (fs := []) (cs := [.v (.pointer (some ⟨b3, 0, none⟩)), .v (.pointer (some ⟨b2, 0, none⟩))]) (event1 e h b3 b2)
  · refine ⟨_, rfl, ?_⟩
    have hc : cand h e = (⟨0, 0, 0, 0, e.o, e.v, 0, []⟩, mayWrite h e) := by unfold cand; rw [hk]; rfl
    rw [hc]
    exact FCall.of_acall (fs := []) (cs := [.v (.pointer (some ⟨b3, 0, none⟩)), .v (.pointer (some ⟨b2, 0, none⟩))]) (event2 e h b3 b2)
  · refine ⟨_, rfl, ?_⟩
    have hc : cand h e = (⟨0, 0, 0, 0, e.o, e.v, 0, []⟩, mayRead h e) := by unfold cand; rw [hk]; rfl
    rw [hc]
    exact FCall.of_acall (fs := []) (cs := [.v (.pointer (some ⟨b3, 0, none⟩)), .v (.pointer (some ⟨b2, 0, none⟩))]) (event3 e h b3 b2)
  · refine ⟨_, rfl, ?_⟩
    have hc : cand h e = (⟨0, 0, 0, 0, 0, ⟨0, 0⟩, e.p, e.scan⟩, mayScan h e) := by unfold cand; rw [hk]; rfl
    rw [hc]
    exact FCall.of_acall (fs := []) (cs := [.v (.pointer (some ⟨b2, 0, none⟩)), .v (.pointer (some ⟨b3, 0, none⟩))]) (event4 e h b3 b2 hl)
  · refine ⟨_, rfl, ?_⟩
    have hc : cand h e = (⟨0, 0, 0, 0, 0, ⟨0, 0⟩, 0, []⟩, true) := by unfold cand; rw [hk]; rfl
    rw [hc]
    exact FCall.pure (R := fun x => x = _) (FCall.of_acall (fs := []) (cs := []) event5)
  · refine ⟨_, rfl, ?_⟩
    have hc : cand h e = (⟨0, 0, 0, 0, 0, ⟨0, 0⟩, 0, []⟩, true) := by unfold cand; rw [hk]; rfl
    rw [hc]
    exact FCall.pure (R := fun x => x = _) (FCall.of_acall (fs := []) (cs := []) event6)
theorem event (h : Hist) (e : Ev) (hl : e.scan.length ≤ 4611686018427387904) : ACall Tryz.prog 179 [.agg (histC h), .agg (evR e)] [] (fun r h' => h' = [] ∧ r = bv (eventB h e)) := by
  refine acall_of_aw Tryz.func179 rfl rfl rfl ?_
  refine rn ?_
  refine aops_e rfl (oe_box rfl rfl rfl fun b2 => ?_)
  refine aops_e rfl (oe_box rfl rfl rfl fun b3 => ?_)
  refine rn ?_
  refine aops_e rfl (oe_alloc rfl fun b5 => ?_)
  refine rn ?_
  refine asplit (fun hg2_3 => ?_) (fun hg2_3 => ?_)
  · refine rn ?_
    refine aw_ct rfl ?_
    refine rn ?_
    exact retq (.cons _ _ _ _ (.tmp _ _ rfl) .nil) (.drop [_, _, _] _ _) ⟨rfl, congrArg bv (by first | (simp only [eventB, *, Bool.true_and, Bool.false_and, Bool.and_false, Bool.and_true, Bool.true_or, Bool.or_false, Bool.false_or, Bool.or_true, if_true, if_false, Bool.false_eq_true, Bool.not_true, Bool.not_false]; done) | (simp_all [eventB]; done) | (simp_all [eventB] <;> omega))⟩
  · refine rn ?_
    refine asplit (fun hg2_8 => ?_) (fun hg2_8 => ?_)
    · refine rn ?_
      refine aw_ct rfl ?_
      refine rn ?_
      exact retq (.cons _ _ _ _ (.tmp _ _ rfl) .nil) (.drop [_, _, _] _ _) ⟨rfl, congrArg bv (by first | (simp only [eventB, *, Bool.true_and, Bool.false_and, Bool.and_false, Bool.and_true, Bool.true_or, Bool.or_false, Bool.false_or, Bool.or_true, if_true, if_false, Bool.false_eq_true, Bool.not_true, Bool.not_false]; done) | (simp_all [eventB]; done) | (simp_all [eventB] <;> omega))⟩
    · refine rn ?_
      refine qv rfl rfl (qv_call rfl rfl (pcall (told h 0 e.t _ rfl (by decide)) (Sbs.refl _))) ?_
      refine rn ?_
      refine aw_cond rfl (fun hc27 => ?_) (fun hc27 => ?_)
      · refine rn ?_
        exact retq (.cons _ _ _ _ (.tmp _ _ rfl) .nil) (.drop [_, _, _] _ _) ⟨rfl, congrArg bv (by first | (simp only [eventB, *, Bool.true_and, Bool.false_and, Bool.and_false, Bool.and_true, Bool.true_or, Bool.or_false, Bool.false_or, Bool.or_true, if_true, if_false, Bool.false_eq_true, Bool.not_true, Bool.not_false]; done) | (simp_all [eventB]; done) | (simp_all [eventB] <;> omega))⟩
      · have hlo : 1 ≤ e.kind := by simpa using hg2_3
        have hhi : e.kind < 7 := by simpa using hg2_8
        obtain ⟨k, hk⟩ := Int.eq_ofNat_of_zero_le (show 0 ≤ e.kind by omega)
        obtain ⟨av, hav, hfc⟩ := eventTab h e b2 b3 k hl hk (by omega) (by omega)
        refine aw_skip ?_
        refine thn_n ?_
        refine aw_seq (aw_region ?_)
        refine q1 ?_
        refine q1 ?_
        refine qq rfl rfl (qr_indexAddr_arr rfl (by rw [← hk]; rfl) (by omega)) ?_
        refine qq rfl rfl (qr_load_one rfl (by simpa using hav)) ?_
        refine qv rfl rfl (qv_call rfl rfl (FCall.quiet (R := fun x => x = _) (h2 := [_]) (List.perm_append_comm (l₁ := [_])) hfc)) ?_
        refine rn ?_
        refine aops_e rfl (oe_alloc rfl fun b6 => ?_)
        refine rn ?_
        refine aw_drawS 6 [(b6, 56, _)] rfl (List.perm_append_comm (l₁ := [_])) ?_
        refine rn ?_
        refine dw 0 rfl rfl rfl rfl rfl (Nat.le_of_ble_eq_true rfl) ?_
        refine rn2 ?_
        show aops _ _ _ _ _ _ ⟨_, [.box b6 56 _, .box b5 _ _, .box b3 56 (evR e), .box b2 28 (histC h)], _⟩
        refine rn ?_
        refine asplit (fun hg6_1 => ?_) (fun hg6_1 => ?_)
        · refine rn ?_
          refine qv rfl rfl (qv_call rfl rfl (pcall (sameEvent { (cand h e).1 with kind := e.kind, t := e.t } e (cand_scan h e hl) hl) (by exact Sbs.refl _))) ?_
          refine rn ?_
          exact retq (.cons _ _ _ _ (.tmp _ _ rfl) .nil) (.drop [_, _, _, _] _ _) ⟨rfl, congrArg bv (by first | (simp only [eventB, *, Bool.true_and, Bool.false_and, Bool.and_false, Bool.and_true, Bool.true_or, Bool.or_false, Bool.false_or, Bool.or_true, if_true, if_false, Bool.false_eq_true, Bool.not_true, Bool.not_false]; done) | (simp_all [eventB]; done) | (simp_all [eventB] <;> omega))⟩
        · refine rn ?_
          exact retq (.cons _ _ _ _ (.tmp _ _ rfl) .nil) (.drop [_, _, _, _] _ _) ⟨rfl, congrArg bv (by first | (simp only [eventB, *, Bool.true_and, Bool.false_and, Bool.and_false, Bool.and_true, Bool.true_or, Bool.or_false, Bool.false_or, Bool.or_true, if_true, if_false, Bool.false_eq_true, Bool.not_true, Bool.not_false]; done) | (simp_all [eventB]; done) | (simp_all [eventB] <;> omega))⟩
end Go.Proofs
/- The walks of the closures of history.shaped. Conditions: none. -/
set_option linter.unusedVariables false
set_option linter.unusedSimpArgs false
set_option maxRecDepth 10000
namespace Go.Proofs
open Go Go.Ab
attribute [local irreducible] QR QV OE aops aw dsoup dsoupM dalloc dallocM thn inBlk
open Go.H
theorem shaped11 (h : Hist) (b : Nat) (t : Int) : ACall Tryz.prog 175 [iv t, .v (.pointer (some ⟨b, 0, none⟩))] [.box b 28 (histC h)] (fun r h' => h' = [.box b 28 (histC h)] ∧ r = bv (toldB h.ts t)) := by
  refine acall_of_aw Tryz.func175 rfl rfl rfl ?_
  refine rn ?_
  refine qv rfl rfl (qv_call rfl rfl (pcall (told h 0 _ _ rfl (by decide)) (Sbs.refl _))) ?_
  refine rn ?_
  exact retq (.cons _ _ _ _ (.tmp _ _ rfl) .nil) (.refl _ _) ⟨rfl, congrArg bv (by rfl)⟩
theorem shaped1 {full : Bool} (h : Hist) (b : Nat) (ts : List Int) (hl : ts.length ≤ 4611686018427387904) : ACall Tryz.prog 173 [.list full 1 (ts.map intR), .v (.pointer (some ⟨b, 0, none⟩))] [.box b 28 (histC h)] (fun r h' => h' = [.box b 28 (histC h)] ∧ r = bv (tsB h ts)) := by
  refine acall_of_aw Tryz.func173 rfl rfl rfl ?_
  refine rn ?_
  refine asplit (fun hg1_3 => ?_) (fun hg1_3 => ?_)
  · refine rn ?_
    refine qv rfl rfl (qv_call rfl rfl (FCall.of_fun (allInt ts (.fn (.func 175) [] [.v (.pointer (some ⟨b, 0, none⟩))]) (toldB h.ts) [.box b 28 (histC h)] rfl (fun t _ => FCall.of_acall (fs := []) (cs := [.v (.pointer (some ⟨b, 0, none⟩))]) (shaped11 h b t)) hl))) ?_
    refine rn ?_
    exact retq (.cons _ _ _ _ (.tmp _ _ rfl) .nil) (.refl _ _) ⟨rfl, congrArg bv (by first | (simp only [tsB, *, Bool.true_and, Bool.false_and, Bool.and_false, Bool.and_true, Bool.true_or, Bool.or_false, Bool.false_or, Bool.or_true, if_true, if_false, Bool.false_eq_true, Bool.not_true, Bool.not_false]; done) | (simp_all [tsB]; done) | (simp_all [tsB] <;> omega))⟩
  · refine rn ?_
    exact retq (.cons _ _ _ _ (.tmp _ _ rfl) .nil) (.refl _ _) ⟨rfl, congrArg bv (by first | (simp only [tsB, *, Bool.true_and, Bool.false_and, Bool.and_false, Bool.and_true, Bool.true_or, Bool.or_false, Bool.false_or, Bool.or_true, if_true, if_false, Bool.false_eq_true, Bool.not_true, Bool.not_false]; done) | (simp_all [tsB]; done) | (simp_all [tsB] <;> omega))⟩
theorem shaped2 (h : Hist) (b : Nat) (e : Ev) (hl : e.scan.length ≤ 4611686018427387904) : ACall Tryz.prog 178 [.agg (evR e), .v (.pointer (some ⟨b, 0, none⟩))] [.box b 28 (histC h)] (fun r h' => h' = [.box b 28 (histC h)] ∧ r = bv (eventB h e)) := by
  refine acall_of_aw Tryz.func178 rfl rfl rfl ?_
  refine rn ?_
  refine aops_e rfl (oe_box rfl rfl rfl fun b2 => ?_)
  refine rn ?_
  refine qv rfl rfl (qv_call rfl rfl (pcall (event h e hl) (Sbs.refl _))) ?_
  refine rn ?_
  exact retq (.cons _ _ _ _ (.tmp _ _ rfl) .nil) (.drop1 _ _ _) ⟨rfl, congrArg bv (by rfl)⟩
theorem shaped3 (h : Hist) (b c : Nat) (m : H.Ord) (hl : m.ts.length ≤ 4611686018427387904) : ACall Tryz.prog 181 [.agg (ordR m), .v (.pointer (some ⟨b, 0, none⟩)), .v (.pointer (some ⟨c, 0, none⟩))] [.box b 28 (histC h), .box c 89 [.fn (.func 173) [] [.v (.pointer (some ⟨b, 0, none⟩))]]] (fun r h' => h' = [.box b 28 (histC h), .box c 89 [.fn (.func 173) [] [.v (.pointer (some ⟨b, 0, none⟩))]]] ∧ r = bv (ordB h m)) := by
  refine acall_of_aw Tryz.func181 rfl rfl rfl ?_
  refine rn ?_
  refine aops_e rfl (oe_box rfl rfl rfl fun b3 => ?_)
  refine rn ?_
  refine qv rfl rfl (qv_call rfl rfl (pcall (told h 2 _ _ rfl (by decide)) (Sbs.refl _))) ?_
  refine rn ?_
  refine asplit (fun hg1_4 => ?_) (fun hg1_4 => ?_)
  · refine rn ?_
    refine qv rfl rfl (qv_call rfl rfl (FCall.quiet (R := fun x => x = bv (tsB h m.ts)) (h2 := [_, _]) (List.Perm.swap _ _ _) (FCall.of_acall (fs := []) (cs := [.v (.pointer (some ⟨b, 0, none⟩))]) (shaped1 h b m.ts hl)))) ?_
    refine rn ?_
    exact retq (.cons _ _ _ _ (.tmp _ _ rfl) .nil) (.drop1 _ _ _) ⟨rfl, congrArg bv (by first | (simp only [ordB, *, Bool.true_and, Bool.false_and, Bool.and_false, Bool.and_true, Bool.true_or, Bool.or_false, Bool.false_or, Bool.or_true, if_true, if_false, Bool.false_eq_true, Bool.not_true, Bool.not_false]; done) | (simp_all [ordB]; done) | (simp_all [ordB] <;> omega))⟩
  · refine rn ?_
    exact retq (.cons _ _ _ _ (.tmp _ _ rfl) .nil) (.drop1 _ _ _) ⟨rfl, congrArg bv (by first | (simp only [ordB, *, Bool.true_and, Bool.false_and, Bool.and_false, Bool.and_true, Bool.true_or, Bool.or_false, Bool.false_or, Bool.or_true, if_true, if_false, Bool.false_eq_true, Bool.not_true, Bool.not_false]; done) | (simp_all [ordB]; done) | (simp_all [ordB] <;> omega))⟩
theorem shaped4 (h : Hist) (b c : Nat) (m : Mat) (hl : m.ts.length ≤ 4611686018427387904) : ACall Tryz.prog 183 [.agg (matR m), .v (.pointer (some ⟨b, 0, none⟩)), .v (.pointer (some ⟨c, 0, none⟩))] [.box b 28 (histC h), .box c 89 [.fn (.func 173) [] [.v (.pointer (some ⟨b, 0, none⟩))]]] (fun r h' => h' = [.box b 28 (histC h), .box c 89 [.fn (.func 173) [] [.v (.pointer (some ⟨b, 0, none⟩))]]] ∧ r = bv (matB h m)) := by
  refine acall_of_aw Tryz.func183 rfl rfl rfl ?_
  refine rn ?_
  refine aops_e rfl (oe_box rfl rfl rfl fun b3 => ?_)
  refine rn ?_
  refine qv rfl rfl (qv_call rfl rfl (pcall (told h 3 _ _ rfl (by decide)) (Sbs.refl _))) ?_
  refine rn ?_
  refine asplit (fun hg1_4 => ?_) (fun hg1_4 => ?_)
  · refine rn ?_
    refine qv rfl rfl (qv_call rfl rfl (pcall (told h 2 _ _ rfl (by decide)) (Sbs.refl _))) ?_
    refine rn ?_
    refine asplit (fun hg1_10 => ?_) (fun hg1_10 => ?_)
    · refine rn ?_
      refine qv rfl rfl (qv_call rfl rfl (FCall.quiet (R := fun x => x = bv (tsB h m.ts)) (h2 := [_, _]) (List.Perm.swap _ _ _) (FCall.of_acall (fs := []) (cs := [.v (.pointer (some ⟨b, 0, none⟩))]) (shaped1 h b m.ts hl)))) ?_
      refine rn ?_
      exact retq (.cons _ _ _ _ (.tmp _ _ rfl) .nil) (.drop1 _ _ _) ⟨rfl, congrArg bv (by first | (simp only [matB, *, Bool.true_and, Bool.false_and, Bool.and_false, Bool.and_true, Bool.true_or, Bool.or_false, Bool.false_or, Bool.or_true, if_true, if_false, Bool.false_eq_true, Bool.not_true, Bool.not_false]; done) | (simp_all [matB]; done) | (simp_all [matB] <;> omega))⟩
    · refine rn ?_
      exact retq (.cons _ _ _ _ (.tmp _ _ rfl) .nil) (.drop1 _ _ _) ⟨rfl, congrArg bv (by first | (simp only [matB, *, Bool.true_and, Bool.false_and, Bool.and_false, Bool.and_true, Bool.true_or, Bool.or_false, Bool.false_or, Bool.or_true, if_true, if_false, Bool.false_eq_true, Bool.not_true, Bool.not_false]; done) | (simp_all [matB]; done) | (simp_all [matB] <;> omega))⟩
  · refine rn ?_
    exact retq (.cons _ _ _ _ (.tmp _ _ rfl) .nil) (.drop1 _ _ _) ⟨rfl, congrArg bv (by first | (simp only [matB, *, Bool.true_and, Bool.false_and, Bool.and_false, Bool.and_true, Bool.true_or, Bool.or_false, Bool.false_or, Bool.or_true, if_true, if_false, Bool.false_eq_true, Bool.not_true, Bool.not_false]; done) | (simp_all [matB]; done) | (simp_all [matB] <;> omega))⟩
theorem shaped5 (h : Hist) (b : Nat) (w : Wan) : ACall Tryz.prog 185 [.agg (wanR w), .v (.pointer (some ⟨b, 0, none⟩))] [.box b 28 (histC h)] (fun r h' => h' = [.box b 28 (histC h)] ∧ r = bv (wanB h w)) := by
  refine acall_of_aw Tryz.func185 rfl rfl rfl ?_
  refine rn ?_
  refine aops_e rfl (oe_box rfl rfl rfl fun b2 => ?_)
  refine rn ?_
  refine qv rfl rfl (qv_call rfl rfl (pcall (told h 1 _ _ rfl (by decide)) (Sbs.refl _))) ?_
  refine rn ?_
  refine asplit (fun hg1_4 => ?_) (fun hg1_4 => ?_)
  · refine rn ?_
    refine asplit (fun hg1_9 => ?_) (fun hg1_9 => ?_)
    · refine rn ?_
      exact retq (.cons _ _ _ _ (.tmp _ _ rfl) .nil) (.drop1 _ _ _) ⟨rfl, congrArg bv (by first | (simp only [wanB, *, Bool.true_and, Bool.false_and, Bool.and_false, Bool.and_true, Bool.true_or, Bool.or_false, Bool.false_or, Bool.or_true, if_true, if_false, Bool.false_eq_true, Bool.not_true, Bool.not_false]; done) | (simp_all [wanB]; done) | (simp_all [wanB] <;> omega))⟩
    · refine rn ?_
      exact retq (.cons _ _ _ _ (.tmp _ _ rfl) .nil) (.drop1 _ _ _) ⟨rfl, congrArg bv (by first | (simp only [wanB, *, Bool.true_and, Bool.false_and, Bool.and_false, Bool.and_true, Bool.true_or, Bool.or_false, Bool.false_or, Bool.or_true, if_true, if_false, Bool.false_eq_true, Bool.not_true, Bool.not_false]; done) | (simp_all [wanB]; done) | (simp_all [wanB] <;> omega))⟩
  · refine rn ?_
    exact retq (.cons _ _ _ _ (.tmp _ _ rfl) .nil) (.drop1 _ _ _) ⟨rfl, congrArg bv (by first | (simp only [wanB, *, Bool.true_and, Bool.false_and, Bool.and_false, Bool.and_true, Bool.true_or, Bool.or_false, Bool.false_or, Bool.or_true, if_true, if_false, Bool.false_eq_true, Bool.not_true, Bool.not_false]; done) | (simp_all [wanB]; done) | (simp_all [wanB] <;> omega))⟩
end Go.Proofs
/- The walk of history.shaped. Conditions: none. -/
set_option linter.unusedVariables false
set_option linter.unusedSimpArgs false
set_option maxRecDepth 10000
namespace Go.Proofs
open Go Go.Ab
attribute [local irreducible] QR QV OE aops aw dsoup dsoupM dalloc dallocM thn inBlk
open Go.H
theorem shaped (h : Hist) (la : Lim 4611686018427387904 h) : ACall Tryz.prog 137 [.agg (histC h)] [.glob 0 186 limitsC, .glob 2 287 firstC, .glob 3 290 acceptC] (fun r h' => h' = [.glob 0 186 limitsC, .glob 2 287 firstC, .glob 3 290 acceptC] ∧ r = bv (shapedB h)) := by
  refine acall_of_aw Tryz.func137 rfl rfl rfl ?_
  refine rn ?_
  refine aops_e rfl (oe_box rfl rfl rfl fun b1 => ?_)
  refine rn ?_
  refine aw_scope ?_
  refine aw_cut (⟨[(1, .v (.pointer (some ⟨b1, 0, none⟩))), (3, bv (okK h 0))], .box b1 28 (histC h) :: [.glob 0 186 limitsC, .glob 2 287 firstC, .glob 3 290 acceptC], []⟩) ?_ ?_
  · refine rn ?_
    refine asplit (fun hg1_4 => ?_) (fun hg1_4 => ?_)
    · refine rn ?_
      rw [show okK h 0 = _ from sizes_eq h, hg1_4]
      exact (ent_sub (.cons _ _ _ rfl (.cons _ _ _ rfl (.nil))))
    · refine rn ?_
      rw [show okK h 0 = _ from sizes_eq h, hg1_4]
      exact (ent_sub (.cons _ _ _ rfl (.cons _ _ _ rfl (.nil))))
  · refine aw_seq ?_
    refine aw_label ?_
    refine rn0 ?_
    refine aw_cut (⟨[(3, bv (okK h 4)), (1, .v (.pointer (some ⟨b1, 0, none⟩)))], .box b1 28 (histC h) :: [.glob 0 186 limitsC, .glob 2 287 firstC, .glob 3 290 acceptC], []⟩) ?_ ?_
    · refine rn ?_
      refine qv rfl rfl (qv_call rfl rfl (pcall (names _) (Sbs.refl _))) ?_
      refine rn ?_
      refine aw_loop' (fun k : Nat => k ≤ 4) (fun k => ⟨[(29, iv k), (28, .agg (namesC h)), (1, .v (.pointer (some ⟨b1, 0, none⟩))), (3, bv (okK h k))], .box b1 28 (histC h) :: [.glob 0 186 limitsC, .glob 2 287 firstC, .glob 3 290 acceptC], []⟩) (fun k => 4 - k) 0 (by omega)
        (ent_sub (.cons _ _ _ rfl (.cons _ _ _ rfl (.cons _ _ _ rfl (.cons _ _ _ rfl (.nil)))))) ?_
      rintro k hk
      refine rn ?_
      refine aw_cond rfl (fun hc30 => ?_) (fun hc30 => ?_)
      · have hk4 : k < 4 := by simp at hc30; omega
        refine aw_skip ?_
        refine thn_n ?_
        refine aw_seq ?_
        refine aw_block ?_
        refine aw_seq (aw_region ?_)
        refine q1 ?_
        refine qq rfl rfl (qr_index_arr_one rfl rfl (by omega) (by have := nmK_get h hk4; simpa using this)) ?_
        refine rn ?_
        refine aops_e rfl (oe_makeMap (enc := strK) rfl fun b33 => ?_)
        refine rn0 ?_
        refine aw_cut (⟨[(5, strsA (nmK h k)), (3, bv (okj h k 0)), (6, .v (.map (some b33))), (29, iv k), (28, .agg (namesC h)), (1, .v (.pointer (some ⟨b1, 0, none⟩)))], .map b33 (encM strK []) :: .box b1 28 (histC h) :: [.glob 0 186 limitsC, .glob 2 287 firstC, .glob 3 290 acceptC], []⟩) ?_ ?_
        · refine rn ?_
          refine asplit (fun hg6_1 => ?_) (fun hg6_1 => ?_)
          · refine q1 ?_
            refine q1 ?_
            refine q1 ?_
            refine qq rfl rfl (qr_indexAddr_arr rfl rfl (by omega)) ?_
            refine qq rfl rfl (qr_load_one rfl (limitsC_get hk4)) ?_
            refine rn ?_
            rw [okj_eq h k, hg6_1]
            first | exact (ent_sub (.cons _ _ _ rfl (.cons _ _ _ rfl (.cons _ _ _ rfl (.cons _ _ _ rfl (.cons _ _ _ rfl (.cons _ _ _ rfl (.nil)))))))) | (rw [Bool.true_and]; exact (ent_sub (.cons _ _ _ rfl (.cons _ _ _ rfl (.cons _ _ _ rfl (.cons _ _ _ rfl (.cons _ _ _ rfl (.cons _ _ _ rfl (.nil)))))))))
          · refine rn ?_
            rw [okj_eq h k, hg6_1]
            first | exact (ent_sub (.cons _ _ _ rfl (.cons _ _ _ rfl (.cons _ _ _ rfl (.cons _ _ _ rfl (.cons _ _ _ rfl (.cons _ _ _ rfl (.nil)))))))) | (rw [Bool.true_and]; exact (ent_sub (.cons _ _ _ rfl (.cons _ _ _ rfl (.cons _ _ _ rfl (.cons _ _ _ rfl (.cons _ _ _ rfl (.cons _ _ _ rfl (.nil)))))))))
        · refine rn ?_
          refine aw_loop' (fun j : Nat => j ≤ (nmK h k).length ∧ (0 < j → okj h k 0 = true) ∧ freshB [] (nmK h k) = freshB ((nmK h k).take j) ((nmK h k).drop j)) (fun j => ⟨[(45, iv j), (43, strsA (nmK h k)), (44, iv ((nmK h k).map strR).length), (3, bv (okj h k 0)), (6, .v (.map (some b33))), (29, iv k), (28, .agg (namesC h)), (1, .v (.pointer (some ⟨b1, 0, none⟩)))], .map b33 (encM strK (metM ((nmK h k).take j))) :: .box b1 28 (histC h) :: [.glob 0 186 limitsC, .glob 2 287 firstC, .glob 3 290 acceptC], []⟩) (fun j => (nmK h k).length - j) 0 ⟨by omega, by omega, by simp⟩
            (ent_sub (.cons _ _ _ rfl (.cons _ _ _ rfl (.cons _ _ _ rfl (.cons _ _ _ rfl (.cons _ _ _ rfl (.cons _ _ _ rfl (.cons _ _ _ rfl (.cons _ _ _ rfl (.nil)))))))))) ?_
          rintro j ⟨hj, hok, hf⟩
          have hlk := la.nm k
          refine rn ?_
          refine aw_cond rfl (fun hc46 => ?_) (fun hc46 => ?_)
          · have hj2 : j < (nmK h k).length := by simpa using hc46
            have hrow : (strsA (nmK h k)) = .list false 1 ((nmK h k).map strR) := rfl
            have hrow2 : ((nmK h k).map strR)[j]? = some (strR (nmK h k)[j]) := by simp [hj2]
            have hd := List.drop_eq_getElem_cons hj2
            refine aw_skip ?_
            refine rn0 ?_
            refine aw_seq ?_
            refine aw_block ?_
            refine aw_seq (aw_region ?_)
            refine rn0 ?_
            refine aw_seq ?_
            refine aw_cut (⟨[(3, bv (okj h k 0 && wordB (nmK h k)[j] && !memB (nmK h k)[j] ((nmK h k).take j))), (8, sv (nmK h k)[j]), (45, iv j), (43, strsA (nmK h k)), (44, iv ((nmK h k).map strR).length), (6, .v (.map (some b33))), (29, iv k), (28, .agg (namesC h)), (1, .v (.pointer (some ⟨b1, 0, none⟩)))], .map b33 (encM strK (metM ((nmK h k).take j))) :: .box b1 28 (histC h) :: [.glob 0 186 limitsC, .glob 2 287 firstC, .glob 3 290 acceptC], []⟩) ?_ ?_
            · refine rn ?_
              refine asplit (fun hg10_1 => ?_) (fun hg10_1 => ?_)
              · refine rn ?_
                refine qv rfl rfl (qv_call rfl rfl (FCall.qt (FCall.of_fun (word ((nmK h k)[j]))) ((pt3 _ _ _ _ _).trans (.cons _ (pt3 _ _ _ _ _))))) ?_
                refine rn ?_
                refine asplit (fun hg10_5 => ?_) (fun hg10_5 => ?_)
                · refine rn ?_
                  refine qq rfl rfl (qr_lookup (enc := strK) (k := (nmK h k)[j]) rfl rfl (lookM_metD _ _)) ?_
                  refine rn ?_
                  first | (rw [hg10_1, hg10_5]; exact (ent_sub (.cons _ _ _ rfl (.cons _ _ _ rfl (.cons _ _ _ rfl (.cons _ _ _ rfl (.cons _ _ _ rfl (.cons _ _ _ rfl (.cons _ _ _ rfl (.cons _ _ _ rfl (.cons _ _ _ rfl (.nil)))))))))))) | (rw [hg10_1]; exact (ent_sub (.cons _ _ _ rfl (.cons _ _ _ rfl (.cons _ _ _ rfl (.cons _ _ _ rfl (.cons _ _ _ rfl (.cons _ _ _ rfl (.cons _ _ _ rfl (.cons _ _ _ rfl (.cons _ _ _ rfl (.nil))))))))))))
                · refine rn ?_
                  first | (rw [hg10_1, hg10_5]; exact (ent_sub (.cons _ _ _ rfl (.cons _ _ _ rfl (.cons _ _ _ rfl (.cons _ _ _ rfl (.cons _ _ _ rfl (.cons _ _ _ rfl (.cons _ _ _ rfl (.cons _ _ _ rfl (.cons _ _ _ rfl (.nil)))))))))))) | (rw [hg10_1]; exact (ent_sub (.cons _ _ _ rfl (.cons _ _ _ rfl (.cons _ _ _ rfl (.cons _ _ _ rfl (.cons _ _ _ rfl (.cons _ _ _ rfl (.cons _ _ _ rfl (.cons _ _ _ rfl (.cons _ _ _ rfl (.nil))))))))))))
              · refine rn ?_
                first | (rw [hg10_1, hg10_5]; exact (ent_sub (.cons _ _ _ rfl (.cons _ _ _ rfl (.cons _ _ _ rfl (.cons _ _ _ rfl (.cons _ _ _ rfl (.cons _ _ _ rfl (.cons _ _ _ rfl (.cons _ _ _ rfl (.cons _ _ _ rfl (.nil)))))))))))) | (rw [hg10_1]; exact (ent_sub (.cons _ _ _ rfl (.cons _ _ _ rfl (.cons _ _ _ rfl (.cons _ _ _ rfl (.cons _ _ _ rfl (.cons _ _ _ rfl (.cons _ _ _ rfl (.cons _ _ _ rfl (.cons _ _ _ rfl (.nil))))))))))))
            · refine rn ?_
              refine aw_cond rfl (fun hc61 => ?_) (fun hc61 => ?_)
              · have hfl : (okj h k 0 && wordB (nmK h k)[j] && !memB (nmK h k)[j] ((nmK h k).take j)) = false := not_t hc61
                have hbad : okK h 4 = false := ok_bad hk4 (ok_or (hf.trans (by rw [hd])) hfl)
                refine rn ?_
                first
                  | exact (ent_sub (.cons _ _ _ rfl (.cons _ _ _ rfl (.nil))))
                  | (rw [hbad, ← hfl]; exact (ent_trans (ent_drop (h1 := [_])) (ent_sub (.cons _ _ _ rfl (.cons _ _ _ rfl (.nil))))))
              · obtain ⟨hok2, hw, hfresh⟩ := ok_and (not_f hc61)
                refine rn ?_
                refine aops_e rfl (oe_mapUpdate (enc := strK) (k := (nmK h k)[j]) rfl rfl rfl ?_)
                refine rn ?_
                have hu := updM_met ((nmK h k)[j]) ((nmK h k).take j) (memB_f.1 hfresh)
                rw [← List.take_succ_eq_append_getElem hj2] at hu
                exact ⟨j + 1, ⟨by omega, fun _ => hok2, by rw [hf, hd, freshB, hw, List.take_succ_eq_append_getElem hj2]; simp [hfresh]⟩, by simp only [hu, hok2, hw, hfresh, Bool.true_and, Bool.not_false]; exact (ent_sub (.cons _ _ _ rfl (.cons _ _ _ rfl (.cons _ _ _ rfl (.cons _ _ _ rfl (.cons _ _ _ rfl (.cons _ _ _ rfl (.cons _ _ _ rfl (.cons _ _ _ rfl (.nil)))))))))), by omega⟩
          · have hj3 : j = (nmK h k).length := by
              have : (nmK h k).length ≤ j := by simpa using hc46
              omega
            refine rn ?_
            have hend := ok_end (h := h) (k := k) (by rw [hf, hj3, List.drop_length]; rfl)
            exact ⟨k + 1, by omega, by rw [← hend]; exact (ent_trans (ent_drop (h1 := [_])) (ent_sub (.cons _ _ _ rfl (.cons _ _ _ rfl (.cons _ _ _ rfl (.cons _ _ _ rfl (.nil))))))), by omega⟩
      · have hk4 : k = 4 := by simp at hc30; omega
        subst hk4
        refine rn ?_
        first
          | exact (ent_sub (.cons _ _ _ rfl (.cons _ _ _ rfl (.nil))))
          | (rw [hbad, ← hfl]; exact (ent_trans (ent_drop (h1 := [_])) (ent_sub (.cons _ _ _ rfl (.cons _ _ _ rfl (.nil))))))
    · refine rn ?_
      refine aops_e rfl (oe_alloc rfl fun b9 => ?_)
      refine rn ?_
      refine asplit (fun hg16_1 => ?_) (fun hg16_1 => ?_)
      · refine rn ?_
        refine qv rfl rfl (qv_call rfl rfl (FCall.of_fun (allEv h.evs (.fn (.func 178) [] [.v (.pointer (some ⟨b1, 0, none⟩))]) (eventB h) (.box b9 89 [.fn (.func 173) [] [.v (.pointer (some ⟨b1, 0, none⟩))]] :: .box b1 28 (histC h) :: [.glob 0 186 limitsC, .glob 2 287 firstC, .glob 3 290 acceptC]) rfl (fun e he => FCall.qt (FCall.of_acall (fs := []) (cs := [.v (.pointer (some ⟨b1, 0, none⟩))]) (shaped2 h b1 e (la.scans e he))) (pt1 _ _ _)) la.evs))) ?_
        refine rn ?_
        refine asplit (fun hg16_7 => ?_) (fun hg16_7 => ?_)
        · refine rn ?_
          refine qv rfl rfl (qv_call rfl rfl (FCall.of_fun (allOrd h.ords (.fn (.func 181) [] [.v (.pointer (some ⟨b1, 0, none⟩)), .v (.pointer (some ⟨b9, 0, none⟩))]) (ordB h) (.box b9 89 [.fn (.func 173) [] [.v (.pointer (some ⟨b1, 0, none⟩))]] :: .box b1 28 (histC h) :: [.glob 0 186 limitsC, .glob 2 287 firstC, .glob 3 290 acceptC]) rfl (fun e he => FCall.qt (FCall.of_acall (fs := []) (cs := [.v (.pointer (some ⟨b1, 0, none⟩)), .v (.pointer (some ⟨b9, 0, none⟩))]) (shaped3 h b1 b9 e (la.ordts e he))) (pt1 _ _ _)) la.ords))) ?_
          refine rn ?_
          refine asplit (fun hg16_13 => ?_) (fun hg16_13 => ?_)
          · refine rn ?_
            refine qv rfl rfl (qv_call rfl rfl (FCall.of_fun (allMat h.mats (.fn (.func 183) [] [.v (.pointer (some ⟨b1, 0, none⟩)), .v (.pointer (some ⟨b9, 0, none⟩))]) (matB h) (.box b9 89 [.fn (.func 173) [] [.v (.pointer (some ⟨b1, 0, none⟩))]] :: .box b1 28 (histC h) :: [.glob 0 186 limitsC, .glob 2 287 firstC, .glob 3 290 acceptC]) rfl (fun e he => FCall.qt (FCall.of_acall (fs := []) (cs := [.v (.pointer (some ⟨b1, 0, none⟩)), .v (.pointer (some ⟨b9, 0, none⟩))]) (shaped4 h b1 b9 e (la.matts e he))) (pt1 _ _ _)) la.mats))) ?_
            refine rn ?_
            refine asplit (fun hg16_19 => ?_) (fun hg16_19 => ?_)
            · refine rn ?_
              refine qv rfl rfl (qv_call rfl rfl (FCall.of_fun (allWan h.wants (.fn (.func 185) [] [.v (.pointer (some ⟨b1, 0, none⟩))]) (wanB h) (.box b9 89 [.fn (.func 173) [] [.v (.pointer (some ⟨b1, 0, none⟩))]] :: .box b1 28 (histC h) :: [.glob 0 186 limitsC, .glob 2 287 firstC, .glob 3 290 acceptC]) rfl (fun e he => FCall.qt (FCall.of_acall (fs := []) (cs := [.v (.pointer (some ⟨b1, 0, none⟩))]) (shaped5 h b1 e)) (pt1 _ _ _)) la.wants))) ?_
              refine rn ?_
              refine ⟨fun l h => (by cases h), ?_⟩
              exact retq (.cons _ _ _ _ (.tmp _ _ rfl) .nil) (.drop [_, _] _ _) ⟨rfl, congrArg bv (by first | (simp only [shapedB, *, Bool.true_and, Bool.false_and, Bool.and_false, Bool.and_true, Bool.true_or, Bool.or_false, Bool.false_or, Bool.or_true, if_true, if_false, Bool.false_eq_true, Bool.not_true, Bool.not_false]; done) | (simp_all [shapedB]; done))⟩
            · refine rn ?_
              refine ⟨fun l h => (by cases h), ?_⟩
              exact retq (.cons _ _ _ _ (.tmp _ _ rfl) .nil) (.drop [_, _] _ _) ⟨rfl, congrArg bv (by first | (simp only [shapedB, *, Bool.true_and, Bool.false_and, Bool.and_false, Bool.and_true, Bool.true_or, Bool.or_false, Bool.false_or, Bool.or_true, if_true, if_false, Bool.false_eq_true, Bool.not_true, Bool.not_false]; done) | (simp_all [shapedB]; done))⟩
          · refine rn ?_
            refine ⟨fun l h => (by cases h), ?_⟩
            exact retq (.cons _ _ _ _ (.tmp _ _ rfl) .nil) (.drop [_, _] _ _) ⟨rfl, congrArg bv (by first | (simp only [shapedB, *, Bool.true_and, Bool.false_and, Bool.and_false, Bool.and_true, Bool.true_or, Bool.or_false, Bool.false_or, Bool.or_true, if_true, if_false, Bool.false_eq_true, Bool.not_true, Bool.not_false]; done) | (simp_all [shapedB]; done))⟩
        · refine rn ?_
          refine ⟨fun l h => (by cases h), ?_⟩
          exact retq (.cons _ _ _ _ (.tmp _ _ rfl) .nil) (.drop [_, _] _ _) ⟨rfl, congrArg bv (by first | (simp only [shapedB, *, Bool.true_and, Bool.false_and, Bool.and_false, Bool.and_true, Bool.true_or, Bool.or_false, Bool.false_or, Bool.or_true, if_true, if_false, Bool.false_eq_true, Bool.not_true, Bool.not_false]; done) | (simp_all [shapedB]; done))⟩
      · refine rn ?_
        refine ⟨fun l h => (by cases h), ?_⟩
        exact retq (.cons _ _ _ _ (.tmp _ _ rfl) .nil) (.drop [_, _] _ _) ⟨rfl, congrArg bv (by first | (simp only [shapedB, *, Bool.true_and, Bool.false_and, Bool.and_false, Bool.and_true, Bool.true_or, Bool.or_false, Bool.false_or, Bool.or_true, if_true, if_false, Bool.false_eq_true, Bool.not_true, Bool.not_false]; done) | (simp_all [shapedB]; done))⟩
end Go.Proofs
/- The walk of history.spoken, reading. Conditions: none. -/
set_option linter.unusedVariables false
set_option linter.unusedSimpArgs false
set_option maxRecDepth 10000
namespace Go.Proofs
open Go Go.Ab
attribute [local irreducible] QR QV OE aops aw dsoup dsoupM dalloc dallocM thn inBlk
open Go.H
theorem sayR {σ : Type} (step : σ → Nat × Int → Option σ) (ok : Nat × Int → Prop) (IJ : Option σ → List Res → Prop) (y : AV) (hy : ∀ (s : σ) (L : List Res) (sort : Nat) (n : Int) (cells : List AV), ok (sort, n) → IJ (some s) L → FCall Tryz.prog y [iv sort, .pp (iv n :: cells)] L (fun r h' => r = bv (step s (sort, n)).isSome ∧ IJ (step s (sort, n)) h')) (sort : Nat) (n : Int) (hs : ok (sort, n)) (cells : List AV) (bm by_ : Nat) (st : Option σ) (L : List Res) (hI : IJ st L) : ACall Tryz.prog 187 [iv sort, .pp (iv n :: cells), .v (.pointer (some ⟨bm, 0, none⟩)), .v (.pointer (some ⟨by_, 0, none⟩))] (.box bm 4 [bv (st).isSome] :: .box by_ 243 [y] :: L) (fun r h' => ∃ L', IJ (goes step st [(sort, n)]) L' ∧ h' = .box bm 4 [bv (goes step st [(sort, n)]).isSome] :: .box by_ 243 [y] :: L') := by
  refine acall_of_aw Tryz.func187 rfl rfl rfl ?_
  refine rn ?_
  refine asplit (fun hg0_1 => ?_) (fun hg0_1 => ?_)
  · refine rn ?_
    obtain ⟨s, rfl⟩ := Option.isSome_iff_exists.1 hg0_1
    refine aops_e rfl (oe_call rfl rfl (FCall.fr2 (hy s L sort n cells hs hI)) rfl ?_)
    rintro _ _ ⟨L2, rfl, rfl, hI2⟩
    refine rn ?_
    first
      | exact retq_n .nil (.refl _ _) ⟨L2, hI2, rfl⟩
      | (obtain rfl := Option.not_isSome_iff_eq_none.1 (show ¬ st.isSome = true by simp [hg0_1])
         exact retq_n .nil (.refl _ _) ⟨L, hI, rfl⟩)
  · refine rn ?_
    first
      | exact retq_n .nil (.refl _ _) ⟨L2, hI2, rfl⟩
      | (obtain rfl := Option.not_isSome_iff_eq_none.1 (show ¬ st.isSome = true by simp [hg0_1])
         exact retq_n .nil (.refl _ _) ⟨L, hI, rfl⟩)
theorem madeR {σ : Type} (step : σ → Nat × Int → Option σ) (ok : Nat × Int → Prop) (IJ : Option σ → List Res → Prop) (y : AV) (hy : ∀ (s : σ) (L : List Res) (sort : Nat) (n : Int) (cells : List AV), ok (sort, n) → IJ (some s) L → FCall Tryz.prog y [iv sort, .pp (iv n :: cells)] L (fun r h' => r = bv (step s (sort, n)).isSome ∧ IJ (step s (sort, n)) h')) (v : Ver) (hv : ∀ x ∈ madeL v, ok x) (cells : List AV) (bs bm by_ : Nat) (st : Option σ) (L : List Res) (hI : IJ st L) : ACall Tryz.prog 188 [.pp (iv v.t :: iv v.k :: cells), .v (.pointer (some ⟨bs, 0, none⟩))] (.box bs 244 [.fn (.func 187) [] [.v (.pointer (some ⟨bm, 0, none⟩)), .v (.pointer (some ⟨by_, 0, none⟩))]] :: .box bm 4 [bv (st).isSome] :: .box by_ 243 [y] :: L) (fun r h' => ∃ L', IJ (goes step st (madeL v)) L' ∧ h' = .box bs 244 [.fn (.func 187) [] [.v (.pointer (some ⟨bm, 0, none⟩)), .v (.pointer (some ⟨by_, 0, none⟩))]] :: .box bm 4 [bv (goes step st (madeL v)).isSome] :: .box by_ 243 [y] :: L') := by
  refine acall_of_aw Tryz.func188 rfl rfl rfl ?_
  refine rn ?_
  refine aw_cond rfl (fun hc7 => ?_) (fun hc7 => ?_)
  · refine aw_draw 4 rfl ?_
    refine rn ?_
    refine aops_e rfl (oe_call rfl rfl (FCall.fr1 (FCall.of_acall (fs := []) (cs := [.v (.pointer (some ⟨bm, 0, none⟩)), .v (.pointer (some ⟨by_, 0, none⟩))]) (sayR step ok IJ y hy 0 v.t (hv _ (by rw [madeL, if_pos hc7]; simp)) (iv v.k :: cells) bm by_ _ _ hI))) rfl ?_)
    rintro _ _ ⟨_, rfl, L2, hI2, rfl⟩
    refine rn ?_
    first
      | (have hm : madeL v = [(0, v.t)] := by rw [madeL, if_pos hc7]
         rw [hm]; exact retq_n .nil (.refl _ _) ⟨L2, hI2, rfl⟩)
      | (have hm : madeL v = [] := by rw [madeL, if_neg (by rw [hc7]; decide)]
         rw [hm]; exact retq_n .nil (.refl _ _) ⟨L, hI, rfl⟩)
  · refine rn ?_
    first
      | (have hm : madeL v = [(0, v.t)] := by rw [madeL, if_pos hc7]
         rw [hm]; exact retq_n .nil (.refl _ _) ⟨L2, hI2, rfl⟩)
      | (have hm : madeL v = [] := by rw [madeL, if_neg (by rw [hc7]; decide)]
         rw [hm]; exact retq_n .nil (.refl _ _) ⟨L, hI, rfl⟩)
theorem spokenR {σ : Type} (step : σ → Nat × Int → Option σ) (ok : Nat × Int → Prop) (IJ : Option σ → List Res → Prop) (y : AV) (hone : y.cellsOf = some [y]) (hy : ∀ (s : σ) (L : List Res) (sort : Nat) (n : Int) (cells : List AV), ok (sort, n) → IJ (some s) L → FCall Tryz.prog y [iv sort, .pp (iv n :: cells)] L (fun r h' => r = bv (step s (sort, n)).isSome ∧ IJ (step s (sort, n)) h')) (h : Hist) (la : Lim 4611686018427387904 h) (b1 bh : Nat) (hok : ∀ x ∈ spokenL h, ok x) (s0 : σ) (L0 : List Res) (h0 : IJ (some s0) L0) : ACall Tryz.prog 186 [y, .v (.pointer (some ⟨b1, 0, none⟩))] (.box b1 198 [.v (.pointer (some ⟨bh, 0, none⟩))] :: .box bh 28 (histC h) :: L0) (fun r h' => ∃ L', IJ (goes step (some s0) (spokenL h)) L' ∧ h' = .box b1 198 [.v (.pointer (some ⟨bh, 0, none⟩))] :: .box bh 28 (histC h) :: L') := by
  refine acall_of_aw Tryz.func186 rfl rfl rfl ?_
  refine rn ?_
  refine aops_e rfl (oe_box rfl hone rfl fun by_ => ?_)
  refine rn ?_
  refine aops_e rfl (oe_alloc rfl fun bm => ?_)
  refine rn ?_
  refine aops_e rfl (oe_alloc rfl fun bs => ?_)
  refine rn ?_
  refine aw_loop' (fun x : Nat × Option σ × List Res => x.1 ≤ h.evs.length ∧ IJ x.2.1 x.2.2 ∧ Rem step ok x.2.1 (((h.evs.drop x.1).flatMap evL) ++ (h.ords.flatMap ordL ++ (h.mats.flatMap matL ++ h.wants.flatMap wanL))) (goes step (some s0) (spokenL h))) (fun x => ⟨[(22, iv x.1), (21, iv (h.evs.map evR).length), (1, .v (.pointer (some ⟨b1, 0, none⟩))), (4, .v (.pointer (some ⟨bs, 0, none⟩))), (5, .fn (.func 188) [] [.v (.pointer (some ⟨bs, 0, none⟩))])], .box b1 198 [.v (.pointer (some ⟨bh, 0, none⟩))] :: .box bh 28 (histC h) :: .box bs 244 [.fn (.func 187) [] [.v (.pointer (some ⟨bm, 0, none⟩)), .v (.pointer (some ⟨by_, 0, none⟩))]] :: .box bm 4 [bv (x.2.1).isSome] :: .box by_ 243 [y] :: x.2.2, []⟩) (fun x => h.evs.length - x.1) (0, some s0, L0) ⟨by omega, h0, rfl, hok⟩
    (ent_trans (ent_perm ((pt3 _ _ _ _ _).trans (.cons _ (pt3 _ _ _ _ _)))) (ent_sub (.cons _ _ _ rfl (.cons _ _ _ rfl (.cons _ _ _ rfl (.cons _ _ _ rfl (.cons _ _ _ rfl (.nil)))))))) ?_
  rintro ⟨k, st, L⟩ ⟨hk, hI, hF⟩
  simp only at hk hI hF
  refine rn ?_
  refine aw_cond rfl (fun hc23 => ?_) (fun hc23 => ?_)
  · have k2 : k < h.evs.length := by simpa using hc23
    obtain ⟨e, he⟩ : ∃ e, e = h.evs[k] := ⟨_, rfl⟩
    have hrowe : (h.evs.map evR)[k]? = some (evR e) := by rw [he]; simp [k2]
    have hde := List.drop_eq_getElem_cons k2
    rw [hde, ← he] at hF
    simp only [List.flatMap_cons, evL, List.cons_append, List.append_assoc] at hF
    obtain ⟨hx, hF⟩ := hF.cons
    obtain ⟨hkx, hF⟩ := hF.app
    have hle := la.evs
    have hls := la.scans e (by rw [he]; simp)
    refine rn ?_
    refine aw_draw 4 rfl ?_
    refine rn ?_
    refine aops_e rfl (oe_call rfl rfl (FCall.fr3 (FCall.of_acall (fs := []) (cs := [.v (.pointer (some ⟨bm, 0, none⟩)), .v (.pointer (some ⟨by_, 0, none⟩))]) (sayR step ok IJ y hy 0 e.t hx _ bm by_ _ _ hI))) rfl ?_)
    rintro _ _ ⟨_, rfl, L, hI, rfl⟩
    refine rn0 ?_
    refine aw_cutE (fun L => IJ (goes step (goes step st [(0, e.t)]) (kindL e)) L) (fun L => ⟨[(7, .pp (evR e)), (22, iv k), (21, iv (h.evs.map evR).length), (1, .v (.pointer (some ⟨b1, 0, none⟩))), (4, .v (.pointer (some ⟨bs, 0, none⟩))), (5, .fn (.func 188) [] [.v (.pointer (some ⟨bs, 0, none⟩))])], .box b1 198 [.v (.pointer (some ⟨bh, 0, none⟩))] :: .box bh 28 (histC h) :: .box bs 244 [.fn (.func 187) [] [.v (.pointer (some ⟨bm, 0, none⟩)), .v (.pointer (some ⟨by_, 0, none⟩))]] :: .box bm 4 [bv (goes step (goes step st [(0, e.t)]) (kindL e)).isSome] :: .box by_ 243 [y] :: L, []⟩) ?_ ?_
    · refine rn ?_
      refine aw_cond rfl (fun hc40 => ?_) (fun hc40 => ?_)
      · have hkl := kindL_1 (e := e) (by simpa using hc40)
        refine aw_draw 4 rfl ?_
        refine rn ?_
        refine aops_e rfl (oe_call rfl rfl (FCall.fr3 (FCall.of_acall (fs := []) (cs := [.v (.pointer (some ⟨bm, 0, none⟩)), .v (.pointer (some ⟨by_, 0, none⟩))]) (sayR step ok IJ y hy 1 e.s (hkx _ (by rw [hkl]; simp)) _ bm by_ _ _ hI))) rfl ?_)
        rintro _ _ ⟨_, rfl, L, hI, rfl⟩
        refine rn ?_
        refine ⟨L, ?_, ?_⟩
        · show IJ (goes step _ (kindL e)) L
          rw [hkl]; exact hI
        · rw [hkl]; exact (ent_sub (.cons _ _ _ rfl (.cons _ _ _ rfl (.cons _ _ _ rfl (.cons _ _ _ rfl (.cons _ _ _ rfl (.cons _ _ _ rfl (.nil))))))))
      · have hn1 : e.kind ≠ 1 := by simpa using hc40
        refine rn ?_
        refine aw_cond rfl (fun hc47 => ?_) (fun hc47 => ?_)
        · have hk23 : e.kind = 2 ∨ e.kind = 3 := by simp at hc47; omega
          have hkl := kindL_2 hk23
          refine rn ?_
          refine aw_cond rfl (fun hc47 => ?_) (fun hc47 => ?_)
          · have hk23 : e.kind = 2 ∨ e.kind = 3 := by simp at hc47; omega
            have hkl := kindL_2 hk23
            refine rn ?_
            refine aw_draw 4 rfl ?_
            refine rn ?_
            refine aops_e rfl (oe_call rfl rfl (FCall.fr3 (FCall.of_acall (fs := []) (cs := [.v (.pointer (some ⟨bm, 0, none⟩)), .v (.pointer (some ⟨by_, 0, none⟩))]) (sayR step ok IJ y hy 2 e.o (hkx _ (by rw [hkl]; simp)) _ bm by_ _ _ hI))) rfl ?_)
            rintro _ _ ⟨_, rfl, L, hI, rfl⟩
            refine rn ?_
            refine aops_e rfl (oe_call rfl rfl (FCall.fr2 (FCall.of_acall (fs := []) (cs := [.v (.pointer (some ⟨bs, 0, none⟩))]) (madeR step ok IJ y hy e.v (fun x hx => hkx x (by rw [hkl]; simp [hx])) _ bs bm by_ _ _ hI))) rfl ?_)
            rintro _ _ ⟨_, rfl, L, hI, rfl⟩
            refine rn ?_
            refine ⟨L, ?_, ?_⟩
            · show IJ (goes step _ (kindL e)) L
              rw [hkl]; exact hI
            · rw [hkl]; exact (ent_sub (.cons _ _ _ rfl (.cons _ _ _ rfl (.cons _ _ _ rfl (.cons _ _ _ rfl (.cons _ _ _ rfl (.cons _ _ _ rfl (.nil))))))))
          · first | cases hc47 | exact absurd hc47 (by decide) | (exfalso; simp_all; done)
        · have hn23 := hc47
          simp at hn23
          refine rn ?_
          refine aw_cond rfl (fun hc47 => ?_) (fun hc47 => ?_)
          · have hk23 : e.kind = 2 ∨ e.kind = 3 := by simp at hc47; omega
            have hkl := kindL_2 hk23
            refine rn ?_
            refine aw_draw 4 rfl ?_
            refine rn ?_
            refine aops_e rfl (oe_call rfl rfl (FCall.fr3 (FCall.of_acall (fs := []) (cs := [.v (.pointer (some ⟨bm, 0, none⟩)), .v (.pointer (some ⟨by_, 0, none⟩))]) (sayR step ok IJ y hy 2 e.o (hkx _ (by rw [hkl]; simp)) _ bm by_ _ _ hI))) rfl ?_)
            rintro _ _ ⟨_, rfl, L, hI, rfl⟩
            refine rn ?_
            refine aops_e rfl (oe_call rfl rfl (FCall.fr2 (FCall.of_acall (fs := []) (cs := [.v (.pointer (some ⟨bs, 0, none⟩))]) (madeR step ok IJ y hy e.v (fun x hx => hkx x (by rw [hkl]; simp [hx])) _ bs bm by_ _ _ hI))) rfl ?_)
            rintro _ _ ⟨_, rfl, L, hI, rfl⟩
            refine rn ?_
            refine ⟨L, ?_, ?_⟩
            · show IJ (goes step _ (kindL e)) L
              rw [hkl]; exact hI
            · rw [hkl]; exact (ent_sub (.cons _ _ _ rfl (.cons _ _ _ rfl (.cons _ _ _ rfl (.cons _ _ _ rfl (.cons _ _ _ rfl (.cons _ _ _ rfl (.nil))))))))
          · have hn23 := hc47
            simp at hn23
            refine rn ?_
            refine aw_cond rfl (fun hc60 => ?_) (fun hc60 => ?_)
            · have hkl := kindL_4 (e := e) (by simpa using hc60)
              refine aw_draw 4 rfl ?_
              refine rn ?_
              refine aops_e rfl (oe_call rfl rfl (FCall.fr3 (FCall.of_acall (fs := []) (cs := [.v (.pointer (some ⟨bm, 0, none⟩)), .v (.pointer (some ⟨by_, 0, none⟩))]) (sayR step ok IJ y hy 3 e.p (hkx _ (by rw [hkl]; simp)) _ bm by_ _ _ hI))) rfl ?_)
              rintro _ _ ⟨_, rfl, L, hI, rfl⟩
              refine rn ?_
              refine ⟨L, ?_, ?_⟩
              · show IJ (goes step _ (kindL e)) L
                rw [hkl]; exact hI
              · rw [hkl]; exact (ent_sub (.cons _ _ _ rfl (.cons _ _ _ rfl (.cons _ _ _ rfl (.cons _ _ _ rfl (.cons _ _ _ rfl (.cons _ _ _ rfl (.nil))))))))
            · have hn4 : e.kind ≠ 4 := by simpa using hc60
              have hkl := kindL_0 (e := e) hn1 (by omega) (by omega) hn4
              refine rn ?_
              refine ⟨L, ?_, ?_⟩
              · show IJ (goes step _ (kindL e)) L
                rw [hkl]; exact hI
              · rw [hkl]; exact (ent_sub (.cons _ _ _ rfl (.cons _ _ _ rfl (.cons _ _ _ rfl (.cons _ _ _ rfl (.cons _ _ _ rfl (.cons _ _ _ rfl (.nil))))))))
    · rintro L hI
      revert hI hF
      generalize goes step (goes step st [(0, e.t)]) (kindL e) = st2
      intro hF hI
      refine rn ?_
      refine aw_loop' (fun x : Nat × Option σ × List Res => x.1 ≤ e.scan.length ∧ IJ x.2.1 x.2.2 ∧ Rem step ok x.2.1 (((e.scan.drop x.1).flatMap seenL) ++ (((h.evs.drop (k + 1)).flatMap evL) ++ (h.ords.flatMap ordL ++ (h.mats.flatMap matL ++ h.wants.flatMap wanL)))) (goes step (some s0) (spokenL h))) (fun x => ⟨[(72, iv x.1), (71, iv (e.scan.map seenR).length), (7, .pp (evR e)), (22, iv k), (21, iv (h.evs.map evR).length), (1, .v (.pointer (some ⟨b1, 0, none⟩))), (4, .v (.pointer (some ⟨bs, 0, none⟩))), (5, .fn (.func 188) [] [.v (.pointer (some ⟨bs, 0, none⟩))])], .box b1 198 [.v (.pointer (some ⟨bh, 0, none⟩))] :: .box bh 28 (histC h) :: .box bs 244 [.fn (.func 187) [] [.v (.pointer (some ⟨bm, 0, none⟩)), .v (.pointer (some ⟨by_, 0, none⟩))]] :: .box bm 4 [bv (x.2.1).isSome] :: .box by_ 243 [y] :: x.2.2, []⟩) (fun x => e.scan.length - x.1) (0, st2, L) ⟨by omega, hI, hF⟩
        (ent_sub (.cons _ _ _ rfl (.cons _ _ _ rfl (.cons _ _ _ rfl (.cons _ _ _ rfl (.cons _ _ _ rfl (.cons _ _ _ rfl (.cons _ _ _ rfl (.cons _ _ _ rfl (.nil)))))))))) ?_
      rintro ⟨j, st, L⟩ ⟨hj, hI, hF⟩
      simp only at hj hI hF
      refine rn ?_
      refine aw_cond rfl (fun hc73 => ?_) (fun hc73 => ?_)
      · have j2 : j < e.scan.length := by simpa using hc73
        obtain ⟨x, hx⟩ : ∃ x, x = e.scan[j] := ⟨_, rfl⟩
        have hrowx : (e.scan.map seenR)[j]? = some (seenR x) := by rw [hx]; simp [j2]
        have hdx := List.drop_eq_getElem_cons j2
        rw [hdx, ← hx] at hF
        simp only [List.flatMap_cons, seenL, List.cons_append, List.append_assoc] at hF
        obtain ⟨hx, hF⟩ := hF.cons
        obtain ⟨hkx, hF⟩ := hF.app
        refine rn ?_
        refine aw_draw 8 rfl ?_
        refine rn ?_
        refine aops_e rfl (oe_call rfl rfl (FCall.fr3 (FCall.of_acall (fs := []) (cs := [.v (.pointer (some ⟨bm, 0, none⟩)), .v (.pointer (some ⟨by_, 0, none⟩))]) (sayR step ok IJ y hy 2 x.o hx _ bm by_ _ _ hI))) rfl ?_)
        rintro _ _ ⟨_, rfl, L, hI, rfl⟩
        refine rn ?_
        refine aops_e rfl (oe_call rfl rfl (FCall.fr2 (FCall.of_acall (fs := []) (cs := [.v (.pointer (some ⟨bs, 0, none⟩))]) (madeR step ok IJ y hy x.v hkx _ bs bm by_ _ _ hI))) rfl ?_)
        rintro _ _ ⟨_, rfl, L, hI, rfl⟩
        refine rn ?_
        exact ⟨(j + 1, _, L), ⟨by omega, hI, hF⟩, (ent_sub (.cons _ _ _ rfl (.cons _ _ _ rfl (.cons _ _ _ rfl (.cons _ _ _ rfl (.cons _ _ _ rfl (.cons _ _ _ rfl (.cons _ _ _ rfl (.cons _ _ _ rfl (.nil)))))))))), by simp only; omega⟩
      · obtain rfl : j = e.scan.length := by
          have : e.scan.length ≤ j := by simpa using hc73
          omega
        rw [List.drop_length, List.flatMap_nil, List.nil_append] at hF
        refine rn ?_
        exact ⟨(k + 1, _, L), ⟨by omega, hI, hF⟩, (ent_sub (.cons _ _ _ rfl (.cons _ _ _ rfl (.cons _ _ _ rfl (.cons _ _ _ rfl (.cons _ _ _ rfl (.nil))))))), by simp only; omega⟩
  · obtain rfl : k = h.evs.length := by
      have : h.evs.length ≤ k := by simpa using hc23
      omega
    rw [List.drop_length, List.flatMap_nil, List.nil_append] at hF
    refine rn ?_
    refine aw_loop' (fun x : Nat × Option σ × List Res => x.1 ≤ h.ords.length ∧ IJ x.2.1 x.2.2 ∧ Rem step ok x.2.1 (((h.ords.drop x.1).flatMap ordL) ++ (h.mats.flatMap matL ++ h.wants.flatMap wanL)) (goes step (some s0) (spokenL h))) (fun x => ⟨[(100, iv x.1), (99, iv (h.ords.map ordR).length), (1, .v (.pointer (some ⟨b1, 0, none⟩))), (4, .v (.pointer (some ⟨bs, 0, none⟩))), (5, .fn (.func 188) [] [.v (.pointer (some ⟨bs, 0, none⟩))])], .box b1 198 [.v (.pointer (some ⟨bh, 0, none⟩))] :: .box bh 28 (histC h) :: .box bs 244 [.fn (.func 187) [] [.v (.pointer (some ⟨bm, 0, none⟩)), .v (.pointer (some ⟨by_, 0, none⟩))]] :: .box bm 4 [bv (x.2.1).isSome] :: .box by_ 243 [y] :: x.2.2, []⟩) (fun x => h.ords.length - x.1) (0, st, L) ⟨by omega, hI, hF⟩
      (ent_sub (.cons _ _ _ rfl (.cons _ _ _ rfl (.cons _ _ _ rfl (.cons _ _ _ rfl (.cons _ _ _ rfl (.nil))))))) ?_
    rintro ⟨k, st, L⟩ ⟨hk, hI, hF⟩
    simp only at hk hI hF
    refine rn ?_
    refine aw_cond rfl (fun hc101 => ?_) (fun hc101 => ?_)
    · have k2 : k < h.ords.length := by simpa using hc101
      obtain ⟨r, hr⟩ : ∃ r, r = h.ords[k] := ⟨_, rfl⟩
      have hrowr : (h.ords.map ordR)[k]? = some (ordR r) := by rw [hr]; simp [k2]
      have hdr := List.drop_eq_getElem_cons k2
      rw [hdr, ← hr] at hF
      simp only [List.flatMap_cons, ordL, List.cons_append, List.append_assoc] at hF
      obtain ⟨hx, hF⟩ := hF.cons
      have hle := la.ords
      have hls := la.ordts r (by rw [hr]; simp)
      refine rn ?_
      refine aw_draw 8 rfl ?_
      refine rn ?_
      refine aops_e rfl (oe_call rfl rfl (FCall.fr3 (FCall.of_acall (fs := []) (cs := [.v (.pointer (some ⟨bm, 0, none⟩)), .v (.pointer (some ⟨by_, 0, none⟩))]) (sayR step ok IJ y hy 2 r.o hx _ bm by_ _ _ hI))) rfl ?_)
      rintro _ _ ⟨_, rfl, L, hI, rfl⟩
      refine rn ?_
      refine aw_loop' (fun x : Nat × Option σ × List Res => x.1 ≤ r.ts.length ∧ IJ x.2.1 x.2.2 ∧ Rem step ok x.2.1 (((r.ts.drop x.1).map fun t => ((0 : Nat), t)) ++ (((h.ords.drop (k + 1)).flatMap ordL) ++ (h.mats.flatMap matL ++ h.wants.flatMap wanL))) (goes step (some s0) (spokenL h))) (fun x => ⟨[(121, iv x.1), (120, iv (r.ts.map intR).length), (9, iv k), (100, iv k), (99, iv (h.ords.map ordR).length), (1, .v (.pointer (some ⟨b1, 0, none⟩))), (4, .v (.pointer (some ⟨bs, 0, none⟩))), (5, .fn (.func 188) [] [.v (.pointer (some ⟨bs, 0, none⟩))])], .box b1 198 [.v (.pointer (some ⟨bh, 0, none⟩))] :: .box bh 28 (histC h) :: .box bs 244 [.fn (.func 187) [] [.v (.pointer (some ⟨bm, 0, none⟩)), .v (.pointer (some ⟨by_, 0, none⟩))]] :: .box bm 4 [bv (x.2.1).isSome] :: .box by_ 243 [y] :: x.2.2, []⟩) (fun x => r.ts.length - x.1) (0, _, L) ⟨by omega, hI, hF⟩
        (ent_sub (.cons _ _ _ rfl (.cons _ _ _ rfl (.cons _ _ _ rfl (.cons _ _ _ rfl (.cons _ _ _ rfl (.cons _ _ _ rfl (.cons _ _ _ rfl (.cons _ _ _ rfl (.nil)))))))))) ?_
      rintro ⟨j, st, L⟩ ⟨hj, hI, hF⟩
      simp only at hj hI hF
      refine rn ?_
      refine aw_cond rfl (fun hc122 => ?_) (fun hc122 => ?_)
      · have j2 : j < r.ts.length := by simpa using hc122
        obtain ⟨t, ht⟩ : ∃ t, t = r.ts[j] := ⟨_, rfl⟩
        have hrowt : (r.ts.map intR)[j]? = some (intR t) := by rw [ht]; simp [j2]
        have hdt := List.drop_eq_getElem_cons j2
        rw [hdt, ← ht] at hF
        simp only [List.map_cons, List.cons_append] at hF
        obtain ⟨hx, hF⟩ := hF.cons
        refine rn ?_
        refine aw_draw 11 rfl ?_
        refine rn ?_
        refine aops_e rfl (oe_call rfl rfl (FCall.fr3 (FCall.of_acall (fs := []) (cs := [.v (.pointer (some ⟨bm, 0, none⟩)), .v (.pointer (some ⟨by_, 0, none⟩))]) (sayR step ok IJ y hy 0 t hx _ bm by_ _ _ hI))) rfl ?_)
        rintro _ _ ⟨_, rfl, L, hI, rfl⟩
        refine rn ?_
        exact ⟨(j + 1, _, L), ⟨by omega, hI, hF⟩, (ent_sub (.cons _ _ _ rfl (.cons _ _ _ rfl (.cons _ _ _ rfl (.cons _ _ _ rfl (.cons _ _ _ rfl (.cons _ _ _ rfl (.cons _ _ _ rfl (.cons _ _ _ rfl (.nil)))))))))), by simp only; omega⟩
      · obtain rfl : j = r.ts.length := by
          have : r.ts.length ≤ j := by simpa using hc122
          omega
        rw [List.drop_length, List.map_nil, List.nil_append] at hF
        refine rn ?_
        exact ⟨(k + 1, _, L), ⟨by omega, hI, hF⟩, (ent_sub (.cons _ _ _ rfl (.cons _ _ _ rfl (.cons _ _ _ rfl (.cons _ _ _ rfl (.cons _ _ _ rfl (.nil))))))), by simp only; omega⟩
    · obtain rfl : k = h.ords.length := by
        have : h.ords.length ≤ k := by simpa using hc101
        omega
      rw [List.drop_length, List.flatMap_nil, List.nil_append] at hF
      refine rn ?_
      refine aw_loop' (fun x : Nat × Option σ × List Res => x.1 ≤ h.mats.length ∧ IJ x.2.1 x.2.2 ∧ Rem step ok x.2.1 (((h.mats.drop x.1).flatMap matL) ++ h.wants.flatMap wanL) (goes step (some s0) (spokenL h))) (fun x => ⟨[(143, iv x.1), (142, iv (h.mats.map matR).length), (1, .v (.pointer (some ⟨b1, 0, none⟩))), (4, .v (.pointer (some ⟨bs, 0, none⟩))), (5, .fn (.func 188) [] [.v (.pointer (some ⟨bs, 0, none⟩))])], .box b1 198 [.v (.pointer (some ⟨bh, 0, none⟩))] :: .box bh 28 (histC h) :: .box bs 244 [.fn (.func 187) [] [.v (.pointer (some ⟨bm, 0, none⟩)), .v (.pointer (some ⟨by_, 0, none⟩))]] :: .box bm 4 [bv (x.2.1).isSome] :: .box by_ 243 [y] :: x.2.2, []⟩) (fun x => h.mats.length - x.1) (0, st, L) ⟨by omega, hI, hF⟩
        (ent_sub (.cons _ _ _ rfl (.cons _ _ _ rfl (.cons _ _ _ rfl (.cons _ _ _ rfl (.cons _ _ _ rfl (.nil))))))) ?_
      rintro ⟨k, st, L⟩ ⟨hk, hI, hF⟩
      simp only at hk hI hF
      refine rn ?_
      refine aw_cond rfl (fun hc144 => ?_) (fun hc144 => ?_)
      · have k2 : k < h.mats.length := by simpa using hc144
        obtain ⟨r, hr⟩ : ∃ r, r = h.mats[k] := ⟨_, rfl⟩
        have hrowr : (h.mats.map matR)[k]? = some (matR r) := by rw [hr]; simp [k2]
        have hdr := List.drop_eq_getElem_cons k2
        rw [hdr, ← hr] at hF
        simp only [List.flatMap_cons, matL, List.cons_append, List.append_assoc] at hF
        obtain ⟨hx, hF⟩ := hF.cons
        obtain ⟨hx2, hF⟩ := hF.cons
        have hle := la.mats
        have hls := la.matts r (by rw [hr]; simp)
        refine rn ?_
        refine aw_draw 4 rfl ?_
        refine rn ?_
        refine aops_e rfl (oe_call rfl rfl (FCall.fr3 (FCall.of_acall (fs := []) (cs := [.v (.pointer (some ⟨bm, 0, none⟩)), .v (.pointer (some ⟨by_, 0, none⟩))]) (sayR step ok IJ y hy 3 r.p hx _ bm by_ _ _ hI))) rfl ?_)
        rintro _ _ ⟨_, rfl, L, hI, rfl⟩
        refine rn ?_
        refine aw_draw 4 rfl ?_
        refine rn ?_
        refine aops_e rfl (oe_call rfl rfl (FCall.fr3 (FCall.of_acall (fs := []) (cs := [.v (.pointer (some ⟨bm, 0, none⟩)), .v (.pointer (some ⟨by_, 0, none⟩))]) (sayR step ok IJ y hy 2 r.o hx2 _ bm by_ _ _ hI))) rfl ?_)
        rintro _ _ ⟨_, rfl, L, hI, rfl⟩
        refine rn ?_
        refine aw_loop' (fun x : Nat × Option σ × List Res => x.1 ≤ r.ts.length ∧ IJ x.2.1 x.2.2 ∧ Rem step ok x.2.1 (((r.ts.drop x.1).map fun t => ((0 : Nat), t)) ++ (((h.mats.drop (k + 1)).flatMap matL) ++ h.wants.flatMap wanL)) (goes step (some s0) (spokenL h))) (fun x => ⟨[(167, iv x.1), (166, iv (r.ts.map intR).length), (12, .pp (matR r)), (143, iv k), (142, iv (h.mats.map matR).length), (1, .v (.pointer (some ⟨b1, 0, none⟩))), (4, .v (.pointer (some ⟨bs, 0, none⟩))), (5, .fn (.func 188) [] [.v (.pointer (some ⟨bs, 0, none⟩))])], .box b1 198 [.v (.pointer (some ⟨bh, 0, none⟩))] :: .box bh 28 (histC h) :: .box bs 244 [.fn (.func 187) [] [.v (.pointer (some ⟨bm, 0, none⟩)), .v (.pointer (some ⟨by_, 0, none⟩))]] :: .box bm 4 [bv (x.2.1).isSome] :: .box by_ 243 [y] :: x.2.2, []⟩) (fun x => r.ts.length - x.1) (0, _, L) ⟨by omega, hI, hF⟩
          (ent_sub (.cons _ _ _ rfl (.cons _ _ _ rfl (.cons _ _ _ rfl (.cons _ _ _ rfl (.cons _ _ _ rfl (.cons _ _ _ rfl (.cons _ _ _ rfl (.cons _ _ _ rfl (.nil)))))))))) ?_
        rintro ⟨j, st, L⟩ ⟨hj, hI, hF⟩
        simp only at hj hI hF
        refine rn ?_
        refine aw_cond rfl (fun hc168 => ?_) (fun hc168 => ?_)
        · have j2 : j < r.ts.length := by simpa using hc168
          obtain ⟨t, ht⟩ : ∃ t, t = r.ts[j] := ⟨_, rfl⟩
          have hrowt : (r.ts.map intR)[j]? = some (intR t) := by rw [ht]; simp [j2]
          have hdt := List.drop_eq_getElem_cons j2
          rw [hdt, ← ht] at hF
          simp only [List.map_cons, List.cons_append] at hF
          obtain ⟨hx, hF⟩ := hF.cons
          refine rn ?_
          refine aw_draw 7 rfl ?_
          refine rn ?_
          refine aops_e rfl (oe_call rfl rfl (FCall.fr3 (FCall.of_acall (fs := []) (cs := [.v (.pointer (some ⟨bm, 0, none⟩)), .v (.pointer (some ⟨by_, 0, none⟩))]) (sayR step ok IJ y hy 0 t hx _ bm by_ _ _ hI))) rfl ?_)
          rintro _ _ ⟨_, rfl, L, hI, rfl⟩
          refine rn ?_
          exact ⟨(j + 1, _, L), ⟨by omega, hI, hF⟩, (ent_sub (.cons _ _ _ rfl (.cons _ _ _ rfl (.cons _ _ _ rfl (.cons _ _ _ rfl (.cons _ _ _ rfl (.cons _ _ _ rfl (.cons _ _ _ rfl (.cons _ _ _ rfl (.nil)))))))))), by simp only; omega⟩
        · obtain rfl : j = r.ts.length := by
            have : r.ts.length ≤ j := by simpa using hc168
            omega
          rw [List.drop_length, List.map_nil, List.nil_append] at hF
          refine rn ?_
          exact ⟨(k + 1, _, L), ⟨by omega, hI, hF⟩, (ent_sub (.cons _ _ _ rfl (.cons _ _ _ rfl (.cons _ _ _ rfl (.cons _ _ _ rfl (.cons _ _ _ rfl (.nil))))))), by simp only; omega⟩
      · obtain rfl : k = h.mats.length := by
          have : h.mats.length ≤ k := by simpa using hc144
          omega
        rw [List.drop_length, List.flatMap_nil, List.nil_append] at hF
        refine rn ?_
        refine aw_loop' (fun x : Nat × Option σ × List Res => x.1 ≤ h.wants.length ∧ IJ x.2.1 x.2.2 ∧ Rem step ok x.2.1 (((h.wants.drop x.1).flatMap wanL) ++ []) (goes step (some s0) (spokenL h))) (fun x => ⟨[(185, iv x.1), (184, iv (h.wants.map wanR).length), (1, .v (.pointer (some ⟨b1, 0, none⟩))), (4, .v (.pointer (some ⟨bs, 0, none⟩))), (5, .fn (.func 188) [] [.v (.pointer (some ⟨bs, 0, none⟩))])], .box b1 198 [.v (.pointer (some ⟨bh, 0, none⟩))] :: .box bh 28 (histC h) :: .box bs 244 [.fn (.func 187) [] [.v (.pointer (some ⟨bm, 0, none⟩)), .v (.pointer (some ⟨by_, 0, none⟩))]] :: .box bm 4 [bv (x.2.1).isSome] :: .box by_ 243 [y] :: x.2.2, []⟩) (fun x => h.wants.length - x.1) (0, st, L) ⟨by omega, hI, by rw [List.append_nil]; exact hF⟩
          (ent_sub (.cons _ _ _ rfl (.cons _ _ _ rfl (.cons _ _ _ rfl (.cons _ _ _ rfl (.cons _ _ _ rfl (.nil))))))) ?_
        rintro ⟨k, st, L⟩ ⟨hk, hI, hF⟩
        simp only at hk hI hF
        refine rn ?_
        refine aw_cond rfl (fun hc186 => ?_) (fun hc186 => ?_)
        · have k2 : k < h.wants.length := by simpa using hc186
          obtain ⟨r, hr⟩ : ∃ r, r = h.wants[k] := ⟨_, rfl⟩
          have hrowr : (h.wants.map wanR)[k]? = some (wanR r) := by rw [hr]; simp [k2]
          have hdr := List.drop_eq_getElem_cons k2
          rw [hdr, ← hr] at hF
          simp only [List.flatMap_cons, wanL, List.cons_append, List.append_assoc, List.nil_append] at hF
          obtain ⟨hx, hF⟩ := hF.cons
          have hle := la.wants
          refine rn ?_
          refine aw_draw 8 rfl ?_
          refine rn ?_
          refine aops_e rfl (oe_call rfl rfl (FCall.fr3 (FCall.of_acall (fs := []) (cs := [.v (.pointer (some ⟨bm, 0, none⟩)), .v (.pointer (some ⟨by_, 0, none⟩))]) (sayR step ok IJ y hy 1 r.s hx _ bm by_ _ _ hI))) rfl ?_)
          rintro _ _ ⟨_, rfl, L, hI, rfl⟩
          refine rn ?_
          exact ⟨(k + 1, _, L), ⟨by omega, hI, hF⟩, (ent_sub (.cons _ _ _ rfl (.cons _ _ _ rfl (.cons _ _ _ rfl (.cons _ _ _ rfl (.cons _ _ _ rfl (.nil))))))), by simp only; omega⟩
        · obtain rfl : k = h.wants.length := by
            have : h.wants.length ≤ k := by simpa using hc186
            omega
          rw [List.drop_length, List.flatMap_nil, List.nil_append] at hF
          refine rn ?_
          have hF' : st = goes step (some s0) (spokenL h) := hF.fin
          exact retq_n .nil (.trans (.perm ((pt2 _ _ _ _).trans (.cons _ ((pt2 _ _ _ _).trans (.cons _ (pt2 _ _ _ _))))) _) (.drop [_, _, _] _ _)) ⟨L, hF' ▸ hI, rfl⟩
theorem spoken (bh : Nat) (h : List Res) : ACall Tryz.prog 138 [.v (.pointer (some ⟨bh, 0, none⟩))] h (fun r h' => ∃ b1, h' = .box b1 198 [.v (.pointer (some ⟨bh, 0, none⟩))] :: h ∧ r = .fn (.func 186) [] [.v (.pointer (some ⟨b1, 0, none⟩))]) := by
  refine acall_of_aw Tryz.func138 rfl rfl rfl ?_
  refine rn ?_
  refine aops_e rfl (oe_box rfl rfl rfl fun b1 => ?_)
  refine rn ?_
  exact retq (.cons _ _ _ _ (.tmp _ _ rfl) .nil) (.refl _ _) ⟨_, rfl, rfl⟩
end Go.Proofs
/- The walk of history.Check. Conditions: none. -/
set_option linter.unusedVariables false
set_option linter.unusedSimpArgs false
set_option maxRecDepth 10000
namespace Go.Proofs
open Go Go.Ab
attribute [local irreducible] QR QV OE aops aw dsoup dsoupM dalloc dallocM thn inBlk
open Go.H
def IJC (lp : LP) (q b2 b3 : Nat) : Option (List Int) → List Res → Prop
  | some m, L => L = lp .ready none :: .defs q :: .box b3 186 ((m).map iv) :: .box b2 34 [iv 0] :: [.glob 0 186 limitsC, .glob 2 287 firstC, .glob 3 290 acceptC] ∧ m.length = 4
  | none, L => ∃ m : List Int, L = lp .done (some .ret) :: .defs q :: .box b3 186 ((m).map iv) :: .box b2 34 [iv 210] :: [.glob 0 186 limitsC, .glob 2 287 firstC, .glob 3 290 acceptC]
theorem check (h : Hist) (la : Lim 4611686018427387904 h) : ACall Tryz.prog 107 [.agg (histC h)] [.glob 0 186 limitsC, .glob 2 287 firstC, .glob 3 290 acceptC] (fun r h' => h' = [.glob 0 186 limitsC, .glob 2 287 firstC, .glob 3 290 acceptC] ∧ r = iv (checkE h)) := by
  refine acall_of_aw Tryz.func107 rfl rfl rfl ?_
  refine rn ?_
  refine aops_e rfl (oe_box rfl rfl rfl fun b1 => ?_)
  refine aops_e rfl (oe_alloc rfl fun b2 => ?_)
  refine rn ?_
  refine qv rfl rfl (qv_call rfl rfl (FCall.qt (FCall.of_fun (shaped h la)) ((pt2 _ _ _ _).trans (.cons _ ((pt2 _ _ _ _).trans (.cons _ (pt2 _ _ _ _))))))) ?_
  refine rn ?_
  refine aw_cond rfl (fun hc10 => ?_) (fun hc10 => ?_)
  · have hs : shapedB h = false := not_t hc10
    refine rn ?_
    exact retq (.cons _ _ _ _ (.one _ _ _ _ _ _ _ rfl inferInstance inferInstance rfl) .nil) (.drop [_, _] _ _) ⟨rfl, congrArg iv (check_no hs).symm⟩
  · have hs : shapedB h = true := not_f hc10
    refine rn ?_
    refine aops_e rfl (oe_alloc rfl fun b3 => ?_)
    refine rn ?_
    refine aops_e rfl (oe_call rfl rfl (FCall.of_fun (spoken b1 _)) rfl ?_)
    rintro _ _ ⟨b1', rfl, rfl⟩
    refine rn ?_
    refine aw_rf (fun pend h'' => (pend = none ∧ ∃ m : List Int, manyL h = some m ∧ m.length = 4 ∧ h'' = .box b1' 198 [.v (.pointer (some ⟨b1, 0, none⟩))] :: .box b1 28 (histC h) :: .box b3 186 ((m).map iv) :: .box b2 34 [iv 0] :: [.glob 0 186 limitsC, .glob 2 287 firstC, .glob 3 290 acceptC]) ∨ (pend = some .ret ∧ manyL h = none ∧ ∃ m : List Int, h'' = .box b1' 198 [.v (.pointer (some ⟨b1, 0, none⟩))] :: .box b1 28 (histC h) :: .box b3 186 ((m).map iv) :: .box b2 34 [iv 210] :: [.glob 0 186 limitsC, .glob 2 287 firstC, .glob 3 290 acceptC])) rfl (fun fn l q lp hlp => ?_) (fun q h'' hK => ?_) (fun q h'' c hK => ?_)
    · suffices hy : ∀ (s : List Int) (L : List Res) (sort : Nat) (n : Int) (cells : List AV), OkN h (sort, n) → IJC lp q b2 b3 (some s) L → FCall Tryz.prog (yv l) [iv sort, .pp (iv n :: cells)] L (fun r h' => r = bv (manyStep s (sort, n)).isSome ∧ IJC lp q b2 b3 (manyStep s (sort, n)) h') by
        refine ACall.mono (ACall.perm ((pt2 _ _ _ _).trans (.cons _ (pt4 _ _ _ _ _ _))) (spokenR manyStep (OkN h) (IJC lp q b2 b3) (yv l) rfl hy h la b1' b1 (shaped_ok hs) [0, 0, 0, 0] _ ⟨rfl, rfl⟩)) ?_
        rintro _ _ ⟨L', hI, rfl⟩
        cases hm : goes manyStep (some [0, 0, 0, 0]) (spokenL h) with
        | some m =>
          rw [hm] at hI
          obtain ⟨rfl, hl⟩ := hI
          exact ⟨_, _, _, ((pt2 _ _ _ _).trans (.cons _ (pt2 _ _ _ _))), by simp, .inl ⟨rfl, m, hm, hl, rfl⟩⟩
        | none =>
          rw [hm] at hI
          obtain ⟨m, rfl⟩ := hI
          exact ⟨_, _, _, ((pt2 _ _ _ _).trans (.cons _ (pt2 _ _ _ _))), by simp, .inr ⟨rfl, hm, m, rfl⟩⟩
      rintro m _ sort n cells ⟨hs4, hn0, hn1⟩ ⟨rfl, hl⟩
      simp only at hs4 hn0 hn1
      have hnm := la.nm sort
      refine fcall_yl hlp rfl rfl ?_
      refine rn ?_
      refine ⟨[(4, iv sort), (5, .pp (iv n :: cells)), (3, .v (.pointer (some ⟨b3, 0, none⟩))), (2, .v (.pointer (some ⟨b2, 0, none⟩)))], (ent_sub (.cons _ _ _ rfl (.cons _ _ _ rfl (.cons _ _ _ rfl (.cons _ _ _ rfl (.nil)))))), ?_⟩
      refine rn ?_
      refine aw_draw 6 rfl ?_
      refine dq rfl rfl qrA ?_
      refine dq rfl rfl qrA ?_
      refine dq rfl rfl qrA ?_
      refine dq rfl rfl qrA ?_
      refine dq rfl rfl (qr_indexAddr_arr rfl rfl hs4) ?_
      refine dq rfl rfl (qr_load_one rfl (get4 hl hs4)) ?_
      refine rn ?_
      refine aw_cond rfl (fun hc20 => ?_) (fun hc20 => ?_)
      · refine rn ?_
        have hst : manyStep m (sort, n) = none := by rw [manyStep]; exact if_pos (by simpa using hc20)
        exact round_r (.refl _) (by rw [hst]; exact ⟨rfl, _, rfl⟩)
      · refine rn ?_
        refine aw_draw 9 rfl ?_
        refine dq rfl rfl qrA ?_
        refine dq rfl rfl qrA ?_
        refine dq rfl rfl (qr_indexAddr_arr rfl rfl hs4) ?_
        refine dq rfl rfl (qr_load_one rfl (get4 hl hs4)) ?_
        refine rn2 ?_
        refine qq rfl rfl (qr_indexAddr_arr rfl rfl hs4) ?_
        refine aops_e rfl (oe_store rfl rfl rfl rfl (by simp [hl]; omega) ?_)
        refine rn ?_
        have hst : manyStep m (sort, n) = some (m.set sort (max (m.getD sort 0) (n + 1))) := by rw [manyStep]; exact if_neg (by simpa using hc20)
        exact round_n (.refl _) (by rw [hst]; exact ⟨rfl, by rw [← set4 hl hs4]; rfl, by simpa using hl⟩)
    · obtain ⟨_, m, hm, hl, rfl⟩ | ⟨hc, _⟩ := hK
      rotate_left
      · cases hc
      refine rn ?_
      refine qv rfl rfl (qv_call rfl rfl (pcall (names _) (Sbs.refl _))) ?_
      refine rn ?_
      refine aw_loop' (fun k : Nat => k ≤ 4 ∧ ∀ j, j < k → m.getD j 0 = (nmK h j).length) (fun k => ⟨[(33, iv k), (32, .agg (namesC h)), (3, .v (.pointer (some ⟨b3, 0, none⟩))), (2, .v (.pointer (some ⟨b2, 0, none⟩)))], .defs q :: .box b1' 198 [.v (.pointer (some ⟨b1, 0, none⟩))] :: .box b1 28 (histC h) :: .box b3 186 ((m).map iv) :: .box b2 34 [iv 0] :: [.glob 0 186 limitsC, .glob 2 287 firstC, .glob 3 290 acceptC], [q]⟩) (fun k => 4 - k) 0 ⟨by omega, fun j hj => absurd hj (Nat.not_lt_zero j)⟩
        (ent_sub (.cons _ _ _ rfl (.cons _ _ _ rfl (.cons _ _ _ rfl (.cons _ _ _ rfl (.nil)))))) ?_
      rintro k ⟨hk, hz⟩
      refine rn ?_
      refine aw_cond rfl (fun hc34 => ?_) (fun hc34 => ?_)
      · have hk4 : k < 4 := by simp at hc34; omega
        refine aw_skip ?_
        refine thn_n ?_
        refine aw_seq ?_
        refine aw_block ?_
        refine aw_seq (aw_region ?_)
        refine q1 ?_
        refine qq rfl rfl (qr_index_arr_one rfl rfl (by omega) (by have := nmK_get h hk4; simpa using this)) ?_
        refine q1 ?_
        refine q1 ?_
        refine aops_nil (thn_n ?_)
        refine aw_seq (aw_region ?_)
        refine q1 ?_
        refine qq rfl rfl (qr_indexAddr_arr rfl rfl hk4) ?_
        refine qq rfl rfl (qr_load_one rfl (get4 hl hk4)) ?_
        refine rn ?_
        refine aw_cond rfl (fun hc42 => ?_) (fun hc42 => ?_)
        · refine rn ?_
          exact retqd (.refl _) (.cons _ _ _ _ (.one _ _ _ _ _ _ _ rfl inferInstance inferInstance rfl) .nil) (.drop [_, _, _, _] _ _) ⟨rfl, congrArg iv (check_ne hm hk4 (by simpa using hc42)).symm⟩
        · refine rn ?_
          exact ⟨k + 1, ⟨by omega, fun j hj => by
            by_cases hjk : j = k
            · subst hjk; simpa using hc42
            · exact hz j (by omega)⟩, (ent_sub (.cons _ _ _ rfl (.cons _ _ _ rfl (.cons _ _ _ rfl (.cons _ _ _ rfl (.nil)))))), by omega⟩
      · have hk4 : k = 4 := by simp at hc34; omega
        subst hk4
        refine rn ?_
        exact retqd (.refl _) (.cons _ _ _ _ (.one _ _ _ _ _ _ _ rfl inferInstance inferInstance rfl) .nil) (.drop [_, _, _, _] _ _) ⟨rfl, congrArg iv (check_eq hs hm hl hz).symm⟩
    · obtain ⟨hc, _⟩ | ⟨hc, hm, m, rfl⟩ := hK
      · cases hc
      obtain rfl : c = .ret := by simpa using hc
      refine rn ?_
      exact retqd (.refl _) (.cons _ _ _ _ (.one _ _ _ _ _ _ _ rfl inferInstance inferInstance rfl) .nil) (.drop [_, _, _, _] _ _) ⟨rfl, congrArg iv (check_none hm).symm⟩
end Go.Proofs
/- The walks of rules.First, Place, Sound, Writers. Conditions: none. -/
set_option linter.unusedVariables false
set_option linter.unusedSimpArgs false
set_option maxRecDepth 10000
namespace Go.Proofs
open Go Go.Ab
attribute [local irreducible] QR QV OE aops aw dsoup dsoupM dalloc dallocM thn inBlk jsoup jch lsoup
open Go.H
/-- What the rules ask: the functions, as they are laid. -/
def asksC : List AV := [.any, .fn (.func 259) [] [], .fn (.func 261) [] [], .fn (.func 262) [] [], .fn (.func 263) [] [], .fn (.func 264) [] [], .fn (.func 265) [] [], .fn (.func 266) [] [], .fn (.func 267) [] [], .fn (.func 268) [] [], .fn (.func 269) [] []]
def askF (k : Nat) : AV := asksC.getD k .any
theorem ask_get {k : Nat} (h2 : k ≤ 10) : asksC[k]? = some (askF k) := by
  have : k < asksC.length := by show k < 11; omega
  rw [askF, List.getD_eq_getElem?_getD, List.getElem?_eq_getElem this]; rfl
theorem ask_call (h : Hist) (la : Lim 3000 h) (b : Nat) (G : List Res) {k : Nat} (h1 : 1 ≤ k) (h2 : k ≤ 10) : FCall Tryz.prog (askF k) [.v (.pointer (some ⟨b, 0, none⟩))] (.box b 256 (lookN h) :: G) (fun r h' => h' = G ∧ r = placeV (placeP h k)) := by
  match k, h1, h2 with
  | 1, _, _ => exact FCall.of_acall (fs := []) (cs := []) (rBegin h la b G)
  | 2, _, _ => exact FCall.of_acall (fs := []) (cs := []) (rEnd h la b G)
  | 3, _, _ => exact FCall.of_acall (fs := []) (cs := []) (rCount h la b G)
  | 4, _, _ => exact FCall.of_acall (fs := []) (cs := []) (rWritten h la b G)
  | 5, _, _ => exact FCall.of_acall (fs := []) (cs := []) (rOwn h la b G)
  | 6, _, _ => exact FCall.of_acall (fs := []) (cs := []) (rScan h la b G)
  | 7, _, _ => exact FCall.of_acall (fs := []) (cs := []) (rOrder h la b G)
  | 8, _, _ => exact FCall.of_acall (fs := []) (cs := []) (rMissing h la b G)
  | 9, _, _ => exact FCall.of_acall (fs := []) (cs := []) (rMatch h la b G)
  | 10, _, _ => exact FCall.of_acall (fs := []) (cs := []) (rWant h la b G)
  | k + 11, _, h2 => omega
theorem place_t {o : Option Nat} {i : Int} {b : Bool} (h : placeV o = .tup [iv i, bv b]) : i = natI o ∧ b = o.isSome := by
  cases o with
  | none => simp only [placeV, AV.tup.injEq, List.cons.injEq, AV.v.injEq, Value.int.injEq, Value.bool.injEq, true_and, and_true] at h; exact ⟨h.1.symm, h.2.symm⟩
  | some n => simp only [placeV, AV.tup.injEq, List.cons.injEq, AV.v.injEq, Value.int.injEq, Value.bool.injEq, true_and, and_true] at h; exact ⟨h.1.symm, h.2.symm⟩
theorem may3000 {h : Hist} (hm : mayB h = true) : Lim 3000 h := by
  unfold mayB at hm; simp only [Bool.and_eq_true] at hm; exact shaped_lim hm.1
theorem rFirst (h : Hist) (la : Lim 4611686018427387904 h) : ACall Tryz.prog 140 [.agg (histC h)] [.glob 0 186 limitsC, .glob 2 287 firstC, .glob 3 290 acceptC, .glob 1 250 asksC] (fun r h' => h' = [.glob 0 186 limitsC, .glob 2 287 firstC, .glob 3 290 acceptC, .glob 1 250 asksC] ∧ r = firstAns h) := by
  refine acall_of_aw Tryz.func140 rfl rfl rfl ?_
  refine rn ?_
  refine aops_e rfl (oe_box rfl rfl rfl fun b1 => ?_)
  refine aops_e rfl (oe_alloc rfl fun b2 => ?_)
  refine rn ?_
  refine qv rfl rfl (qv_call rfl rfl (FCall.qt (FCall.of_fun (check h la)) ((pt2 _ _ _ _).trans (.cons _ ((pt2 _ _ _ _).trans (.cons _ (pt2 _ _ _ _))))))) ?_
  refine rn ?_
  refine aw_cond rfl (fun hc12 => ?_) (fun hc12 => ?_)
  · have hm : ¬ mayB h = true := by intro q; rw [checkE, if_pos q] at hc12; cases hc12
    have he : checkE h = 210 := by rw [checkE, if_neg hm]
    refine rn ?_
    exact retq (.cons _ _ _ _ (.agg _ _ _ _ _ _ _ rfl inferInstance inferInstance inferInstance rfl) (.cons _ _ _ _ (.tmp _ _ rfl) (.cons _ _ _ _ (.tmp _ _ rfl) .nil))) (.drop [_, _] _ _) ⟨rfl, by rw [firstAns, if_neg hm, he]; rfl⟩
  · have hm : mayB h = true := check_0.1 (by simpa using hc12)
    have la3 := may3000 hm
    refine rn ?_
    refine aw_while (fun k : Nat => (1 ≤ k ∧ k ≤ 11) ∧ firstIn (placeP h) rules10 = firstIn (placeP h) (rules10.drop (k - 1))) (fun k => ⟨[(6, iv k), (1, .v (.pointer (some ⟨b1, 0, none⟩))), (2, .v (.pointer (some ⟨b2, 0, none⟩)))], (.box b2 188 [iv 0, iv 0] :: .box b1 28 (histC h) :: .glob 0 186 limitsC :: .glob 2 287 firstC :: .glob 3 290 acceptC :: .glob 1 250 asksC :: []), []⟩) (fun k => 11 - k) 1 ⟨by omega, rfl⟩ es ?_
    rintro k ⟨⟨k1, k3⟩, zk⟩
    obtain ⟨pi, pb, hpv⟩ : ∃ i b, placeV (placeP h k) = .tup [iv i, bv b] := place_ib _
    obtain ⟨ei, eb⟩ := place_t hpv
    refine rn ?_
    refine aw_cond rfl (fun hc16 => ?_) (fun hc16 => ?_)
    · have k2 : k ≤ 10 := by have := of_decide_eq_true hc16; omega
      refine aw_skip ?_
      refine rn0 ?_
      refine aw_seq ?_
      refine aw_block ?_
      refine aw_seq ?_
      refine aw_drawX 11 [5, 6] [7, 8, 9, 10] (fun he => he = (.box b2 188 [iv 0, iv 0] :: .box b1 28 (histC h) :: .glob 0 186 limitsC :: .glob 2 287 firstC :: .glob 3 290 acceptC :: .glob 1 250 asksC :: []) ∨ ∃ b, he = .box b 256 (lookN h) :: (.box b2 188 [iv 0, iv 0] :: .box b1 28 (histC h) :: .glob 0 186 limitsC :: .glob 2 287 firstC :: .glob 3 290 acceptC :: .glob 1 250 asksC :: [])) rfl rfl (.inl rfl) ?_
      refine jq rfl (fun he hC => by rcases hC with rfl | ⟨b, rfl⟩ <;> exact qrA) ?_
      refine jq rfl (fun he hC => by rcases hC with rfl | ⟨b, rfl⟩ <;> exact (by exact qr_indexAddr_arr rfl rfl (by show k < 11; omega))) ?_
      refine jq rfl (fun he hC => by rcases hC with rfl | ⟨b, rfl⟩ <;> exact (by exact qr_load_one rfl (show asksC[0 + k * 1]? = some (askF k) by rw [Nat.zero_add, Nat.mul_one]; exact ask_get k2))) ?_
      refine jq rfl (fun he hC => by rcases hC with rfl | ⟨b, rfl⟩ <;> exact qrA) ?_
      refine jq rfl (fun he hC => by rcases hC with rfl | ⟨b, rfl⟩ <;> exact (by exact qr_build (out := lookN h) rfl (by rfl))) ?_
      refine je rfl ?_
      refine je rfl ?_
      refine je rfl ?_
      refine je rfl ?_
      refine je rfl ?_
      refine je rfl ?_
      refine jnil ?_
      refine jce rfl fun u => ?_
      refine oe_box rfl rfl rfl fun b5 => ⟨_, _, rfl, .inr ⟨_, rfl⟩, ?_⟩
      refine jce rfl fun u => ?_
      refine oe_call rfl rfl (ask_call h la3 b5 _ k1 k2) rfl ?_
      rintro _ _ ⟨rfl, rfl⟩
      rw [hpv]
      refine ⟨_, _, rfl, .inl rfl, ?_⟩
      refine jcn ?_
      refine lq rfl rfl (by exact qrA) ?_
      refine lq rfl rfl (by exact qrA) ?_
      refine lq rfl rfl (by exact qrA) ?_
      refine lq rfl rfl (by exact qrA) ?_
      refine ln ?_
      refine rn ?_
      refine aw_cond rfl (fun hc29 => ?_) (fun hc29 => ?_)
      · refine rn ?_
        exact retq (.cons _ _ _ _ (.agg _ _ _ _ _ _ _ rfl inferInstance inferInstance inferInstance rfl) (.cons _ _ _ _ (.tmp _ _ rfl) (.cons _ _ _ _ (.tmp _ _ rfl) .nil))) (.drop [_, _] _ _) ⟨rfl, by
          cases hp : placeP h k with
          | none => rw [hp] at eb; rw [eb] at hc29; cases hc29
          | some n => rw [hp] at ei; subst ei; rw [firstAns, if_pos hm, firstH, first_hit k1 k2 zk hp]; rfl⟩
      · refine rn ?_
        exact ⟨k + 1, ⟨by omega, first_step k1 k2 zk (by cases hp : placeP h k with | none => rfl | some n => rw [hp] at eb; rw [eb] at hc29; cases hc29)⟩, eA, by omega⟩
    · have k2 : 11 ≤ k := by have := of_decide_eq_false hc16; omega
      refine rn ?_
      exact retq (.cons _ _ _ _ (.agg _ _ _ _ _ _ _ rfl inferInstance inferInstance inferInstance rfl) (.cons _ _ _ _ (.tmp _ _ rfl) (.cons _ _ _ _ (.tmp _ _ rfl) .nil))) (.drop [_, _] _ _) ⟨rfl, by rw [firstAns, if_pos hm, firstH, first_over k2 k3 zk]; rfl⟩
theorem rSound (h : Hist) (la : Lim 4611686018427387904 h) : ACall Tryz.prog 108 [.agg (histC h)] [.glob 0 186 limitsC, .glob 2 287 firstC, .glob 3 290 acceptC, .glob 1 250 asksC] (fun r h' => h' = [.glob 0 186 limitsC, .glob 2 287 firstC, .glob 3 290 acceptC, .glob 1 250 asksC] ∧ r = bv (soundB h)) := by
  refine acall_of_aw Tryz.func108 rfl rfl rfl ?_
  refine rn ?_
  refine aops_e rfl (oe_box rfl rfl rfl fun b1 => ?_)
  refine q1 ?_
  refine aops_nil (thn_n ?_)
  refine aw_seq (aw_region ?_)
  obtain ⟨fi, fj, fb, fe, hf, hfb⟩ := firstAns_tup h
  refine rn ?_
  refine qv rfl rfl (qv_call rfl rfl (FCall.qt (FCall.of_fun (rFirst h la)) ((pt1 _ _ _).trans (.cons _ ((pt1 _ _ _).trans (.cons _ ((pt1 _ _ _).trans (.cons _ (pt1 _ _ _))))))))) ?_
  rw [hf]
  refine rn ?_
  refine aops_e rfl (oe_alloc rfl fun b3 => ?_)
  refine rn ?_
  refine asplit (fun hg2_2 => ?_) (fun hg2_2 => ?_)
  · refine rn ?_
    refine rq 2 ?_
    exact ⟨rfl, congrArg bv (by rw [hfb]; simp_all)⟩
  · refine rn ?_
    refine rq 2 ?_
    exact ⟨rfl, congrArg bv (by rw [hfb]; simp_all)⟩
end Go.Proofs
/- The listed table of functions, as the walk looks at it. Conditions: none. -/
set_option linter.unusedVariables false
set_option maxRecDepth 100000
namespace Go.Proofs.YtkoaoaogmlpocaaGreatDoor
open Go Go.Ab Go.H
def asksD : DataW Unit := match (Rows.laid_yardarm_rules_asks : DataW Unit) with | .iface _ d => d | d => d
def namesA : List (List UInt8) := match asksD with | .agg ds => ds.map (fun d => match d with | .iface _ (.lit (.string b)) => b | _ => []) | _ => []
def nm (k : Nat) : List UInt8 := namesA.getD (k + 1) []
theorem asksD_out : asksD.funcsOut = .agg (.nil :: (namesA.drop 1).map .held) := by kernel_rfl
theorem glob_any {w : World} {c : Array Value} {T0 : TypeId} {fr : Nat × Nat} {g : Nat} {T : TypeId} {vs : List AV} (hh : w.heap[g]? = some (.cells c T0 fr)) (hl : vs.length = c.size) (h : ∀ j (h1 : j < vs.length) (h2 : j < c.size), Rel w noX vs[j] c[j]) : (Res.glob g T vs).holds w noX :=
  ⟨fun h => h, (Array.getElem?_eq_some_iff.1 hh).1, c, T0, fr, hh, hl, fun j h1 h2 => h j h1 h2⟩
theorem fn_rel (w : World) (f : Nat) : Rel w noX (.fn (.func f) [] []) (.func (.func f) #[] #[]) := .fn _ _ _ _ _ rfl rfl (fun j h => absurd h (Nat.not_lt_zero _)) (fun j h => absurd h (Nat.not_lt_zero _))
def fnA : List Nat := [259, 261, 262, 263, 264, 265, 266, 267, 268, 269]
theorem asks_one (k : Nat) (hk : k < 10) : ∃ b r, namesA[k + 1]? = some (b :: r) ∧ ((List.range Tryz.prog.funcs.size).filter fun f => (Tryz.prog.funcs[f]?).any (·.name.toUTF8.data.toList == b :: r)) = [fnA.getD k 0] ∧ asksC[k + 1]? = some (.fn (.func (fnA.getD k 0)) [] []) := by
  match k, hk with
  | 0, _ => exact ⟨(nm 0).headD 0, (nm 0).tail, by kernel_rfl, by kernel_rfl, by kernel_rfl⟩
  | 1, _ => exact ⟨(nm 1).headD 0, (nm 1).tail, by kernel_rfl, by kernel_rfl, by kernel_rfl⟩
  | 2, _ => exact ⟨(nm 2).headD 0, (nm 2).tail, by kernel_rfl, by kernel_rfl, by kernel_rfl⟩
  | 3, _ => exact ⟨(nm 3).headD 0, (nm 3).tail, by kernel_rfl, by kernel_rfl, by kernel_rfl⟩
  | 4, _ => exact ⟨(nm 4).headD 0, (nm 4).tail, by kernel_rfl, by kernel_rfl, by kernel_rfl⟩
  | 5, _ => exact ⟨(nm 5).headD 0, (nm 5).tail, by kernel_rfl, by kernel_rfl, by kernel_rfl⟩
  | 6, _ => exact ⟨(nm 6).headD 0, (nm 6).tail, by kernel_rfl, by kernel_rfl, by kernel_rfl⟩
  | 7, _ => exact ⟨(nm 7).headD 0, (nm 7).tail, by kernel_rfl, by kernel_rfl, by kernel_rfl⟩
  | 8, _ => exact ⟨(nm 8).headD 0, (nm 8).tail, by kernel_rfl, by kernel_rfl, by kernel_rfl⟩
  | 9, _ => exact ⟨(nm 9).headD 0, (nm 9).tail, by kernel_rfl, by kernel_rfl, by kernel_rfl⟩
theorem glob3 {w : World} (h : laidMetH Tryz.prog laid4 w) : (Res.glob 1 250 asksC).holds w noX := by
  obtain ⟨g, t, cs, fuel, p, hg, ht, hv, hd⟩ := h.funcs (n := "yardarm/rules.asks") (d := asksD) (.tail _ (.tail _ (.head _)))
  obtain rfl := Option.some.inj ((show Tryz.prog.globalNamed "yardarm/rules.asks" = some 1 by kernel_rfl).symm.trans hg)
  obtain rfl := Option.some.inj ((show (Tryz.prog.globals[1]?).map (·.type) = some 250 by kernel_rfl).symm.trans ht)
  rw [asksD_out] at hd
  have c1 : Tryz.prog.cellsOf 249 = 1 := by kernel_rfl
  have c11 : Tryz.prog.cellsOf 250 = 11 := by kernel_rfl
  have hlen : cs.toList.length = 11 := by
    obtain ⟨_, _, _, _, hl, _⟩ := DataW.trod_array Tryz.underlying250 hd
    rw [hl, c11]
  unfold World.var? at hv
  rw [hg] at hv
  simp only [Option.bind_some] at hv
  split at hv
  · rename_i c T0 fr hh
    cases hv
    refine glob_any hh (by rw [show asksC.length = 11 from rfl]; simpa using hlen.symm) fun j h1 h2 => ?_
    cases j with
    | zero => exact .any _
    | succ k =>
      have hk : k < 10 := by have : asksC.length = 11 := rfl; omega
      obtain ⟨b, r, hn, hone, ha⟩ := asks_one k hk
      obtain ⟨f', d, q, e1, e2⟩ := Lib.array_elem Tryz.underlying250 hd (k + 1) (by omega)
      have e1' : d = .held (b :: r) := by
        rw [List.getElem?_cons_succ, List.getElem?_map, List.getElem?_drop, Nat.add_comm 1 k, hn] at e1
        exact (Option.some.inj e1).symm
      subst e1'
      rw [c1, Nat.mul_one, List.drop_eq_getElem_cons (by simpa using h2), List.take_succ_cons, List.take_zero] at e2
      have := func_of_trod (f0 := fnA.getD k 0) Tryz.underlying249 hone e2
      rw [Array.getElem_toList] at this
      rw [this, show asksC[k + 1] = .fn (.func (fnA.getD k 0)) [] [] from Option.some.inj ((List.getElem?_eq_getElem h1).symm.trans ha)]
      exact fn_rel _ _
  · cases hv
theorem laid_hrel4 {W : World} (h : laidMetH Tryz.prog laid4 W) : HRel noX W [.glob 0 186 limitsC, .glob 2 287 firstC, .glob 3 290 acceptC, .glob 1 250 asksC] := by
  obtain ⟨a, b, c, d⟩ := laid_hrel h
  have hO : OO [.glob 0 186 limitsC, .glob 2 287 firstC, .glob 3 290 acceptC] noX = noX := OO_G3
  have hO' : OO [.glob 0 186 limitsC, .glob 2 287 firstC, .glob 3 290 acceptC, .glob 1 250 asksC] noX = noX := by funext b; simp [OO, owns, noX, Res.own]
  refine ⟨by simp [owns, Res.own], fun b hb => by simp [owns, Res.own] at hb, fun b hb => hb.elim, fun r hr => ?_⟩
  rw [hO']
  rw [hO] at d
  simp only [List.mem_cons, List.not_mem_nil, or_false] at hr
  rcases hr with rfl | rfl | rfl | rfl
  · exact d _ (by simp)
  · exact d _ (by simp)
  · exact d _ (by simp)
  · exact glob3 h
theorem OO_G4 : OO [.glob 0 186 limitsC, .glob 2 287 firstC, .glob 3 290 acceptC, .glob 1 250 asksC] noX = noX := by funext b; simp [OO, owns, noX, Res.own]
end Go.Proofs.YtkoaoaogmlpocaaGreatDoor
/- The walks of the references' small functions. Conditions: none. -/
set_option linter.unusedVariables false
set_option linter.unusedSimpArgs false
set_option maxRecDepth 10000
namespace Go.Proofs
open Go Go.Ab
attribute [local irreducible] QR QV OE aops aw dsoup dsoupM dalloc dallocM thn inBlk
open Go.H
end Go.Proofs
/- The walks of the references' tests. Conditions: none. -/
set_option linter.unusedVariables false
set_option linter.unusedSimpArgs false
set_option maxRecDepth 10000
namespace Go.Proofs
open Go Go.Ab
attribute [local irreducible] QR QV OE aops aw dsoup dsoupM dalloc dallocM thn inBlk
open Go.H
end Go.Proofs
/- A loop over so many places, with what it reckons. Conditions: none. -/
set_option linter.unusedVariables false
namespace Go.Ab
open Go
section
variable {P : Program} {ro : Option Nat} {nt : Nat} {c : Code} {Q : Exit → St → Prop} {t : Fr} {h : List Res} {ds : List Nat}
theorem aw_rngS {σ : Type} (n : Nat) (p : Nat → σ → Prop) (v : Nat → σ → Fr) (cs : Fr) (x0 : σ) (hp : p 0 x0)
    (round : ∀ k x, k ≤ n → p k x → aw P ro nt c (thn (fun s' => k < n ∧ ∃ x', p (k + 1) x' ∧ Ent nt s' ⟨v (k + 1) x' ++ cs, h, ds⟩) Q) ⟨v k x ++ cs, h, ds⟩)
    (hs : SubF t (v 0 x0 ++ cs) := by repeat (first | exact .nil | refine .cons _ _ _ rfl ?_)) : aw P ro nt (.loop c) Q ⟨t, h, ds⟩ :=
  aw_loop' (fun x : Nat × σ => x.1 ≤ n ∧ p x.1 x.2) (fun x => ⟨v x.1 x.2 ++ cs, h, ds⟩) (fun x => n - x.1) (0, x0) ⟨Nat.zero_le _, hp⟩ (ent_sub hs) fun x hk => aw_mono (fun e s' hq => by
    cases e with
    | normal =>
      obtain ⟨h1, x', h2, h3⟩ := hq
      exact ⟨(x.1 + 1, x'), ⟨h1, h2⟩, h3, by simp only; omega⟩
    | _ => exact hq) (round x.1 x.2 hk.1 hk.2)
end
end Go.Ab
/- The walks of package level, and of the reference 09's All. Conditions: none. -/
set_option linter.unusedVariables false
set_option linter.unusedSimpArgs false
set_option maxRecDepth 10000
namespace Go.Proofs
open Go Go.Ab
attribute [local irreducible] QR QV OE aops aw dsoup dsoupM dalloc dallocM thn inBlk jsoup jch lsoup
open Go.H
def rowL (l : List Int) : List AV := [intsA l]
end Go.Proofs
/- Comparisons of structs of numbers. Conditions: none. -/
set_option linter.unusedVariables false
set_option linter.unusedSimpArgs false
set_option maxRecDepth 10000
namespace Go.Proofs
open Go Go.Ab
instance : EqInts Tryz.prog 70 7 := ⟨by kernel_rfl, fun w xs ys h1 h2 => match xs, ys, h1, h2 with
  | [a0, a1, a2, a3, a4, a5, a6], [c0, c1, c2, c3, c4, c5, c6], _, _ => by
    rw [run_equalIn_struct w 9999 70 _ _ (by kernel_rfl) (by kernel_rfl)]
    simp only [Program.fieldsOf, Tryz.underlying70]
    simp [Op.eqFields, part, run_equalIn_int _ 9998 3 .i64 .i64 _ _ Tryz.underlying3]
    by_cases h0 : a0 = c0
    case neg => simp [h0]
    subst h0
    by_cases h1 : a1 = c1
    case neg => simp [h1]
    subst h1
    by_cases h2 : a2 = c2
    case neg => simp [h2]
    subst h2
    by_cases h3 : a3 = c3
    case neg => simp [h3]
    subst h3
    by_cases h4 : a4 = c4
    case neg => simp [h4]
    subst h4
    by_cases h5 : a5 = c5
    case neg => simp [h5]
    subst h5
    by_cases h6 : a6 = c6
    case neg => simp [h6]
    subst h6
    simp⟩
end Go.Proofs
/- Of a drawn region: an operation that waits for effects, and is passed over. Conditions: none. -/
namespace Go.Ab
open Go
end Go.Ab
