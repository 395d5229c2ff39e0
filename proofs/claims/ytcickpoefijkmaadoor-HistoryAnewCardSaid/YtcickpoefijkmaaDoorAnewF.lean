/- The decoding of runes. Conditions: none. -/
import Derived.Test.YtcickpoefijkmaaDoorAnewE
set_option linter.unusedVariables false
set_option linter.unusedSimpArgs false
set_option maxRecDepth 10000
namespace Go.Proofs
open Go Go.Ab
open Go.H
theorem decodeSlow240 (s : ByteArray) (hx : firstV (bt s 0).toNat = 240) : ACall Tryd.prog 88 [.v (.string s)] [.glob 1 129 firstC, .glob 2 133 acceptC] (fun r h' => h' = [.glob 1 129 firstC, .glob 2 133 acceptC] ∧ r = .tup [.v (.int .i32 (decSlow s).1), iv (decSlow s).2]) := by
  refine acall_of_aw Tryd.func88 rfl rfl rfl ?_
  refine aw_seq (aw_region ?_)
  refine qq rfl rfl (qr_assign rfl) ?_
  refine qq rfl rfl (qr_assign rfl) ?_
  refine aops_nil (thn_n ?_)
  refine aw_seq (aw_region ?_)
  refine qq rfl rfl (qr_move rfl) ?_
  refine qq rfl rfl (qr_len_string rfl) ?_
  refine qq rfl rfl (qr_assign rfl) ?_
  refine aops_nil (thn_n ?_)
  refine aw_seq ?_
  refine aw_seq (aw_region ?_)
  refine qq rfl rfl (qr_move rfl) ?_
  refine qq rfl rfl (qr_cmp rfl rfl rfl) ?_
  refine aops_nil (thn_n ?_)
  refine aw_cond rfl (fun hc16 => ?_) (fun hc16 => ?_)
  · refine aw_seq (aw_region ?_)
    refine qq rfl rfl (qr_assign rfl) ?_
    refine qq rfl rfl (qr_assign rfl) ?_
    refine aops_nil (thn_n ?_)
    refine aw_ret ?_
    refine thn_r ?_
    have hd : decSlow s = (65533, 0) := by
      unfold decSlow
      rw [if_pos (by simp at hc16; omega)]
    exact retq (.cons _ _ _ _ (.tmp _ _ rfl) (.cons _ _ _ _ (.tmp _ _ rfl) .nil)) (.refl _ _) ⟨rfl, by rw [hd]; rfl⟩
  · have h1 : 0 < s.size := by simp at hc16; omega
    refine aw_skip ?_
    refine thn_n ?_
    refine aw_seq (aw_region ?_)
    refine qq rfl rfl (qr_move rfl) ?_
    refine qq rfl rfl (qr_index_bt 0 rfl rfl (by omega)) ?_
    refine qq rfl rfl (qr_assign rfl) ?_
    refine aops_nil (thn_n ?_)
    refine aw_seq (aw_region ?_)
    refine qq rfl rfl (qr_move rfl) ?_
    refine qq rfl rfl (qr_indexAddr_int rfl rfl (bt_ge _ _) (bt_lt _ _)) ?_
    refine qq rfl rfl (qr_load_one rfl (show _ = some (.v (.int .u8 240)) from by rw [firstC_get (bt_ge s 0) (bt_lt s 0), hx])) ?_
    refine qq rfl rfl (qr_assign rfl) ?_
    refine aops_nil (thn_n ?_)
    refine aw_seq ?_
    refine aw_seq (aw_region ?_)
    refine qq rfl rfl (qr_move rfl) ?_
    refine qq rfl rfl (qr_cmp rfl rfl rfl) ?_
    refine aops_nil (thn_n ?_)
    refine aw_cond rfl (fun hc23 => ?_) (fun hc23 => ?_)
    · refine aw_seq (aw_region ?_)
      refine qq rfl rfl (qr_move rfl) ?_
      refine qq rfl rfl (qr_convert rfl rfl) ?_
      refine qq rfl rfl (qr_shift rfl rfl rfl (by decide)) ?_
      refine qq rfl rfl (qr_shift rfl rfl rfl (by decide)) ?_
      refine qq rfl rfl (qr_assign rfl) ?_
      refine aops_nil (thn_n ?_)
      refine aw_seq (aw_region ?_)
      refine qq rfl rfl (qr_move rfl) ?_
      refine qq rfl rfl (qr_index_bt 0 rfl rfl (by omega)) ?_
      refine qq rfl rfl (qr_convert rfl rfl) ?_
      refine qq rfl rfl (qr_move rfl) ?_
      refine qq rfl rfl (qr_bits rfl rfl rfl) ?_
      refine qq rfl rfl (qr_move rfl) ?_
      refine qq rfl rfl (qr_bits rfl rfl rfl) ?_
      refine qq rfl rfl (qr_bits rfl rfl rfl) ?_
      refine qq rfl rfl (qr_assign rfl) ?_
      refine qq rfl rfl (qr_assign rfl) ?_
      refine aops_nil (thn_n ?_)
      refine aw_ret ?_
      refine thn_r ?_
      have hd : decSlow s = (bI .or .i32 (bI .andNot .i32 (IntKind.i32.wrap (bt s 0)) (decMask 240)) (bI .and .i32 65533 (decMask 240)), 1) := by
        unfold decSlow
        rw [if_neg (by omega)]
        simp only [hx]
        rw [if_pos (by decide)]
      exact retq (.cons _ _ _ _ (.tmp _ _ rfl) (.cons _ _ _ _ (.tmp _ _ rfl) .nil)) (.refl _ _) ⟨rfl, by rw [hd]; rfl⟩
    · first | cases hc23 | exact absurd hc23 (by decide)
theorem decodeSlow241 (s : ByteArray) (hx : firstV (bt s 0).toNat = 241) : ACall Tryd.prog 88 [.v (.string s)] [.glob 1 129 firstC, .glob 2 133 acceptC] (fun r h' => h' = [.glob 1 129 firstC, .glob 2 133 acceptC] ∧ r = .tup [.v (.int .i32 (decSlow s).1), iv (decSlow s).2]) := by
  refine acall_of_aw Tryd.func88 rfl rfl rfl ?_
  refine aw_seq (aw_region ?_)
  refine qq rfl rfl (qr_assign rfl) ?_
  refine qq rfl rfl (qr_assign rfl) ?_
  refine aops_nil (thn_n ?_)
  refine aw_seq (aw_region ?_)
  refine qq rfl rfl (qr_move rfl) ?_
  refine qq rfl rfl (qr_len_string rfl) ?_
  refine qq rfl rfl (qr_assign rfl) ?_
  refine aops_nil (thn_n ?_)
  refine aw_seq ?_
  refine aw_seq (aw_region ?_)
  refine qq rfl rfl (qr_move rfl) ?_
  refine qq rfl rfl (qr_cmp rfl rfl rfl) ?_
  refine aops_nil (thn_n ?_)
  refine aw_cond rfl (fun hc16 => ?_) (fun hc16 => ?_)
  · refine aw_seq (aw_region ?_)
    refine qq rfl rfl (qr_assign rfl) ?_
    refine qq rfl rfl (qr_assign rfl) ?_
    refine aops_nil (thn_n ?_)
    refine aw_ret ?_
    refine thn_r ?_
    have hd : decSlow s = (65533, 0) := by
      unfold decSlow
      rw [if_pos (by simp at hc16; omega)]
    exact retq (.cons _ _ _ _ (.tmp _ _ rfl) (.cons _ _ _ _ (.tmp _ _ rfl) .nil)) (.refl _ _) ⟨rfl, by rw [hd]; rfl⟩
  · have h1 : 0 < s.size := by simp at hc16; omega
    refine aw_skip ?_
    refine thn_n ?_
    refine aw_seq (aw_region ?_)
    refine qq rfl rfl (qr_move rfl) ?_
    refine qq rfl rfl (qr_index_bt 0 rfl rfl (by omega)) ?_
    refine qq rfl rfl (qr_assign rfl) ?_
    refine aops_nil (thn_n ?_)
    refine aw_seq (aw_region ?_)
    refine qq rfl rfl (qr_move rfl) ?_
    refine qq rfl rfl (qr_indexAddr_int rfl rfl (bt_ge _ _) (bt_lt _ _)) ?_
    refine qq rfl rfl (qr_load_one rfl (show _ = some (.v (.int .u8 241)) from by rw [firstC_get (bt_ge s 0) (bt_lt s 0), hx])) ?_
    refine qq rfl rfl (qr_assign rfl) ?_
    refine aops_nil (thn_n ?_)
    refine aw_seq ?_
    refine aw_seq (aw_region ?_)
    refine qq rfl rfl (qr_move rfl) ?_
    refine qq rfl rfl (qr_cmp rfl rfl rfl) ?_
    refine aops_nil (thn_n ?_)
    refine aw_cond rfl (fun hc23 => ?_) (fun hc23 => ?_)
    · refine aw_seq (aw_region ?_)
      refine qq rfl rfl (qr_move rfl) ?_
      refine qq rfl rfl (qr_convert rfl rfl) ?_
      refine qq rfl rfl (qr_shift rfl rfl rfl (by decide)) ?_
      refine qq rfl rfl (qr_shift rfl rfl rfl (by decide)) ?_
      refine qq rfl rfl (qr_assign rfl) ?_
      refine aops_nil (thn_n ?_)
      refine aw_seq (aw_region ?_)
      refine qq rfl rfl (qr_move rfl) ?_
      refine qq rfl rfl (qr_index_bt 0 rfl rfl (by omega)) ?_
      refine qq rfl rfl (qr_convert rfl rfl) ?_
      refine qq rfl rfl (qr_move rfl) ?_
      refine qq rfl rfl (qr_bits rfl rfl rfl) ?_
      refine qq rfl rfl (qr_move rfl) ?_
      refine qq rfl rfl (qr_bits rfl rfl rfl) ?_
      refine qq rfl rfl (qr_bits rfl rfl rfl) ?_
      refine qq rfl rfl (qr_assign rfl) ?_
      refine qq rfl rfl (qr_assign rfl) ?_
      refine aops_nil (thn_n ?_)
      refine aw_ret ?_
      refine thn_r ?_
      have hd : decSlow s = (bI .or .i32 (bI .andNot .i32 (IntKind.i32.wrap (bt s 0)) (decMask 241)) (bI .and .i32 65533 (decMask 241)), 1) := by
        unfold decSlow
        rw [if_neg (by omega)]
        simp only [hx]
        rw [if_pos (by decide)]
      exact retq (.cons _ _ _ _ (.tmp _ _ rfl) (.cons _ _ _ _ (.tmp _ _ rfl) .nil)) (.refl _ _) ⟨rfl, by rw [hd]; rfl⟩
    · first | cases hc23 | exact absurd hc23 (by decide)
theorem decodeSlow2 (s : ByteArray) (hx : firstV (bt s 0).toNat = 2) : ACall Tryd.prog 88 [.v (.string s)] [.glob 1 129 firstC, .glob 2 133 acceptC] (fun r h' => h' = [.glob 1 129 firstC, .glob 2 133 acceptC] ∧ r = .tup [.v (.int .i32 (decSlow s).1), iv (decSlow s).2]) := by
  refine acall_of_aw Tryd.func88 rfl rfl rfl ?_
  refine aw_seq (aw_region ?_)
  refine qq rfl rfl (qr_assign rfl) ?_
  refine qq rfl rfl (qr_assign rfl) ?_
  refine aops_nil (thn_n ?_)
  refine aw_seq (aw_region ?_)
  refine qq rfl rfl (qr_move rfl) ?_
  refine qq rfl rfl (qr_len_string rfl) ?_
  refine qq rfl rfl (qr_assign rfl) ?_
  refine aops_nil (thn_n ?_)
  refine aw_seq ?_
  refine aw_seq (aw_region ?_)
  refine qq rfl rfl (qr_move rfl) ?_
  refine qq rfl rfl (qr_cmp rfl rfl rfl) ?_
  refine aops_nil (thn_n ?_)
  refine aw_cond rfl (fun hc16 => ?_) (fun hc16 => ?_)
  · refine aw_seq (aw_region ?_)
    refine qq rfl rfl (qr_assign rfl) ?_
    refine qq rfl rfl (qr_assign rfl) ?_
    refine aops_nil (thn_n ?_)
    refine aw_ret ?_
    refine thn_r ?_
    have hd : decSlow s = (65533, 0) := by
      unfold decSlow
      rw [if_pos (by simp at hc16; omega)]
    exact retq (.cons _ _ _ _ (.tmp _ _ rfl) (.cons _ _ _ _ (.tmp _ _ rfl) .nil)) (.refl _ _) ⟨rfl, by rw [hd]; rfl⟩
  · have h1 : 0 < s.size := by simp at hc16; omega
    refine aw_skip ?_
    refine thn_n ?_
    refine aw_seq (aw_region ?_)
    refine qq rfl rfl (qr_move rfl) ?_
    refine qq rfl rfl (qr_index_bt 0 rfl rfl (by omega)) ?_
    refine qq rfl rfl (qr_assign rfl) ?_
    refine aops_nil (thn_n ?_)
    refine aw_seq (aw_region ?_)
    refine qq rfl rfl (qr_move rfl) ?_
    refine qq rfl rfl (qr_indexAddr_int rfl rfl (bt_ge _ _) (bt_lt _ _)) ?_
    refine qq rfl rfl (qr_load_one rfl (show _ = some (.v (.int .u8 2)) from by rw [firstC_get (bt_ge s 0) (bt_lt s 0), hx])) ?_
    refine qq rfl rfl (qr_assign rfl) ?_
    refine aops_nil (thn_n ?_)
    refine aw_seq ?_
    refine aw_seq (aw_region ?_)
    refine qq rfl rfl (qr_move rfl) ?_
    refine qq rfl rfl (qr_cmp rfl rfl rfl) ?_
    refine aops_nil (thn_n ?_)
    refine aw_cond rfl (fun hc23 => ?_) (fun hc23 => ?_)
    · first | cases hc23 | exact absurd hc23 (by decide)
    · refine aw_skip ?_
      refine thn_n ?_
      refine aw_seq (aw_region ?_)
      refine qq rfl rfl (qr_move rfl) ?_
      refine qq rfl rfl (qr_bits rfl rfl rfl) ?_
      refine qq rfl rfl (qr_convert rfl rfl) ?_
      refine qq rfl rfl (qr_assign rfl) ?_
      refine aops_nil (thn_n ?_)
      refine aw_seq (aw_region ?_)
      refine qq rfl rfl (qr_move rfl) ?_
      refine qq rfl rfl (qr_shift rfl rfl rfl (by decide)) ?_
      refine qq rfl rfl (qr_indexAddr_int rfl rfl (by decide) (by decide)) ?_
      first | refine qq rfl rfl (qr_load_all rfl rfl) ?_ | refine qq rfl rfl (qr_load_pp_all rfl rfl) ?_ | refine qq rfl rfl (qr_load_agg rfl (Nat.le_of_ble_eq_true rfl)) ?_ | refine qq rfl rfl (qr_load_pp_agg rfl (Nat.le_of_ble_eq_true rfl)) ?_
      refine aops_e rfl (oe_alloc rfl fun b9 => ?_)
      first | refine aops_e rfl (oe_store_all rfl rfl rfl ?_) | refine aops_e rfl (oe_store rfl rfl rfl rfl (Nat.le_of_ble_eq_true rfl) ?_)
      refine aops_nil (thn_n ?_)
      refine aw_seq ?_
      refine aw_seq (aw_region ?_)
      refine qq rfl rfl (qr_move rfl) ?_
      refine qq rfl rfl (qr_move rfl) ?_
      refine qq rfl rfl (qr_cmp rfl rfl rfl) ?_
      refine aops_nil (thn_n ?_)
      refine aw_cond rfl (fun hc45 => ?_) (fun hc45 => ?_)
      · refine aw_seq (aw_region ?_)
        refine qq rfl rfl (qr_assign rfl) ?_
        refine qq rfl rfl (qr_assign rfl) ?_
        refine aops_nil (thn_n ?_)
        refine aw_ret ?_
        refine thn_r ?_
        have hd : decSlow s = (65533, 1) := by
          unfold decSlow
          rw [if_neg (by omega)]
          simp only [hx]
          rw [if_neg (by decide), if_pos (show (s.size : Int) < (2 : Int) % 8 from of_decide_eq_true hc45)]
        exact retq (.cons _ _ _ _ (.tmp _ _ rfl) (.cons _ _ _ _ (.tmp _ _ rfl) .nil)) (.drop1 _ _ _) ⟨rfl, by rw [hd]; rfl⟩
      · have h2 : 2 ≤ s.size := by
          have : ¬ ((s.size : Int) < 2) := of_decide_eq_false hc45
          omega
        refine aw_skip ?_
        refine thn_n ?_
        refine aw_seq (aw_region ?_)
        refine qq rfl rfl (qr_move rfl) ?_
        refine qq rfl rfl (qr_index_bt 1 rfl rfl (by omega)) ?_
        refine qq rfl rfl (qr_assign rfl) ?_
        refine aops_nil (thn_n ?_)
        refine aw_seq ?_
        refine aw_seq (aw_region ?_)
        refine qq rfl rfl (qr_move rfl) ?_
        first | refine qq rfl rfl (qr_fieldAddr rfl (Nat.succ_ne_zero _)) ?_ | refine qq rfl rfl (qr_fieldAddr_pp rfl (Nat.succ_ne_zero _)) ?_ | refine qq rfl rfl (qr_fieldAddr_rp rfl (Nat.succ_ne_zero _)) ?_
        first | refine qq rfl rfl (qr_load_one rfl rfl) ?_ | refine qq rfl rfl (qr_load_pp_one rfl rfl) ?_
        refine qq rfl rfl (qr_cmp rfl rfl rfl) ?_
        refine qq rfl rfl (qr_move rfl) ?_
        refine asplit (fun hg14_4 => ?_) (fun hg14_4 => ?_)
        · refine qs rfl rfl ?_
          refine qs rfl rfl ?_
          refine qs rfl rfl ?_
          refine qs rfl rfl ?_
          first | refine qq rfl rfl (qr_pick_t rfl rfl) ?_ | refine qq rfl rfl (qr_pick_f rfl rfl) ?_ | refine qq rfl rfl (qr_pick_b rfl rfl rfl) ?_
          refine aops_nil (thn_n ?_)
          refine aw_cond rfl (fun hc57 => ?_) (fun hc57 => ?_)
          · refine aw_seq (aw_region ?_)
            refine qq rfl rfl (qr_assign rfl) ?_
            refine qq rfl rfl (qr_assign rfl) ?_
            refine aops_nil (thn_n ?_)
            refine aw_ret ?_
            refine thn_r ?_
            have hd : decSlow s = (65533, 1) := by
              unfold decSlow
              rw [if_neg (by omega)]
              simp only [hx]
              rw [if_neg (by decide), if_neg (show ¬ (s.size : Int) < (2 : Int) % 8 from of_decide_eq_false hc45), if_pos (show bt s 1 < accLo ((2 : Int) / 16).toNat ∨ accHi ((2 : Int) / 16).toNat < bt s 1 from by first | exact .inl (of_decide_eq_true hg14_4) | exact .inr (of_decide_eq_true hc57))]
            exact retq (.cons _ _ _ _ (.tmp _ _ rfl) (.cons _ _ _ _ (.tmp _ _ rfl) .nil)) (.drop1 _ _ _) ⟨rfl, by rw [hd]; rfl⟩
          · first | cases hc57 | exact absurd hc57 (by decide)
        · first | refine qq rfl rfl (qr_fieldAddr rfl (Nat.succ_ne_zero _)) ?_ | refine qq rfl rfl (qr_fieldAddr_pp rfl (Nat.succ_ne_zero _)) ?_ | refine qq rfl rfl (qr_fieldAddr_rp rfl (Nat.succ_ne_zero _)) ?_
          first | refine qq rfl rfl (qr_load_one rfl rfl) ?_ | refine qq rfl rfl (qr_load_pp_one rfl rfl) ?_
          refine qq rfl rfl (qr_move rfl) ?_
          refine qq rfl rfl (qr_cmp rfl rfl rfl) ?_
          first | refine qq rfl rfl (qr_pick_t rfl rfl) ?_ | refine qq rfl rfl (qr_pick_f rfl rfl) ?_ | refine qq rfl rfl (qr_pick_b rfl rfl rfl) ?_
          refine aops_nil (thn_n ?_)
          refine aw_cond rfl (fun hc57 => ?_) (fun hc57 => ?_)
          · refine aw_seq (aw_region ?_)
            refine qq rfl rfl (qr_assign rfl) ?_
            refine qq rfl rfl (qr_assign rfl) ?_
            refine aops_nil (thn_n ?_)
            refine aw_ret ?_
            refine thn_r ?_
            have hd : decSlow s = (65533, 1) := by
              unfold decSlow
              rw [if_neg (by omega)]
              simp only [hx]
              rw [if_neg (by decide), if_neg (show ¬ (s.size : Int) < (2 : Int) % 8 from of_decide_eq_false hc45), if_pos (show bt s 1 < accLo ((2 : Int) / 16).toNat ∨ accHi ((2 : Int) / 16).toNat < bt s 1 from by first | exact .inl (of_decide_eq_true hg14_4) | exact .inr (of_decide_eq_true hc57))]
            exact retq (.cons _ _ _ _ (.tmp _ _ rfl) (.cons _ _ _ _ (.tmp _ _ rfl) .nil)) (.drop1 _ _ _) ⟨rfl, by rw [hd]; rfl⟩
          · refine aw_skip ?_
            refine thn_n ?_
            refine aw_seq ?_
            refine aw_seq (aw_region ?_)
            refine qq rfl rfl (qr_move rfl) ?_
            refine qq rfl rfl (qr_cmp rfl rfl rfl) ?_
            refine aops_nil (thn_n ?_)
            refine aw_cond rfl (fun hc59 => ?_) (fun hc59 => ?_)
            · refine aw_seq (aw_region ?_)
              refine qq rfl rfl (qr_move rfl) ?_
              refine qq rfl rfl (qr_bits rfl rfl rfl) ?_
              refine qq rfl rfl (qr_convert rfl rfl) ?_
              refine qq rfl rfl (qr_shift rfl rfl rfl (by decide)) ?_
              refine qq rfl rfl (qr_move rfl) ?_
              refine qq rfl rfl (qr_bits rfl rfl rfl) ?_
              refine qq rfl rfl (qr_convert rfl rfl) ?_
              refine qq rfl rfl (qr_bits rfl rfl rfl) ?_
              refine qq rfl rfl (qr_assign rfl) ?_
              refine qq rfl rfl (qr_assign rfl) ?_
              refine aops_nil (thn_n ?_)
              refine aw_ret ?_
              refine thn_r ?_
              have hd : decSlow s = (bI .or .i32 (rbits (bt s 0) 31 6) (rbits (bt s 1) 63 0), 2) := by
                unfold decSlow
                rw [if_neg (by omega)]
                simp only [hx]
                rw [if_neg (by decide), if_neg (show ¬ (s.size : Int) < (2 : Int) % 8 from of_decide_eq_false hc45), if_neg (show ¬ (bt s 1 < accLo ((2 : Int) / 16).toNat ∨ accHi ((2 : Int) / 16).toNat < bt s 1) from fun q => q.elim (of_decide_eq_false hg14_4) (of_decide_eq_false hc57)), if_pos (by decide)]
              exact retq (.cons _ _ _ _ (.tmp _ _ rfl) (.cons _ _ _ _ (.tmp _ _ rfl) .nil)) (.drop1 _ _ _) ⟨rfl, by rw [hd]; rfl⟩
            · first | cases hc59 | exact absurd hc59 (by decide)
theorem decodeSlow19 (s : ByteArray) (hx : firstV (bt s 0).toNat = 19) : ACall Tryd.prog 88 [.v (.string s)] [.glob 1 129 firstC, .glob 2 133 acceptC] (fun r h' => h' = [.glob 1 129 firstC, .glob 2 133 acceptC] ∧ r = .tup [.v (.int .i32 (decSlow s).1), iv (decSlow s).2]) := by
  refine acall_of_aw Tryd.func88 rfl rfl rfl ?_
  refine aw_seq (aw_region ?_)
  refine qq rfl rfl (qr_assign rfl) ?_
  refine qq rfl rfl (qr_assign rfl) ?_
  refine aops_nil (thn_n ?_)
  refine aw_seq (aw_region ?_)
  refine qq rfl rfl (qr_move rfl) ?_
  refine qq rfl rfl (qr_len_string rfl) ?_
  refine qq rfl rfl (qr_assign rfl) ?_
  refine aops_nil (thn_n ?_)
  refine aw_seq ?_
  refine aw_seq (aw_region ?_)
  refine qq rfl rfl (qr_move rfl) ?_
  refine qq rfl rfl (qr_cmp rfl rfl rfl) ?_
  refine aops_nil (thn_n ?_)
  refine aw_cond rfl (fun hc16 => ?_) (fun hc16 => ?_)
  · refine aw_seq (aw_region ?_)
    refine qq rfl rfl (qr_assign rfl) ?_
    refine qq rfl rfl (qr_assign rfl) ?_
    refine aops_nil (thn_n ?_)
    refine aw_ret ?_
    refine thn_r ?_
    have hd : decSlow s = (65533, 0) := by
      unfold decSlow
      rw [if_pos (by simp at hc16; omega)]
    exact retq (.cons _ _ _ _ (.tmp _ _ rfl) (.cons _ _ _ _ (.tmp _ _ rfl) .nil)) (.refl _ _) ⟨rfl, by rw [hd]; rfl⟩
  · have h1 : 0 < s.size := by simp at hc16; omega
    refine aw_skip ?_
    refine thn_n ?_
    refine aw_seq (aw_region ?_)
    refine qq rfl rfl (qr_move rfl) ?_
    refine qq rfl rfl (qr_index_bt 0 rfl rfl (by omega)) ?_
    refine qq rfl rfl (qr_assign rfl) ?_
    refine aops_nil (thn_n ?_)
    refine aw_seq (aw_region ?_)
    refine qq rfl rfl (qr_move rfl) ?_
    refine qq rfl rfl (qr_indexAddr_int rfl rfl (bt_ge _ _) (bt_lt _ _)) ?_
    refine qq rfl rfl (qr_load_one rfl (show _ = some (.v (.int .u8 19)) from by rw [firstC_get (bt_ge s 0) (bt_lt s 0), hx])) ?_
    refine qq rfl rfl (qr_assign rfl) ?_
    refine aops_nil (thn_n ?_)
    refine aw_seq ?_
    refine aw_seq (aw_region ?_)
    refine qq rfl rfl (qr_move rfl) ?_
    refine qq rfl rfl (qr_cmp rfl rfl rfl) ?_
    refine aops_nil (thn_n ?_)
    refine aw_cond rfl (fun hc23 => ?_) (fun hc23 => ?_)
    · first | cases hc23 | exact absurd hc23 (by decide)
    · refine aw_skip ?_
      refine thn_n ?_
      refine aw_seq (aw_region ?_)
      refine qq rfl rfl (qr_move rfl) ?_
      refine qq rfl rfl (qr_bits rfl rfl rfl) ?_
      refine qq rfl rfl (qr_convert rfl rfl) ?_
      refine qq rfl rfl (qr_assign rfl) ?_
      refine aops_nil (thn_n ?_)
      refine aw_seq (aw_region ?_)
      refine qq rfl rfl (qr_move rfl) ?_
      refine qq rfl rfl (qr_shift rfl rfl rfl (by decide)) ?_
      refine qq rfl rfl (qr_indexAddr_int rfl rfl (by decide) (by decide)) ?_
      first | refine qq rfl rfl (qr_load_all rfl rfl) ?_ | refine qq rfl rfl (qr_load_pp_all rfl rfl) ?_ | refine qq rfl rfl (qr_load_agg rfl (Nat.le_of_ble_eq_true rfl)) ?_ | refine qq rfl rfl (qr_load_pp_agg rfl (Nat.le_of_ble_eq_true rfl)) ?_
      refine aops_e rfl (oe_alloc rfl fun b9 => ?_)
      first | refine aops_e rfl (oe_store_all rfl rfl rfl ?_) | refine aops_e rfl (oe_store rfl rfl rfl rfl (Nat.le_of_ble_eq_true rfl) ?_)
      refine aops_nil (thn_n ?_)
      refine aw_seq ?_
      refine aw_seq (aw_region ?_)
      refine qq rfl rfl (qr_move rfl) ?_
      refine qq rfl rfl (qr_move rfl) ?_
      refine qq rfl rfl (qr_cmp rfl rfl rfl) ?_
      refine aops_nil (thn_n ?_)
      refine aw_cond rfl (fun hc45 => ?_) (fun hc45 => ?_)
      · refine aw_seq (aw_region ?_)
        refine qq rfl rfl (qr_assign rfl) ?_
        refine qq rfl rfl (qr_assign rfl) ?_
        refine aops_nil (thn_n ?_)
        refine aw_ret ?_
        refine thn_r ?_
        have hd : decSlow s = (65533, 1) := by
          unfold decSlow
          rw [if_neg (by omega)]
          simp only [hx]
          rw [if_neg (by decide), if_pos (show (s.size : Int) < (19 : Int) % 8 from of_decide_eq_true hc45)]
        exact retq (.cons _ _ _ _ (.tmp _ _ rfl) (.cons _ _ _ _ (.tmp _ _ rfl) .nil)) (.drop1 _ _ _) ⟨rfl, by rw [hd]; rfl⟩
      · have h2 : 3 ≤ s.size := by
          have : ¬ ((s.size : Int) < 3) := of_decide_eq_false hc45
          omega
        refine aw_skip ?_
        refine thn_n ?_
        refine aw_seq (aw_region ?_)
        refine qq rfl rfl (qr_move rfl) ?_
        refine qq rfl rfl (qr_index_bt 1 rfl rfl (by omega)) ?_
        refine qq rfl rfl (qr_assign rfl) ?_
        refine aops_nil (thn_n ?_)
        refine aw_seq ?_
        refine aw_seq (aw_region ?_)
        refine qq rfl rfl (qr_move rfl) ?_
        first | refine qq rfl rfl (qr_fieldAddr rfl (Nat.succ_ne_zero _)) ?_ | refine qq rfl rfl (qr_fieldAddr_pp rfl (Nat.succ_ne_zero _)) ?_ | refine qq rfl rfl (qr_fieldAddr_rp rfl (Nat.succ_ne_zero _)) ?_
        first | refine qq rfl rfl (qr_load_one rfl rfl) ?_ | refine qq rfl rfl (qr_load_pp_one rfl rfl) ?_
        refine qq rfl rfl (qr_cmp rfl rfl rfl) ?_
        refine qq rfl rfl (qr_move rfl) ?_
        refine asplit (fun hg14_4 => ?_) (fun hg14_4 => ?_)
        · refine qs rfl rfl ?_
          refine qs rfl rfl ?_
          refine qs rfl rfl ?_
          refine qs rfl rfl ?_
          first | refine qq rfl rfl (qr_pick_t rfl rfl) ?_ | refine qq rfl rfl (qr_pick_f rfl rfl) ?_ | refine qq rfl rfl (qr_pick_b rfl rfl rfl) ?_
          refine aops_nil (thn_n ?_)
          refine aw_cond rfl (fun hc57 => ?_) (fun hc57 => ?_)
          · refine aw_seq (aw_region ?_)
            refine qq rfl rfl (qr_assign rfl) ?_
            refine qq rfl rfl (qr_assign rfl) ?_
            refine aops_nil (thn_n ?_)
            refine aw_ret ?_
            refine thn_r ?_
            have hd : decSlow s = (65533, 1) := by
              unfold decSlow
              rw [if_neg (by omega)]
              simp only [hx]
              rw [if_neg (by decide), if_neg (show ¬ (s.size : Int) < (19 : Int) % 8 from of_decide_eq_false hc45), if_pos (show bt s 1 < accLo ((19 : Int) / 16).toNat ∨ accHi ((19 : Int) / 16).toNat < bt s 1 from by first | exact .inl (of_decide_eq_true hg14_4) | exact .inr (of_decide_eq_true hc57))]
            exact retq (.cons _ _ _ _ (.tmp _ _ rfl) (.cons _ _ _ _ (.tmp _ _ rfl) .nil)) (.drop1 _ _ _) ⟨rfl, by rw [hd]; rfl⟩
          · first | cases hc57 | exact absurd hc57 (by decide)
        · first | refine qq rfl rfl (qr_fieldAddr rfl (Nat.succ_ne_zero _)) ?_ | refine qq rfl rfl (qr_fieldAddr_pp rfl (Nat.succ_ne_zero _)) ?_ | refine qq rfl rfl (qr_fieldAddr_rp rfl (Nat.succ_ne_zero _)) ?_
          first | refine qq rfl rfl (qr_load_one rfl rfl) ?_ | refine qq rfl rfl (qr_load_pp_one rfl rfl) ?_
          refine qq rfl rfl (qr_move rfl) ?_
          refine qq rfl rfl (qr_cmp rfl rfl rfl) ?_
          first | refine qq rfl rfl (qr_pick_t rfl rfl) ?_ | refine qq rfl rfl (qr_pick_f rfl rfl) ?_ | refine qq rfl rfl (qr_pick_b rfl rfl rfl) ?_
          refine aops_nil (thn_n ?_)
          refine aw_cond rfl (fun hc57 => ?_) (fun hc57 => ?_)
          · refine aw_seq (aw_region ?_)
            refine qq rfl rfl (qr_assign rfl) ?_
            refine qq rfl rfl (qr_assign rfl) ?_
            refine aops_nil (thn_n ?_)
            refine aw_ret ?_
            refine thn_r ?_
            have hd : decSlow s = (65533, 1) := by
              unfold decSlow
              rw [if_neg (by omega)]
              simp only [hx]
              rw [if_neg (by decide), if_neg (show ¬ (s.size : Int) < (19 : Int) % 8 from of_decide_eq_false hc45), if_pos (show bt s 1 < accLo ((19 : Int) / 16).toNat ∨ accHi ((19 : Int) / 16).toNat < bt s 1 from by first | exact .inl (of_decide_eq_true hg14_4) | exact .inr (of_decide_eq_true hc57))]
            exact retq (.cons _ _ _ _ (.tmp _ _ rfl) (.cons _ _ _ _ (.tmp _ _ rfl) .nil)) (.drop1 _ _ _) ⟨rfl, by rw [hd]; rfl⟩
          · refine aw_skip ?_
            refine thn_n ?_
            refine aw_seq ?_
            refine aw_seq (aw_region ?_)
            refine qq rfl rfl (qr_move rfl) ?_
            refine qq rfl rfl (qr_cmp rfl rfl rfl) ?_
            refine aops_nil (thn_n ?_)
            refine aw_cond rfl (fun hc59 => ?_) (fun hc59 => ?_)
            · first | cases hc59 | exact absurd hc59 (by decide)
            · refine aw_skip ?_
              refine thn_n ?_
              refine aw_seq (aw_region ?_)
              refine qq rfl rfl (qr_move rfl) ?_
              refine qq rfl rfl (qr_index_bt 2 rfl rfl (by omega)) ?_
              refine qq rfl rfl (qr_assign rfl) ?_
              refine aops_nil (thn_n ?_)
              refine aw_seq ?_
              refine aw_seq (aw_region ?_)
              refine qq rfl rfl (qr_move rfl) ?_
              refine qq rfl rfl (qr_cmp rfl rfl rfl) ?_
              refine qq rfl rfl (qr_move rfl) ?_
              refine asplit (fun hg19_2 => ?_) (fun hg19_2 => ?_)
              · refine qs rfl rfl ?_
                refine qs rfl rfl ?_
                first | refine qq rfl rfl (qr_pick_t rfl rfl) ?_ | refine qq rfl rfl (qr_pick_f rfl rfl) ?_ | refine qq rfl rfl (qr_pick_b rfl rfl rfl) ?_
                refine aops_nil (thn_n ?_)
                refine aw_cond rfl (fun hc75 => ?_) (fun hc75 => ?_)
                · refine aw_seq (aw_region ?_)
                  refine qq rfl rfl (qr_assign rfl) ?_
                  refine qq rfl rfl (qr_assign rfl) ?_
                  refine aops_nil (thn_n ?_)
                  refine aw_ret ?_
                  refine thn_r ?_
                  have hd : decSlow s = (65533, 1) := by
                    unfold decSlow
                    rw [if_neg (by omega)]
                    simp only [hx]
                    rw [if_neg (by decide), if_neg (show ¬ (s.size : Int) < (19 : Int) % 8 from of_decide_eq_false hc45), if_neg (show ¬ (bt s 1 < accLo ((19 : Int) / 16).toNat ∨ accHi ((19 : Int) / 16).toNat < bt s 1) from fun q => q.elim (of_decide_eq_false hg14_4) (of_decide_eq_false hc57)), if_neg (by decide), if_pos (show bt s 2 < 128 ∨ 191 < bt s 2 from by first | exact .inl (of_decide_eq_true hg19_2) | exact .inr (of_decide_eq_true hc75))]
                  exact retq (.cons _ _ _ _ (.tmp _ _ rfl) (.cons _ _ _ _ (.tmp _ _ rfl) .nil)) (.drop1 _ _ _) ⟨rfl, by rw [hd]; rfl⟩
                · first | cases hc75 | exact absurd hc75 (by decide)
              · refine qq rfl rfl (qr_move rfl) ?_
                refine qq rfl rfl (qr_cmp rfl rfl rfl) ?_
                first | refine qq rfl rfl (qr_pick_t rfl rfl) ?_ | refine qq rfl rfl (qr_pick_f rfl rfl) ?_ | refine qq rfl rfl (qr_pick_b rfl rfl rfl) ?_
                refine aops_nil (thn_n ?_)
                refine aw_cond rfl (fun hc75 => ?_) (fun hc75 => ?_)
                · refine aw_seq (aw_region ?_)
                  refine qq rfl rfl (qr_assign rfl) ?_
                  refine qq rfl rfl (qr_assign rfl) ?_
                  refine aops_nil (thn_n ?_)
                  refine aw_ret ?_
                  refine thn_r ?_
                  have hd : decSlow s = (65533, 1) := by
                    unfold decSlow
                    rw [if_neg (by omega)]
                    simp only [hx]
                    rw [if_neg (by decide), if_neg (show ¬ (s.size : Int) < (19 : Int) % 8 from of_decide_eq_false hc45), if_neg (show ¬ (bt s 1 < accLo ((19 : Int) / 16).toNat ∨ accHi ((19 : Int) / 16).toNat < bt s 1) from fun q => q.elim (of_decide_eq_false hg14_4) (of_decide_eq_false hc57)), if_neg (by decide), if_pos (show bt s 2 < 128 ∨ 191 < bt s 2 from by first | exact .inl (of_decide_eq_true hg19_2) | exact .inr (of_decide_eq_true hc75))]
                  exact retq (.cons _ _ _ _ (.tmp _ _ rfl) (.cons _ _ _ _ (.tmp _ _ rfl) .nil)) (.drop1 _ _ _) ⟨rfl, by rw [hd]; rfl⟩
                · refine aw_skip ?_
                  refine thn_n ?_
                  refine aw_seq ?_
                  refine aw_seq (aw_region ?_)
                  refine qq rfl rfl (qr_move rfl) ?_
                  refine qq rfl rfl (qr_cmp rfl rfl rfl) ?_
                  refine aops_nil (thn_n ?_)
                  refine aw_cond rfl (fun hc77 => ?_) (fun hc77 => ?_)
                  · refine aw_seq (aw_region ?_)
                    refine qq rfl rfl (qr_move rfl) ?_
                    refine qq rfl rfl (qr_bits rfl rfl rfl) ?_
                    refine qq rfl rfl (qr_convert rfl rfl) ?_
                    refine qq rfl rfl (qr_shift rfl rfl rfl (by decide)) ?_
                    refine qq rfl rfl (qr_move rfl) ?_
                    refine qq rfl rfl (qr_bits rfl rfl rfl) ?_
                    refine qq rfl rfl (qr_convert rfl rfl) ?_
                    refine qq rfl rfl (qr_shift rfl rfl rfl (by decide)) ?_
                    refine qq rfl rfl (qr_bits rfl rfl rfl) ?_
                    refine qq rfl rfl (qr_move rfl) ?_
                    refine qq rfl rfl (qr_bits rfl rfl rfl) ?_
                    refine qq rfl rfl (qr_convert rfl rfl) ?_
                    refine qq rfl rfl (qr_bits rfl rfl rfl) ?_
                    refine qq rfl rfl (qr_assign rfl) ?_
                    refine qq rfl rfl (qr_assign rfl) ?_
                    refine aops_nil (thn_n ?_)
                    refine aw_ret ?_
                    refine thn_r ?_
                    have hd : decSlow s = (bI .or .i32 (bI .or .i32 (rbits (bt s 0) 15 12) (rbits (bt s 1) 63 6)) (rbits (bt s 2) 63 0), 3) := by
                      unfold decSlow
                      rw [if_neg (by omega)]
                      simp only [hx]
                      rw [if_neg (by decide), if_neg (show ¬ (s.size : Int) < (19 : Int) % 8 from of_decide_eq_false hc45), if_neg (show ¬ (bt s 1 < accLo ((19 : Int) / 16).toNat ∨ accHi ((19 : Int) / 16).toNat < bt s 1) from fun q => q.elim (of_decide_eq_false hg14_4) (of_decide_eq_false hc57)), if_neg (by decide), if_neg (show ¬ (bt s 2 < 128 ∨ 191 < bt s 2) from fun q => q.elim (of_decide_eq_false hg19_2) (of_decide_eq_false hc75)), if_pos (by decide)]
                    exact retq (.cons _ _ _ _ (.tmp _ _ rfl) (.cons _ _ _ _ (.tmp _ _ rfl) .nil)) (.drop1 _ _ _) ⟨rfl, by rw [hd]; rfl⟩
                  · first | cases hc77 | exact absurd hc77 (by decide)
theorem decodeSlow3 (s : ByteArray) (hx : firstV (bt s 0).toNat = 3) : ACall Tryd.prog 88 [.v (.string s)] [.glob 1 129 firstC, .glob 2 133 acceptC] (fun r h' => h' = [.glob 1 129 firstC, .glob 2 133 acceptC] ∧ r = .tup [.v (.int .i32 (decSlow s).1), iv (decSlow s).2]) := by
  refine acall_of_aw Tryd.func88 rfl rfl rfl ?_
  refine aw_seq (aw_region ?_)
  refine qq rfl rfl (qr_assign rfl) ?_
  refine qq rfl rfl (qr_assign rfl) ?_
  refine aops_nil (thn_n ?_)
  refine aw_seq (aw_region ?_)
  refine qq rfl rfl (qr_move rfl) ?_
  refine qq rfl rfl (qr_len_string rfl) ?_
  refine qq rfl rfl (qr_assign rfl) ?_
  refine aops_nil (thn_n ?_)
  refine aw_seq ?_
  refine aw_seq (aw_region ?_)
  refine qq rfl rfl (qr_move rfl) ?_
  refine qq rfl rfl (qr_cmp rfl rfl rfl) ?_
  refine aops_nil (thn_n ?_)
  refine aw_cond rfl (fun hc16 => ?_) (fun hc16 => ?_)
  · refine aw_seq (aw_region ?_)
    refine qq rfl rfl (qr_assign rfl) ?_
    refine qq rfl rfl (qr_assign rfl) ?_
    refine aops_nil (thn_n ?_)
    refine aw_ret ?_
    refine thn_r ?_
    have hd : decSlow s = (65533, 0) := by
      unfold decSlow
      rw [if_pos (by simp at hc16; omega)]
    exact retq (.cons _ _ _ _ (.tmp _ _ rfl) (.cons _ _ _ _ (.tmp _ _ rfl) .nil)) (.refl _ _) ⟨rfl, by rw [hd]; rfl⟩
  · have h1 : 0 < s.size := by simp at hc16; omega
    refine aw_skip ?_
    refine thn_n ?_
    refine aw_seq (aw_region ?_)
    refine qq rfl rfl (qr_move rfl) ?_
    refine qq rfl rfl (qr_index_bt 0 rfl rfl (by omega)) ?_
    refine qq rfl rfl (qr_assign rfl) ?_
    refine aops_nil (thn_n ?_)
    refine aw_seq (aw_region ?_)
    refine qq rfl rfl (qr_move rfl) ?_
    refine qq rfl rfl (qr_indexAddr_int rfl rfl (bt_ge _ _) (bt_lt _ _)) ?_
    refine qq rfl rfl (qr_load_one rfl (show _ = some (.v (.int .u8 3)) from by rw [firstC_get (bt_ge s 0) (bt_lt s 0), hx])) ?_
    refine qq rfl rfl (qr_assign rfl) ?_
    refine aops_nil (thn_n ?_)
    refine aw_seq ?_
    refine aw_seq (aw_region ?_)
    refine qq rfl rfl (qr_move rfl) ?_
    refine qq rfl rfl (qr_cmp rfl rfl rfl) ?_
    refine aops_nil (thn_n ?_)
    refine aw_cond rfl (fun hc23 => ?_) (fun hc23 => ?_)
    · first | cases hc23 | exact absurd hc23 (by decide)
    · refine aw_skip ?_
      refine thn_n ?_
      refine aw_seq (aw_region ?_)
      refine qq rfl rfl (qr_move rfl) ?_
      refine qq rfl rfl (qr_bits rfl rfl rfl) ?_
      refine qq rfl rfl (qr_convert rfl rfl) ?_
      refine qq rfl rfl (qr_assign rfl) ?_
      refine aops_nil (thn_n ?_)
      refine aw_seq (aw_region ?_)
      refine qq rfl rfl (qr_move rfl) ?_
      refine qq rfl rfl (qr_shift rfl rfl rfl (by decide)) ?_
      refine qq rfl rfl (qr_indexAddr_int rfl rfl (by decide) (by decide)) ?_
      first | refine qq rfl rfl (qr_load_all rfl rfl) ?_ | refine qq rfl rfl (qr_load_pp_all rfl rfl) ?_ | refine qq rfl rfl (qr_load_agg rfl (Nat.le_of_ble_eq_true rfl)) ?_ | refine qq rfl rfl (qr_load_pp_agg rfl (Nat.le_of_ble_eq_true rfl)) ?_
      refine aops_e rfl (oe_alloc rfl fun b9 => ?_)
      first | refine aops_e rfl (oe_store_all rfl rfl rfl ?_) | refine aops_e rfl (oe_store rfl rfl rfl rfl (Nat.le_of_ble_eq_true rfl) ?_)
      refine aops_nil (thn_n ?_)
      refine aw_seq ?_
      refine aw_seq (aw_region ?_)
      refine qq rfl rfl (qr_move rfl) ?_
      refine qq rfl rfl (qr_move rfl) ?_
      refine qq rfl rfl (qr_cmp rfl rfl rfl) ?_
      refine aops_nil (thn_n ?_)
      refine aw_cond rfl (fun hc45 => ?_) (fun hc45 => ?_)
      · refine aw_seq (aw_region ?_)
        refine qq rfl rfl (qr_assign rfl) ?_
        refine qq rfl rfl (qr_assign rfl) ?_
        refine aops_nil (thn_n ?_)
        refine aw_ret ?_
        refine thn_r ?_
        have hd : decSlow s = (65533, 1) := by
          unfold decSlow
          rw [if_neg (by omega)]
          simp only [hx]
          rw [if_neg (by decide), if_pos (show (s.size : Int) < (3 : Int) % 8 from of_decide_eq_true hc45)]
        exact retq (.cons _ _ _ _ (.tmp _ _ rfl) (.cons _ _ _ _ (.tmp _ _ rfl) .nil)) (.drop1 _ _ _) ⟨rfl, by rw [hd]; rfl⟩
      · have h2 : 3 ≤ s.size := by
          have : ¬ ((s.size : Int) < 3) := of_decide_eq_false hc45
          omega
        refine aw_skip ?_
        refine thn_n ?_
        refine aw_seq (aw_region ?_)
        refine qq rfl rfl (qr_move rfl) ?_
        refine qq rfl rfl (qr_index_bt 1 rfl rfl (by omega)) ?_
        refine qq rfl rfl (qr_assign rfl) ?_
        refine aops_nil (thn_n ?_)
        refine aw_seq ?_
        refine aw_seq (aw_region ?_)
        refine qq rfl rfl (qr_move rfl) ?_
        first | refine qq rfl rfl (qr_fieldAddr rfl (Nat.succ_ne_zero _)) ?_ | refine qq rfl rfl (qr_fieldAddr_pp rfl (Nat.succ_ne_zero _)) ?_ | refine qq rfl rfl (qr_fieldAddr_rp rfl (Nat.succ_ne_zero _)) ?_
        first | refine qq rfl rfl (qr_load_one rfl rfl) ?_ | refine qq rfl rfl (qr_load_pp_one rfl rfl) ?_
        refine qq rfl rfl (qr_cmp rfl rfl rfl) ?_
        refine qq rfl rfl (qr_move rfl) ?_
        refine asplit (fun hg14_4 => ?_) (fun hg14_4 => ?_)
        · refine qs rfl rfl ?_
          refine qs rfl rfl ?_
          refine qs rfl rfl ?_
          refine qs rfl rfl ?_
          first | refine qq rfl rfl (qr_pick_t rfl rfl) ?_ | refine qq rfl rfl (qr_pick_f rfl rfl) ?_ | refine qq rfl rfl (qr_pick_b rfl rfl rfl) ?_
          refine aops_nil (thn_n ?_)
          refine aw_cond rfl (fun hc57 => ?_) (fun hc57 => ?_)
          · refine aw_seq (aw_region ?_)
            refine qq rfl rfl (qr_assign rfl) ?_
            refine qq rfl rfl (qr_assign rfl) ?_
            refine aops_nil (thn_n ?_)
            refine aw_ret ?_
            refine thn_r ?_
            have hd : decSlow s = (65533, 1) := by
              unfold decSlow
              rw [if_neg (by omega)]
              simp only [hx]
              rw [if_neg (by decide), if_neg (show ¬ (s.size : Int) < (3 : Int) % 8 from of_decide_eq_false hc45), if_pos (show bt s 1 < accLo ((3 : Int) / 16).toNat ∨ accHi ((3 : Int) / 16).toNat < bt s 1 from by first | exact .inl (of_decide_eq_true hg14_4) | exact .inr (of_decide_eq_true hc57))]
            exact retq (.cons _ _ _ _ (.tmp _ _ rfl) (.cons _ _ _ _ (.tmp _ _ rfl) .nil)) (.drop1 _ _ _) ⟨rfl, by rw [hd]; rfl⟩
          · first | cases hc57 | exact absurd hc57 (by decide)
        · first | refine qq rfl rfl (qr_fieldAddr rfl (Nat.succ_ne_zero _)) ?_ | refine qq rfl rfl (qr_fieldAddr_pp rfl (Nat.succ_ne_zero _)) ?_ | refine qq rfl rfl (qr_fieldAddr_rp rfl (Nat.succ_ne_zero _)) ?_
          first | refine qq rfl rfl (qr_load_one rfl rfl) ?_ | refine qq rfl rfl (qr_load_pp_one rfl rfl) ?_
          refine qq rfl rfl (qr_move rfl) ?_
          refine qq rfl rfl (qr_cmp rfl rfl rfl) ?_
          first | refine qq rfl rfl (qr_pick_t rfl rfl) ?_ | refine qq rfl rfl (qr_pick_f rfl rfl) ?_ | refine qq rfl rfl (qr_pick_b rfl rfl rfl) ?_
          refine aops_nil (thn_n ?_)
          refine aw_cond rfl (fun hc57 => ?_) (fun hc57 => ?_)
          · refine aw_seq (aw_region ?_)
            refine qq rfl rfl (qr_assign rfl) ?_
            refine qq rfl rfl (qr_assign rfl) ?_
            refine aops_nil (thn_n ?_)
            refine aw_ret ?_
            refine thn_r ?_
            have hd : decSlow s = (65533, 1) := by
              unfold decSlow
              rw [if_neg (by omega)]
              simp only [hx]
              rw [if_neg (by decide), if_neg (show ¬ (s.size : Int) < (3 : Int) % 8 from of_decide_eq_false hc45), if_pos (show bt s 1 < accLo ((3 : Int) / 16).toNat ∨ accHi ((3 : Int) / 16).toNat < bt s 1 from by first | exact .inl (of_decide_eq_true hg14_4) | exact .inr (of_decide_eq_true hc57))]
            exact retq (.cons _ _ _ _ (.tmp _ _ rfl) (.cons _ _ _ _ (.tmp _ _ rfl) .nil)) (.drop1 _ _ _) ⟨rfl, by rw [hd]; rfl⟩
          · refine aw_skip ?_
            refine thn_n ?_
            refine aw_seq ?_
            refine aw_seq (aw_region ?_)
            refine qq rfl rfl (qr_move rfl) ?_
            refine qq rfl rfl (qr_cmp rfl rfl rfl) ?_
            refine aops_nil (thn_n ?_)
            refine aw_cond rfl (fun hc59 => ?_) (fun hc59 => ?_)
            · first | cases hc59 | exact absurd hc59 (by decide)
            · refine aw_skip ?_
              refine thn_n ?_
              refine aw_seq (aw_region ?_)
              refine qq rfl rfl (qr_move rfl) ?_
              refine qq rfl rfl (qr_index_bt 2 rfl rfl (by omega)) ?_
              refine qq rfl rfl (qr_assign rfl) ?_
              refine aops_nil (thn_n ?_)
              refine aw_seq ?_
              refine aw_seq (aw_region ?_)
              refine qq rfl rfl (qr_move rfl) ?_
              refine qq rfl rfl (qr_cmp rfl rfl rfl) ?_
              refine qq rfl rfl (qr_move rfl) ?_
              refine asplit (fun hg19_2 => ?_) (fun hg19_2 => ?_)
              · refine qs rfl rfl ?_
                refine qs rfl rfl ?_
                first | refine qq rfl rfl (qr_pick_t rfl rfl) ?_ | refine qq rfl rfl (qr_pick_f rfl rfl) ?_ | refine qq rfl rfl (qr_pick_b rfl rfl rfl) ?_
                refine aops_nil (thn_n ?_)
                refine aw_cond rfl (fun hc75 => ?_) (fun hc75 => ?_)
                · refine aw_seq (aw_region ?_)
                  refine qq rfl rfl (qr_assign rfl) ?_
                  refine qq rfl rfl (qr_assign rfl) ?_
                  refine aops_nil (thn_n ?_)
                  refine aw_ret ?_
                  refine thn_r ?_
                  have hd : decSlow s = (65533, 1) := by
                    unfold decSlow
                    rw [if_neg (by omega)]
                    simp only [hx]
                    rw [if_neg (by decide), if_neg (show ¬ (s.size : Int) < (3 : Int) % 8 from of_decide_eq_false hc45), if_neg (show ¬ (bt s 1 < accLo ((3 : Int) / 16).toNat ∨ accHi ((3 : Int) / 16).toNat < bt s 1) from fun q => q.elim (of_decide_eq_false hg14_4) (of_decide_eq_false hc57)), if_neg (by decide), if_pos (show bt s 2 < 128 ∨ 191 < bt s 2 from by first | exact .inl (of_decide_eq_true hg19_2) | exact .inr (of_decide_eq_true hc75))]
                  exact retq (.cons _ _ _ _ (.tmp _ _ rfl) (.cons _ _ _ _ (.tmp _ _ rfl) .nil)) (.drop1 _ _ _) ⟨rfl, by rw [hd]; rfl⟩
                · first | cases hc75 | exact absurd hc75 (by decide)
              · refine qq rfl rfl (qr_move rfl) ?_
                refine qq rfl rfl (qr_cmp rfl rfl rfl) ?_
                first | refine qq rfl rfl (qr_pick_t rfl rfl) ?_ | refine qq rfl rfl (qr_pick_f rfl rfl) ?_ | refine qq rfl rfl (qr_pick_b rfl rfl rfl) ?_
                refine aops_nil (thn_n ?_)
                refine aw_cond rfl (fun hc75 => ?_) (fun hc75 => ?_)
                · refine aw_seq (aw_region ?_)
                  refine qq rfl rfl (qr_assign rfl) ?_
                  refine qq rfl rfl (qr_assign rfl) ?_
                  refine aops_nil (thn_n ?_)
                  refine aw_ret ?_
                  refine thn_r ?_
                  have hd : decSlow s = (65533, 1) := by
                    unfold decSlow
                    rw [if_neg (by omega)]
                    simp only [hx]
                    rw [if_neg (by decide), if_neg (show ¬ (s.size : Int) < (3 : Int) % 8 from of_decide_eq_false hc45), if_neg (show ¬ (bt s 1 < accLo ((3 : Int) / 16).toNat ∨ accHi ((3 : Int) / 16).toNat < bt s 1) from fun q => q.elim (of_decide_eq_false hg14_4) (of_decide_eq_false hc57)), if_neg (by decide), if_pos (show bt s 2 < 128 ∨ 191 < bt s 2 from by first | exact .inl (of_decide_eq_true hg19_2) | exact .inr (of_decide_eq_true hc75))]
                  exact retq (.cons _ _ _ _ (.tmp _ _ rfl) (.cons _ _ _ _ (.tmp _ _ rfl) .nil)) (.drop1 _ _ _) ⟨rfl, by rw [hd]; rfl⟩
                · refine aw_skip ?_
                  refine thn_n ?_
                  refine aw_seq ?_
                  refine aw_seq (aw_region ?_)
                  refine qq rfl rfl (qr_move rfl) ?_
                  refine qq rfl rfl (qr_cmp rfl rfl rfl) ?_
                  refine aops_nil (thn_n ?_)
                  refine aw_cond rfl (fun hc77 => ?_) (fun hc77 => ?_)
                  · refine aw_seq (aw_region ?_)
                    refine qq rfl rfl (qr_move rfl) ?_
                    refine qq rfl rfl (qr_bits rfl rfl rfl) ?_
                    refine qq rfl rfl (qr_convert rfl rfl) ?_
                    refine qq rfl rfl (qr_shift rfl rfl rfl (by decide)) ?_
                    refine qq rfl rfl (qr_move rfl) ?_
                    refine qq rfl rfl (qr_bits rfl rfl rfl) ?_
                    refine qq rfl rfl (qr_convert rfl rfl) ?_
                    refine qq rfl rfl (qr_shift rfl rfl rfl (by decide)) ?_
                    refine qq rfl rfl (qr_bits rfl rfl rfl) ?_
                    refine qq rfl rfl (qr_move rfl) ?_
                    refine qq rfl rfl (qr_bits rfl rfl rfl) ?_
                    refine qq rfl rfl (qr_convert rfl rfl) ?_
                    refine qq rfl rfl (qr_bits rfl rfl rfl) ?_
                    refine qq rfl rfl (qr_assign rfl) ?_
                    refine qq rfl rfl (qr_assign rfl) ?_
                    refine aops_nil (thn_n ?_)
                    refine aw_ret ?_
                    refine thn_r ?_
                    have hd : decSlow s = (bI .or .i32 (bI .or .i32 (rbits (bt s 0) 15 12) (rbits (bt s 1) 63 6)) (rbits (bt s 2) 63 0), 3) := by
                      unfold decSlow
                      rw [if_neg (by omega)]
                      simp only [hx]
                      rw [if_neg (by decide), if_neg (show ¬ (s.size : Int) < (3 : Int) % 8 from of_decide_eq_false hc45), if_neg (show ¬ (bt s 1 < accLo ((3 : Int) / 16).toNat ∨ accHi ((3 : Int) / 16).toNat < bt s 1) from fun q => q.elim (of_decide_eq_false hg14_4) (of_decide_eq_false hc57)), if_neg (by decide), if_neg (show ¬ (bt s 2 < 128 ∨ 191 < bt s 2) from fun q => q.elim (of_decide_eq_false hg19_2) (of_decide_eq_false hc75)), if_pos (by decide)]
                    exact retq (.cons _ _ _ _ (.tmp _ _ rfl) (.cons _ _ _ _ (.tmp _ _ rfl) .nil)) (.drop1 _ _ _) ⟨rfl, by rw [hd]; rfl⟩
                  · first | cases hc77 | exact absurd hc77 (by decide)
theorem decodeSlow35 (s : ByteArray) (hx : firstV (bt s 0).toNat = 35) : ACall Tryd.prog 88 [.v (.string s)] [.glob 1 129 firstC, .glob 2 133 acceptC] (fun r h' => h' = [.glob 1 129 firstC, .glob 2 133 acceptC] ∧ r = .tup [.v (.int .i32 (decSlow s).1), iv (decSlow s).2]) := by
  refine acall_of_aw Tryd.func88 rfl rfl rfl ?_
  refine aw_seq (aw_region ?_)
  refine qq rfl rfl (qr_assign rfl) ?_
  refine qq rfl rfl (qr_assign rfl) ?_
  refine aops_nil (thn_n ?_)
  refine aw_seq (aw_region ?_)
  refine qq rfl rfl (qr_move rfl) ?_
  refine qq rfl rfl (qr_len_string rfl) ?_
  refine qq rfl rfl (qr_assign rfl) ?_
  refine aops_nil (thn_n ?_)
  refine aw_seq ?_
  refine aw_seq (aw_region ?_)
  refine qq rfl rfl (qr_move rfl) ?_
  refine qq rfl rfl (qr_cmp rfl rfl rfl) ?_
  refine aops_nil (thn_n ?_)
  refine aw_cond rfl (fun hc16 => ?_) (fun hc16 => ?_)
  · refine aw_seq (aw_region ?_)
    refine qq rfl rfl (qr_assign rfl) ?_
    refine qq rfl rfl (qr_assign rfl) ?_
    refine aops_nil (thn_n ?_)
    refine aw_ret ?_
    refine thn_r ?_
    have hd : decSlow s = (65533, 0) := by
      unfold decSlow
      rw [if_pos (by simp at hc16; omega)]
    exact retq (.cons _ _ _ _ (.tmp _ _ rfl) (.cons _ _ _ _ (.tmp _ _ rfl) .nil)) (.refl _ _) ⟨rfl, by rw [hd]; rfl⟩
  · have h1 : 0 < s.size := by simp at hc16; omega
    refine aw_skip ?_
    refine thn_n ?_
    refine aw_seq (aw_region ?_)
    refine qq rfl rfl (qr_move rfl) ?_
    refine qq rfl rfl (qr_index_bt 0 rfl rfl (by omega)) ?_
    refine qq rfl rfl (qr_assign rfl) ?_
    refine aops_nil (thn_n ?_)
    refine aw_seq (aw_region ?_)
    refine qq rfl rfl (qr_move rfl) ?_
    refine qq rfl rfl (qr_indexAddr_int rfl rfl (bt_ge _ _) (bt_lt _ _)) ?_
    refine qq rfl rfl (qr_load_one rfl (show _ = some (.v (.int .u8 35)) from by rw [firstC_get (bt_ge s 0) (bt_lt s 0), hx])) ?_
    refine qq rfl rfl (qr_assign rfl) ?_
    refine aops_nil (thn_n ?_)
    refine aw_seq ?_
    refine aw_seq (aw_region ?_)
    refine qq rfl rfl (qr_move rfl) ?_
    refine qq rfl rfl (qr_cmp rfl rfl rfl) ?_
    refine aops_nil (thn_n ?_)
    refine aw_cond rfl (fun hc23 => ?_) (fun hc23 => ?_)
    · first | cases hc23 | exact absurd hc23 (by decide)
    · refine aw_skip ?_
      refine thn_n ?_
      refine aw_seq (aw_region ?_)
      refine qq rfl rfl (qr_move rfl) ?_
      refine qq rfl rfl (qr_bits rfl rfl rfl) ?_
      refine qq rfl rfl (qr_convert rfl rfl) ?_
      refine qq rfl rfl (qr_assign rfl) ?_
      refine aops_nil (thn_n ?_)
      refine aw_seq (aw_region ?_)
      refine qq rfl rfl (qr_move rfl) ?_
      refine qq rfl rfl (qr_shift rfl rfl rfl (by decide)) ?_
      refine qq rfl rfl (qr_indexAddr_int rfl rfl (by decide) (by decide)) ?_
      first | refine qq rfl rfl (qr_load_all rfl rfl) ?_ | refine qq rfl rfl (qr_load_pp_all rfl rfl) ?_ | refine qq rfl rfl (qr_load_agg rfl (Nat.le_of_ble_eq_true rfl)) ?_ | refine qq rfl rfl (qr_load_pp_agg rfl (Nat.le_of_ble_eq_true rfl)) ?_
      refine aops_e rfl (oe_alloc rfl fun b9 => ?_)
      first | refine aops_e rfl (oe_store_all rfl rfl rfl ?_) | refine aops_e rfl (oe_store rfl rfl rfl rfl (Nat.le_of_ble_eq_true rfl) ?_)
      refine aops_nil (thn_n ?_)
      refine aw_seq ?_
      refine aw_seq (aw_region ?_)
      refine qq rfl rfl (qr_move rfl) ?_
      refine qq rfl rfl (qr_move rfl) ?_
      refine qq rfl rfl (qr_cmp rfl rfl rfl) ?_
      refine aops_nil (thn_n ?_)
      refine aw_cond rfl (fun hc45 => ?_) (fun hc45 => ?_)
      · refine aw_seq (aw_region ?_)
        refine qq rfl rfl (qr_assign rfl) ?_
        refine qq rfl rfl (qr_assign rfl) ?_
        refine aops_nil (thn_n ?_)
        refine aw_ret ?_
        refine thn_r ?_
        have hd : decSlow s = (65533, 1) := by
          unfold decSlow
          rw [if_neg (by omega)]
          simp only [hx]
          rw [if_neg (by decide), if_pos (show (s.size : Int) < (35 : Int) % 8 from of_decide_eq_true hc45)]
        exact retq (.cons _ _ _ _ (.tmp _ _ rfl) (.cons _ _ _ _ (.tmp _ _ rfl) .nil)) (.drop1 _ _ _) ⟨rfl, by rw [hd]; rfl⟩
      · have h2 : 3 ≤ s.size := by
          have : ¬ ((s.size : Int) < 3) := of_decide_eq_false hc45
          omega
        refine aw_skip ?_
        refine thn_n ?_
        refine aw_seq (aw_region ?_)
        refine qq rfl rfl (qr_move rfl) ?_
        refine qq rfl rfl (qr_index_bt 1 rfl rfl (by omega)) ?_
        refine qq rfl rfl (qr_assign rfl) ?_
        refine aops_nil (thn_n ?_)
        refine aw_seq ?_
        refine aw_seq (aw_region ?_)
        refine qq rfl rfl (qr_move rfl) ?_
        first | refine qq rfl rfl (qr_fieldAddr rfl (Nat.succ_ne_zero _)) ?_ | refine qq rfl rfl (qr_fieldAddr_pp rfl (Nat.succ_ne_zero _)) ?_ | refine qq rfl rfl (qr_fieldAddr_rp rfl (Nat.succ_ne_zero _)) ?_
        first | refine qq rfl rfl (qr_load_one rfl rfl) ?_ | refine qq rfl rfl (qr_load_pp_one rfl rfl) ?_
        refine qq rfl rfl (qr_cmp rfl rfl rfl) ?_
        refine qq rfl rfl (qr_move rfl) ?_
        refine asplit (fun hg14_4 => ?_) (fun hg14_4 => ?_)
        · refine qs rfl rfl ?_
          refine qs rfl rfl ?_
          refine qs rfl rfl ?_
          refine qs rfl rfl ?_
          first | refine qq rfl rfl (qr_pick_t rfl rfl) ?_ | refine qq rfl rfl (qr_pick_f rfl rfl) ?_ | refine qq rfl rfl (qr_pick_b rfl rfl rfl) ?_
          refine aops_nil (thn_n ?_)
          refine aw_cond rfl (fun hc57 => ?_) (fun hc57 => ?_)
          · refine aw_seq (aw_region ?_)
            refine qq rfl rfl (qr_assign rfl) ?_
            refine qq rfl rfl (qr_assign rfl) ?_
            refine aops_nil (thn_n ?_)
            refine aw_ret ?_
            refine thn_r ?_
            have hd : decSlow s = (65533, 1) := by
              unfold decSlow
              rw [if_neg (by omega)]
              simp only [hx]
              rw [if_neg (by decide), if_neg (show ¬ (s.size : Int) < (35 : Int) % 8 from of_decide_eq_false hc45), if_pos (show bt s 1 < accLo ((35 : Int) / 16).toNat ∨ accHi ((35 : Int) / 16).toNat < bt s 1 from by first | exact .inl (of_decide_eq_true hg14_4) | exact .inr (of_decide_eq_true hc57))]
            exact retq (.cons _ _ _ _ (.tmp _ _ rfl) (.cons _ _ _ _ (.tmp _ _ rfl) .nil)) (.drop1 _ _ _) ⟨rfl, by rw [hd]; rfl⟩
          · first | cases hc57 | exact absurd hc57 (by decide)
        · first | refine qq rfl rfl (qr_fieldAddr rfl (Nat.succ_ne_zero _)) ?_ | refine qq rfl rfl (qr_fieldAddr_pp rfl (Nat.succ_ne_zero _)) ?_ | refine qq rfl rfl (qr_fieldAddr_rp rfl (Nat.succ_ne_zero _)) ?_
          first | refine qq rfl rfl (qr_load_one rfl rfl) ?_ | refine qq rfl rfl (qr_load_pp_one rfl rfl) ?_
          refine qq rfl rfl (qr_move rfl) ?_
          refine qq rfl rfl (qr_cmp rfl rfl rfl) ?_
          first | refine qq rfl rfl (qr_pick_t rfl rfl) ?_ | refine qq rfl rfl (qr_pick_f rfl rfl) ?_ | refine qq rfl rfl (qr_pick_b rfl rfl rfl) ?_
          refine aops_nil (thn_n ?_)
          refine aw_cond rfl (fun hc57 => ?_) (fun hc57 => ?_)
          · refine aw_seq (aw_region ?_)
            refine qq rfl rfl (qr_assign rfl) ?_
            refine qq rfl rfl (qr_assign rfl) ?_
            refine aops_nil (thn_n ?_)
            refine aw_ret ?_
            refine thn_r ?_
            have hd : decSlow s = (65533, 1) := by
              unfold decSlow
              rw [if_neg (by omega)]
              simp only [hx]
              rw [if_neg (by decide), if_neg (show ¬ (s.size : Int) < (35 : Int) % 8 from of_decide_eq_false hc45), if_pos (show bt s 1 < accLo ((35 : Int) / 16).toNat ∨ accHi ((35 : Int) / 16).toNat < bt s 1 from by first | exact .inl (of_decide_eq_true hg14_4) | exact .inr (of_decide_eq_true hc57))]
            exact retq (.cons _ _ _ _ (.tmp _ _ rfl) (.cons _ _ _ _ (.tmp _ _ rfl) .nil)) (.drop1 _ _ _) ⟨rfl, by rw [hd]; rfl⟩
          · refine aw_skip ?_
            refine thn_n ?_
            refine aw_seq ?_
            refine aw_seq (aw_region ?_)
            refine qq rfl rfl (qr_move rfl) ?_
            refine qq rfl rfl (qr_cmp rfl rfl rfl) ?_
            refine aops_nil (thn_n ?_)
            refine aw_cond rfl (fun hc59 => ?_) (fun hc59 => ?_)
            · first | cases hc59 | exact absurd hc59 (by decide)
            · refine aw_skip ?_
              refine thn_n ?_
              refine aw_seq (aw_region ?_)
              refine qq rfl rfl (qr_move rfl) ?_
              refine qq rfl rfl (qr_index_bt 2 rfl rfl (by omega)) ?_
              refine qq rfl rfl (qr_assign rfl) ?_
              refine aops_nil (thn_n ?_)
              refine aw_seq ?_
              refine aw_seq (aw_region ?_)
              refine qq rfl rfl (qr_move rfl) ?_
              refine qq rfl rfl (qr_cmp rfl rfl rfl) ?_
              refine qq rfl rfl (qr_move rfl) ?_
              refine asplit (fun hg19_2 => ?_) (fun hg19_2 => ?_)
              · refine qs rfl rfl ?_
                refine qs rfl rfl ?_
                first | refine qq rfl rfl (qr_pick_t rfl rfl) ?_ | refine qq rfl rfl (qr_pick_f rfl rfl) ?_ | refine qq rfl rfl (qr_pick_b rfl rfl rfl) ?_
                refine aops_nil (thn_n ?_)
                refine aw_cond rfl (fun hc75 => ?_) (fun hc75 => ?_)
                · refine aw_seq (aw_region ?_)
                  refine qq rfl rfl (qr_assign rfl) ?_
                  refine qq rfl rfl (qr_assign rfl) ?_
                  refine aops_nil (thn_n ?_)
                  refine aw_ret ?_
                  refine thn_r ?_
                  have hd : decSlow s = (65533, 1) := by
                    unfold decSlow
                    rw [if_neg (by omega)]
                    simp only [hx]
                    rw [if_neg (by decide), if_neg (show ¬ (s.size : Int) < (35 : Int) % 8 from of_decide_eq_false hc45), if_neg (show ¬ (bt s 1 < accLo ((35 : Int) / 16).toNat ∨ accHi ((35 : Int) / 16).toNat < bt s 1) from fun q => q.elim (of_decide_eq_false hg14_4) (of_decide_eq_false hc57)), if_neg (by decide), if_pos (show bt s 2 < 128 ∨ 191 < bt s 2 from by first | exact .inl (of_decide_eq_true hg19_2) | exact .inr (of_decide_eq_true hc75))]
                  exact retq (.cons _ _ _ _ (.tmp _ _ rfl) (.cons _ _ _ _ (.tmp _ _ rfl) .nil)) (.drop1 _ _ _) ⟨rfl, by rw [hd]; rfl⟩
                · first | cases hc75 | exact absurd hc75 (by decide)
              · refine qq rfl rfl (qr_move rfl) ?_
                refine qq rfl rfl (qr_cmp rfl rfl rfl) ?_
                first | refine qq rfl rfl (qr_pick_t rfl rfl) ?_ | refine qq rfl rfl (qr_pick_f rfl rfl) ?_ | refine qq rfl rfl (qr_pick_b rfl rfl rfl) ?_
                refine aops_nil (thn_n ?_)
                refine aw_cond rfl (fun hc75 => ?_) (fun hc75 => ?_)
                · refine aw_seq (aw_region ?_)
                  refine qq rfl rfl (qr_assign rfl) ?_
                  refine qq rfl rfl (qr_assign rfl) ?_
                  refine aops_nil (thn_n ?_)
                  refine aw_ret ?_
                  refine thn_r ?_
                  have hd : decSlow s = (65533, 1) := by
                    unfold decSlow
                    rw [if_neg (by omega)]
                    simp only [hx]
                    rw [if_neg (by decide), if_neg (show ¬ (s.size : Int) < (35 : Int) % 8 from of_decide_eq_false hc45), if_neg (show ¬ (bt s 1 < accLo ((35 : Int) / 16).toNat ∨ accHi ((35 : Int) / 16).toNat < bt s 1) from fun q => q.elim (of_decide_eq_false hg14_4) (of_decide_eq_false hc57)), if_neg (by decide), if_pos (show bt s 2 < 128 ∨ 191 < bt s 2 from by first | exact .inl (of_decide_eq_true hg19_2) | exact .inr (of_decide_eq_true hc75))]
                  exact retq (.cons _ _ _ _ (.tmp _ _ rfl) (.cons _ _ _ _ (.tmp _ _ rfl) .nil)) (.drop1 _ _ _) ⟨rfl, by rw [hd]; rfl⟩
                · refine aw_skip ?_
                  refine thn_n ?_
                  refine aw_seq ?_
                  refine aw_seq (aw_region ?_)
                  refine qq rfl rfl (qr_move rfl) ?_
                  refine qq rfl rfl (qr_cmp rfl rfl rfl) ?_
                  refine aops_nil (thn_n ?_)
                  refine aw_cond rfl (fun hc77 => ?_) (fun hc77 => ?_)
                  · refine aw_seq (aw_region ?_)
                    refine qq rfl rfl (qr_move rfl) ?_
                    refine qq rfl rfl (qr_bits rfl rfl rfl) ?_
                    refine qq rfl rfl (qr_convert rfl rfl) ?_
                    refine qq rfl rfl (qr_shift rfl rfl rfl (by decide)) ?_
                    refine qq rfl rfl (qr_move rfl) ?_
                    refine qq rfl rfl (qr_bits rfl rfl rfl) ?_
                    refine qq rfl rfl (qr_convert rfl rfl) ?_
                    refine qq rfl rfl (qr_shift rfl rfl rfl (by decide)) ?_
                    refine qq rfl rfl (qr_bits rfl rfl rfl) ?_
                    refine qq rfl rfl (qr_move rfl) ?_
                    refine qq rfl rfl (qr_bits rfl rfl rfl) ?_
                    refine qq rfl rfl (qr_convert rfl rfl) ?_
                    refine qq rfl rfl (qr_bits rfl rfl rfl) ?_
                    refine qq rfl rfl (qr_assign rfl) ?_
                    refine qq rfl rfl (qr_assign rfl) ?_
                    refine aops_nil (thn_n ?_)
                    refine aw_ret ?_
                    refine thn_r ?_
                    have hd : decSlow s = (bI .or .i32 (bI .or .i32 (rbits (bt s 0) 15 12) (rbits (bt s 1) 63 6)) (rbits (bt s 2) 63 0), 3) := by
                      unfold decSlow
                      rw [if_neg (by omega)]
                      simp only [hx]
                      rw [if_neg (by decide), if_neg (show ¬ (s.size : Int) < (35 : Int) % 8 from of_decide_eq_false hc45), if_neg (show ¬ (bt s 1 < accLo ((35 : Int) / 16).toNat ∨ accHi ((35 : Int) / 16).toNat < bt s 1) from fun q => q.elim (of_decide_eq_false hg14_4) (of_decide_eq_false hc57)), if_neg (by decide), if_neg (show ¬ (bt s 2 < 128 ∨ 191 < bt s 2) from fun q => q.elim (of_decide_eq_false hg19_2) (of_decide_eq_false hc75)), if_pos (by decide)]
                    exact retq (.cons _ _ _ _ (.tmp _ _ rfl) (.cons _ _ _ _ (.tmp _ _ rfl) .nil)) (.drop1 _ _ _) ⟨rfl, by rw [hd]; rfl⟩
                  · first | cases hc77 | exact absurd hc77 (by decide)
theorem decodeSlow52 (s : ByteArray) (hx : firstV (bt s 0).toNat = 52) : ACall Tryd.prog 88 [.v (.string s)] [.glob 1 129 firstC, .glob 2 133 acceptC] (fun r h' => h' = [.glob 1 129 firstC, .glob 2 133 acceptC] ∧ r = .tup [.v (.int .i32 (decSlow s).1), iv (decSlow s).2]) := by
  refine acall_of_aw Tryd.func88 rfl rfl rfl ?_
  refine aw_seq (aw_region ?_)
  refine qq rfl rfl (qr_assign rfl) ?_
  refine qq rfl rfl (qr_assign rfl) ?_
  refine aops_nil (thn_n ?_)
  refine aw_seq (aw_region ?_)
  refine qq rfl rfl (qr_move rfl) ?_
  refine qq rfl rfl (qr_len_string rfl) ?_
  refine qq rfl rfl (qr_assign rfl) ?_
  refine aops_nil (thn_n ?_)
  refine aw_seq ?_
  refine aw_seq (aw_region ?_)
  refine qq rfl rfl (qr_move rfl) ?_
  refine qq rfl rfl (qr_cmp rfl rfl rfl) ?_
  refine aops_nil (thn_n ?_)
  refine aw_cond rfl (fun hc16 => ?_) (fun hc16 => ?_)
  · refine aw_seq (aw_region ?_)
    refine qq rfl rfl (qr_assign rfl) ?_
    refine qq rfl rfl (qr_assign rfl) ?_
    refine aops_nil (thn_n ?_)
    refine aw_ret ?_
    refine thn_r ?_
    have hd : decSlow s = (65533, 0) := by
      unfold decSlow
      rw [if_pos (by simp at hc16; omega)]
    exact retq (.cons _ _ _ _ (.tmp _ _ rfl) (.cons _ _ _ _ (.tmp _ _ rfl) .nil)) (.refl _ _) ⟨rfl, by rw [hd]; rfl⟩
  · have h1 : 0 < s.size := by simp at hc16; omega
    refine aw_skip ?_
    refine thn_n ?_
    refine aw_seq (aw_region ?_)
    refine qq rfl rfl (qr_move rfl) ?_
    refine qq rfl rfl (qr_index_bt 0 rfl rfl (by omega)) ?_
    refine qq rfl rfl (qr_assign rfl) ?_
    refine aops_nil (thn_n ?_)
    refine aw_seq (aw_region ?_)
    refine qq rfl rfl (qr_move rfl) ?_
    refine qq rfl rfl (qr_indexAddr_int rfl rfl (bt_ge _ _) (bt_lt _ _)) ?_
    refine qq rfl rfl (qr_load_one rfl (show _ = some (.v (.int .u8 52)) from by rw [firstC_get (bt_ge s 0) (bt_lt s 0), hx])) ?_
    refine qq rfl rfl (qr_assign rfl) ?_
    refine aops_nil (thn_n ?_)
    refine aw_seq ?_
    refine aw_seq (aw_region ?_)
    refine qq rfl rfl (qr_move rfl) ?_
    refine qq rfl rfl (qr_cmp rfl rfl rfl) ?_
    refine aops_nil (thn_n ?_)
    refine aw_cond rfl (fun hc23 => ?_) (fun hc23 => ?_)
    · first | cases hc23 | exact absurd hc23 (by decide)
    · refine aw_skip ?_
      refine thn_n ?_
      refine aw_seq (aw_region ?_)
      refine qq rfl rfl (qr_move rfl) ?_
      refine qq rfl rfl (qr_bits rfl rfl rfl) ?_
      refine qq rfl rfl (qr_convert rfl rfl) ?_
      refine qq rfl rfl (qr_assign rfl) ?_
      refine aops_nil (thn_n ?_)
      refine aw_seq (aw_region ?_)
      refine qq rfl rfl (qr_move rfl) ?_
      refine qq rfl rfl (qr_shift rfl rfl rfl (by decide)) ?_
      refine qq rfl rfl (qr_indexAddr_int rfl rfl (by decide) (by decide)) ?_
      first | refine qq rfl rfl (qr_load_all rfl rfl) ?_ | refine qq rfl rfl (qr_load_pp_all rfl rfl) ?_ | refine qq rfl rfl (qr_load_agg rfl (Nat.le_of_ble_eq_true rfl)) ?_ | refine qq rfl rfl (qr_load_pp_agg rfl (Nat.le_of_ble_eq_true rfl)) ?_
      refine aops_e rfl (oe_alloc rfl fun b9 => ?_)
      first | refine aops_e rfl (oe_store_all rfl rfl rfl ?_) | refine aops_e rfl (oe_store rfl rfl rfl rfl (Nat.le_of_ble_eq_true rfl) ?_)
      refine aops_nil (thn_n ?_)
      refine aw_seq ?_
      refine aw_seq (aw_region ?_)
      refine qq rfl rfl (qr_move rfl) ?_
      refine qq rfl rfl (qr_move rfl) ?_
      refine qq rfl rfl (qr_cmp rfl rfl rfl) ?_
      refine aops_nil (thn_n ?_)
      refine aw_cond rfl (fun hc45 => ?_) (fun hc45 => ?_)
      · refine aw_seq (aw_region ?_)
        refine qq rfl rfl (qr_assign rfl) ?_
        refine qq rfl rfl (qr_assign rfl) ?_
        refine aops_nil (thn_n ?_)
        refine aw_ret ?_
        refine thn_r ?_
        have hd : decSlow s = (65533, 1) := by
          unfold decSlow
          rw [if_neg (by omega)]
          simp only [hx]
          rw [if_neg (by decide), if_pos (show (s.size : Int) < (52 : Int) % 8 from of_decide_eq_true hc45)]
        exact retq (.cons _ _ _ _ (.tmp _ _ rfl) (.cons _ _ _ _ (.tmp _ _ rfl) .nil)) (.drop1 _ _ _) ⟨rfl, by rw [hd]; rfl⟩
      · have h2 : 4 ≤ s.size := by
          have : ¬ ((s.size : Int) < 4) := of_decide_eq_false hc45
          omega
        refine aw_skip ?_
        refine thn_n ?_
        refine aw_seq (aw_region ?_)
        refine qq rfl rfl (qr_move rfl) ?_
        refine qq rfl rfl (qr_index_bt 1 rfl rfl (by omega)) ?_
        refine qq rfl rfl (qr_assign rfl) ?_
        refine aops_nil (thn_n ?_)
        refine aw_seq ?_
        refine aw_seq (aw_region ?_)
        refine qq rfl rfl (qr_move rfl) ?_
        first | refine qq rfl rfl (qr_fieldAddr rfl (Nat.succ_ne_zero _)) ?_ | refine qq rfl rfl (qr_fieldAddr_pp rfl (Nat.succ_ne_zero _)) ?_ | refine qq rfl rfl (qr_fieldAddr_rp rfl (Nat.succ_ne_zero _)) ?_
        first | refine qq rfl rfl (qr_load_one rfl rfl) ?_ | refine qq rfl rfl (qr_load_pp_one rfl rfl) ?_
        refine qq rfl rfl (qr_cmp rfl rfl rfl) ?_
        refine qq rfl rfl (qr_move rfl) ?_
        refine asplit (fun hg14_4 => ?_) (fun hg14_4 => ?_)
        · refine qs rfl rfl ?_
          refine qs rfl rfl ?_
          refine qs rfl rfl ?_
          refine qs rfl rfl ?_
          first | refine qq rfl rfl (qr_pick_t rfl rfl) ?_ | refine qq rfl rfl (qr_pick_f rfl rfl) ?_ | refine qq rfl rfl (qr_pick_b rfl rfl rfl) ?_
          refine aops_nil (thn_n ?_)
          refine aw_cond rfl (fun hc57 => ?_) (fun hc57 => ?_)
          · refine aw_seq (aw_region ?_)
            refine qq rfl rfl (qr_assign rfl) ?_
            refine qq rfl rfl (qr_assign rfl) ?_
            refine aops_nil (thn_n ?_)
            refine aw_ret ?_
            refine thn_r ?_
            have hd : decSlow s = (65533, 1) := by
              unfold decSlow
              rw [if_neg (by omega)]
              simp only [hx]
              rw [if_neg (by decide), if_neg (show ¬ (s.size : Int) < (52 : Int) % 8 from of_decide_eq_false hc45), if_pos (show bt s 1 < accLo ((52 : Int) / 16).toNat ∨ accHi ((52 : Int) / 16).toNat < bt s 1 from by first | exact .inl (of_decide_eq_true hg14_4) | exact .inr (of_decide_eq_true hc57))]
            exact retq (.cons _ _ _ _ (.tmp _ _ rfl) (.cons _ _ _ _ (.tmp _ _ rfl) .nil)) (.drop1 _ _ _) ⟨rfl, by rw [hd]; rfl⟩
          · first | cases hc57 | exact absurd hc57 (by decide)
        · first | refine qq rfl rfl (qr_fieldAddr rfl (Nat.succ_ne_zero _)) ?_ | refine qq rfl rfl (qr_fieldAddr_pp rfl (Nat.succ_ne_zero _)) ?_ | refine qq rfl rfl (qr_fieldAddr_rp rfl (Nat.succ_ne_zero _)) ?_
          first | refine qq rfl rfl (qr_load_one rfl rfl) ?_ | refine qq rfl rfl (qr_load_pp_one rfl rfl) ?_
          refine qq rfl rfl (qr_move rfl) ?_
          refine qq rfl rfl (qr_cmp rfl rfl rfl) ?_
          first | refine qq rfl rfl (qr_pick_t rfl rfl) ?_ | refine qq rfl rfl (qr_pick_f rfl rfl) ?_ | refine qq rfl rfl (qr_pick_b rfl rfl rfl) ?_
          refine aops_nil (thn_n ?_)
          refine aw_cond rfl (fun hc57 => ?_) (fun hc57 => ?_)
          · refine aw_seq (aw_region ?_)
            refine qq rfl rfl (qr_assign rfl) ?_
            refine qq rfl rfl (qr_assign rfl) ?_
            refine aops_nil (thn_n ?_)
            refine aw_ret ?_
            refine thn_r ?_
            have hd : decSlow s = (65533, 1) := by
              unfold decSlow
              rw [if_neg (by omega)]
              simp only [hx]
              rw [if_neg (by decide), if_neg (show ¬ (s.size : Int) < (52 : Int) % 8 from of_decide_eq_false hc45), if_pos (show bt s 1 < accLo ((52 : Int) / 16).toNat ∨ accHi ((52 : Int) / 16).toNat < bt s 1 from by first | exact .inl (of_decide_eq_true hg14_4) | exact .inr (of_decide_eq_true hc57))]
            exact retq (.cons _ _ _ _ (.tmp _ _ rfl) (.cons _ _ _ _ (.tmp _ _ rfl) .nil)) (.drop1 _ _ _) ⟨rfl, by rw [hd]; rfl⟩
          · refine aw_skip ?_
            refine thn_n ?_
            refine aw_seq ?_
            refine aw_seq (aw_region ?_)
            refine qq rfl rfl (qr_move rfl) ?_
            refine qq rfl rfl (qr_cmp rfl rfl rfl) ?_
            refine aops_nil (thn_n ?_)
            refine aw_cond rfl (fun hc59 => ?_) (fun hc59 => ?_)
            · first | cases hc59 | exact absurd hc59 (by decide)
            · refine aw_skip ?_
              refine thn_n ?_
              refine aw_seq (aw_region ?_)
              refine qq rfl rfl (qr_move rfl) ?_
              refine qq rfl rfl (qr_index_bt 2 rfl rfl (by omega)) ?_
              refine qq rfl rfl (qr_assign rfl) ?_
              refine aops_nil (thn_n ?_)
              refine aw_seq ?_
              refine aw_seq (aw_region ?_)
              refine qq rfl rfl (qr_move rfl) ?_
              refine qq rfl rfl (qr_cmp rfl rfl rfl) ?_
              refine qq rfl rfl (qr_move rfl) ?_
              refine asplit (fun hg19_2 => ?_) (fun hg19_2 => ?_)
              · refine qs rfl rfl ?_
                refine qs rfl rfl ?_
                first | refine qq rfl rfl (qr_pick_t rfl rfl) ?_ | refine qq rfl rfl (qr_pick_f rfl rfl) ?_ | refine qq rfl rfl (qr_pick_b rfl rfl rfl) ?_
                refine aops_nil (thn_n ?_)
                refine aw_cond rfl (fun hc75 => ?_) (fun hc75 => ?_)
                · refine aw_seq (aw_region ?_)
                  refine qq rfl rfl (qr_assign rfl) ?_
                  refine qq rfl rfl (qr_assign rfl) ?_
                  refine aops_nil (thn_n ?_)
                  refine aw_ret ?_
                  refine thn_r ?_
                  have hd : decSlow s = (65533, 1) := by
                    unfold decSlow
                    rw [if_neg (by omega)]
                    simp only [hx]
                    rw [if_neg (by decide), if_neg (show ¬ (s.size : Int) < (52 : Int) % 8 from of_decide_eq_false hc45), if_neg (show ¬ (bt s 1 < accLo ((52 : Int) / 16).toNat ∨ accHi ((52 : Int) / 16).toNat < bt s 1) from fun q => q.elim (of_decide_eq_false hg14_4) (of_decide_eq_false hc57)), if_neg (by decide), if_pos (show bt s 2 < 128 ∨ 191 < bt s 2 from by first | exact .inl (of_decide_eq_true hg19_2) | exact .inr (of_decide_eq_true hc75))]
                  exact retq (.cons _ _ _ _ (.tmp _ _ rfl) (.cons _ _ _ _ (.tmp _ _ rfl) .nil)) (.drop1 _ _ _) ⟨rfl, by rw [hd]; rfl⟩
                · first | cases hc75 | exact absurd hc75 (by decide)
              · refine qq rfl rfl (qr_move rfl) ?_
                refine qq rfl rfl (qr_cmp rfl rfl rfl) ?_
                first | refine qq rfl rfl (qr_pick_t rfl rfl) ?_ | refine qq rfl rfl (qr_pick_f rfl rfl) ?_ | refine qq rfl rfl (qr_pick_b rfl rfl rfl) ?_
                refine aops_nil (thn_n ?_)
                refine aw_cond rfl (fun hc75 => ?_) (fun hc75 => ?_)
                · refine aw_seq (aw_region ?_)
                  refine qq rfl rfl (qr_assign rfl) ?_
                  refine qq rfl rfl (qr_assign rfl) ?_
                  refine aops_nil (thn_n ?_)
                  refine aw_ret ?_
                  refine thn_r ?_
                  have hd : decSlow s = (65533, 1) := by
                    unfold decSlow
                    rw [if_neg (by omega)]
                    simp only [hx]
                    rw [if_neg (by decide), if_neg (show ¬ (s.size : Int) < (52 : Int) % 8 from of_decide_eq_false hc45), if_neg (show ¬ (bt s 1 < accLo ((52 : Int) / 16).toNat ∨ accHi ((52 : Int) / 16).toNat < bt s 1) from fun q => q.elim (of_decide_eq_false hg14_4) (of_decide_eq_false hc57)), if_neg (by decide), if_pos (show bt s 2 < 128 ∨ 191 < bt s 2 from by first | exact .inl (of_decide_eq_true hg19_2) | exact .inr (of_decide_eq_true hc75))]
                  exact retq (.cons _ _ _ _ (.tmp _ _ rfl) (.cons _ _ _ _ (.tmp _ _ rfl) .nil)) (.drop1 _ _ _) ⟨rfl, by rw [hd]; rfl⟩
                · refine aw_skip ?_
                  refine thn_n ?_
                  refine aw_seq ?_
                  refine aw_seq (aw_region ?_)
                  refine qq rfl rfl (qr_move rfl) ?_
                  refine qq rfl rfl (qr_cmp rfl rfl rfl) ?_
                  refine aops_nil (thn_n ?_)
                  refine aw_cond rfl (fun hc77 => ?_) (fun hc77 => ?_)
                  · first | cases hc77 | exact absurd hc77 (by decide)
                  · refine aw_skip ?_
                    refine thn_n ?_
                    refine aw_seq (aw_region ?_)
                    refine qq rfl rfl (qr_move rfl) ?_
                    refine qq rfl rfl (qr_index_bt 3 rfl rfl (by omega)) ?_
                    refine qq rfl rfl (qr_assign rfl) ?_
                    refine aops_nil (thn_n ?_)
                    refine aw_seq ?_
                    refine aw_seq (aw_region ?_)
                    refine qq rfl rfl (qr_move rfl) ?_
                    refine qq rfl rfl (qr_cmp rfl rfl rfl) ?_
                    refine qq rfl rfl (qr_move rfl) ?_
                    refine asplit (fun hg24_2 => ?_) (fun hg24_2 => ?_)
                    · refine qs rfl rfl ?_
                      refine qs rfl rfl ?_
                      first | refine qq rfl rfl (qr_pick_t rfl rfl) ?_ | refine qq rfl rfl (qr_pick_f rfl rfl) ?_ | refine qq rfl rfl (qr_pick_b rfl rfl rfl) ?_
                      refine aops_nil (thn_n ?_)
                      refine aw_cond rfl (fun hc98 => ?_) (fun hc98 => ?_)
                      · refine aw_seq (aw_region ?_)
                        refine qq rfl rfl (qr_assign rfl) ?_
                        refine qq rfl rfl (qr_assign rfl) ?_
                        refine aops_nil (thn_n ?_)
                        refine aw_ret ?_
                        refine thn_r ?_
                        have hd : decSlow s = (65533, 1) := by
                          unfold decSlow
                          rw [if_neg (by omega)]
                          simp only [hx]
                          rw [if_neg (by decide), if_neg (show ¬ (s.size : Int) < (52 : Int) % 8 from of_decide_eq_false hc45), if_neg (show ¬ (bt s 1 < accLo ((52 : Int) / 16).toNat ∨ accHi ((52 : Int) / 16).toNat < bt s 1) from fun q => q.elim (of_decide_eq_false hg14_4) (of_decide_eq_false hc57)), if_neg (by decide), if_neg (show ¬ (bt s 2 < 128 ∨ 191 < bt s 2) from fun q => q.elim (of_decide_eq_false hg19_2) (of_decide_eq_false hc75)), if_neg (by decide), if_pos (show bt s 3 < 128 ∨ 191 < bt s 3 from by first | exact .inl (of_decide_eq_true hg24_2) | exact .inr (of_decide_eq_true hc98))]
                        exact retq (.cons _ _ _ _ (.tmp _ _ rfl) (.cons _ _ _ _ (.tmp _ _ rfl) .nil)) (.drop1 _ _ _) ⟨rfl, by rw [hd]; rfl⟩
                      · first | cases hc98 | exact absurd hc98 (by decide)
                    · refine qq rfl rfl (qr_move rfl) ?_
                      refine qq rfl rfl (qr_cmp rfl rfl rfl) ?_
                      first | refine qq rfl rfl (qr_pick_t rfl rfl) ?_ | refine qq rfl rfl (qr_pick_f rfl rfl) ?_ | refine qq rfl rfl (qr_pick_b rfl rfl rfl) ?_
                      refine aops_nil (thn_n ?_)
                      refine aw_cond rfl (fun hc98 => ?_) (fun hc98 => ?_)
                      · refine aw_seq (aw_region ?_)
                        refine qq rfl rfl (qr_assign rfl) ?_
                        refine qq rfl rfl (qr_assign rfl) ?_
                        refine aops_nil (thn_n ?_)
                        refine aw_ret ?_
                        refine thn_r ?_
                        have hd : decSlow s = (65533, 1) := by
                          unfold decSlow
                          rw [if_neg (by omega)]
                          simp only [hx]
                          rw [if_neg (by decide), if_neg (show ¬ (s.size : Int) < (52 : Int) % 8 from of_decide_eq_false hc45), if_neg (show ¬ (bt s 1 < accLo ((52 : Int) / 16).toNat ∨ accHi ((52 : Int) / 16).toNat < bt s 1) from fun q => q.elim (of_decide_eq_false hg14_4) (of_decide_eq_false hc57)), if_neg (by decide), if_neg (show ¬ (bt s 2 < 128 ∨ 191 < bt s 2) from fun q => q.elim (of_decide_eq_false hg19_2) (of_decide_eq_false hc75)), if_neg (by decide), if_pos (show bt s 3 < 128 ∨ 191 < bt s 3 from by first | exact .inl (of_decide_eq_true hg24_2) | exact .inr (of_decide_eq_true hc98))]
                        exact retq (.cons _ _ _ _ (.tmp _ _ rfl) (.cons _ _ _ _ (.tmp _ _ rfl) .nil)) (.drop1 _ _ _) ⟨rfl, by rw [hd]; rfl⟩
                      · refine aw_skip ?_
                        refine thn_n ?_
                        refine aw_seq (aw_region ?_)
                        refine qq rfl rfl (qr_move rfl) ?_
                        refine qq rfl rfl (qr_bits rfl rfl rfl) ?_
                        refine qq rfl rfl (qr_convert rfl rfl) ?_
                        refine qq rfl rfl (qr_shift rfl rfl rfl (by decide)) ?_
                        refine qq rfl rfl (qr_move rfl) ?_
                        refine qq rfl rfl (qr_bits rfl rfl rfl) ?_
                        refine qq rfl rfl (qr_convert rfl rfl) ?_
                        refine qq rfl rfl (qr_shift rfl rfl rfl (by decide)) ?_
                        refine qq rfl rfl (qr_bits rfl rfl rfl) ?_
                        refine qq rfl rfl (qr_move rfl) ?_
                        refine qq rfl rfl (qr_bits rfl rfl rfl) ?_
                        refine qq rfl rfl (qr_convert rfl rfl) ?_
                        refine qq rfl rfl (qr_shift rfl rfl rfl (by decide)) ?_
                        refine qq rfl rfl (qr_bits rfl rfl rfl) ?_
                        refine qq rfl rfl (qr_move rfl) ?_
                        refine qq rfl rfl (qr_bits rfl rfl rfl) ?_
                        refine qq rfl rfl (qr_convert rfl rfl) ?_
                        refine qq rfl rfl (qr_bits rfl rfl rfl) ?_
                        refine qq rfl rfl (qr_assign rfl) ?_
                        refine qq rfl rfl (qr_assign rfl) ?_
                        refine aops_nil (thn_n ?_)
                        refine aw_ret ?_
                        have hd : decSlow s = (bI .or .i32 (bI .or .i32 (bI .or .i32 (rbits (bt s 0) 7 18) (rbits (bt s 1) 63 12)) (rbits (bt s 2) 63 6)) (rbits (bt s 3) 63 0), 4) := by
                          unfold decSlow
                          rw [if_neg (by omega)]
                          simp only [hx]
                          rw [if_neg (by decide), if_neg (show ¬ (s.size : Int) < (52 : Int) % 8 from of_decide_eq_false hc45), if_neg (show ¬ (bt s 1 < accLo ((52 : Int) / 16).toNat ∨ accHi ((52 : Int) / 16).toNat < bt s 1) from fun q => q.elim (of_decide_eq_false hg14_4) (of_decide_eq_false hc57)), if_neg (by decide), if_neg (show ¬ (bt s 2 < 128 ∨ 191 < bt s 2) from fun q => q.elim (of_decide_eq_false hg19_2) (of_decide_eq_false hc75)), if_neg (by decide), if_neg (show ¬ (bt s 3 < 128 ∨ 191 < bt s 3) from fun q => q.elim (of_decide_eq_false hg24_2) (of_decide_eq_false hc98))]
                        exact retq (.cons _ _ _ _ (.tmp _ _ rfl) (.cons _ _ _ _ (.tmp _ _ rfl) .nil)) (.drop1 _ _ _) ⟨rfl, by rw [hd]; rfl⟩
theorem decodeSlow4 (s : ByteArray) (hx : firstV (bt s 0).toNat = 4) : ACall Tryd.prog 88 [.v (.string s)] [.glob 1 129 firstC, .glob 2 133 acceptC] (fun r h' => h' = [.glob 1 129 firstC, .glob 2 133 acceptC] ∧ r = .tup [.v (.int .i32 (decSlow s).1), iv (decSlow s).2]) := by
  refine acall_of_aw Tryd.func88 rfl rfl rfl ?_
  refine aw_seq (aw_region ?_)
  refine qq rfl rfl (qr_assign rfl) ?_
  refine qq rfl rfl (qr_assign rfl) ?_
  refine aops_nil (thn_n ?_)
  refine aw_seq (aw_region ?_)
  refine qq rfl rfl (qr_move rfl) ?_
  refine qq rfl rfl (qr_len_string rfl) ?_
  refine qq rfl rfl (qr_assign rfl) ?_
  refine aops_nil (thn_n ?_)
  refine aw_seq ?_
  refine aw_seq (aw_region ?_)
  refine qq rfl rfl (qr_move rfl) ?_
  refine qq rfl rfl (qr_cmp rfl rfl rfl) ?_
  refine aops_nil (thn_n ?_)
  refine aw_cond rfl (fun hc16 => ?_) (fun hc16 => ?_)
  · refine aw_seq (aw_region ?_)
    refine qq rfl rfl (qr_assign rfl) ?_
    refine qq rfl rfl (qr_assign rfl) ?_
    refine aops_nil (thn_n ?_)
    refine aw_ret ?_
    refine thn_r ?_
    have hd : decSlow s = (65533, 0) := by
      unfold decSlow
      rw [if_pos (by simp at hc16; omega)]
    exact retq (.cons _ _ _ _ (.tmp _ _ rfl) (.cons _ _ _ _ (.tmp _ _ rfl) .nil)) (.refl _ _) ⟨rfl, by rw [hd]; rfl⟩
  · have h1 : 0 < s.size := by simp at hc16; omega
    refine aw_skip ?_
    refine thn_n ?_
    refine aw_seq (aw_region ?_)
    refine qq rfl rfl (qr_move rfl) ?_
    refine qq rfl rfl (qr_index_bt 0 rfl rfl (by omega)) ?_
    refine qq rfl rfl (qr_assign rfl) ?_
    refine aops_nil (thn_n ?_)
    refine aw_seq (aw_region ?_)
    refine qq rfl rfl (qr_move rfl) ?_
    refine qq rfl rfl (qr_indexAddr_int rfl rfl (bt_ge _ _) (bt_lt _ _)) ?_
    refine qq rfl rfl (qr_load_one rfl (show _ = some (.v (.int .u8 4)) from by rw [firstC_get (bt_ge s 0) (bt_lt s 0), hx])) ?_
    refine qq rfl rfl (qr_assign rfl) ?_
    refine aops_nil (thn_n ?_)
    refine aw_seq ?_
    refine aw_seq (aw_region ?_)
    refine qq rfl rfl (qr_move rfl) ?_
    refine qq rfl rfl (qr_cmp rfl rfl rfl) ?_
    refine aops_nil (thn_n ?_)
    refine aw_cond rfl (fun hc23 => ?_) (fun hc23 => ?_)
    · first | cases hc23 | exact absurd hc23 (by decide)
    · refine aw_skip ?_
      refine thn_n ?_
      refine aw_seq (aw_region ?_)
      refine qq rfl rfl (qr_move rfl) ?_
      refine qq rfl rfl (qr_bits rfl rfl rfl) ?_
      refine qq rfl rfl (qr_convert rfl rfl) ?_
      refine qq rfl rfl (qr_assign rfl) ?_
      refine aops_nil (thn_n ?_)
      refine aw_seq (aw_region ?_)
      refine qq rfl rfl (qr_move rfl) ?_
      refine qq rfl rfl (qr_shift rfl rfl rfl (by decide)) ?_
      refine qq rfl rfl (qr_indexAddr_int rfl rfl (by decide) (by decide)) ?_
      first | refine qq rfl rfl (qr_load_all rfl rfl) ?_ | refine qq rfl rfl (qr_load_pp_all rfl rfl) ?_ | refine qq rfl rfl (qr_load_agg rfl (Nat.le_of_ble_eq_true rfl)) ?_ | refine qq rfl rfl (qr_load_pp_agg rfl (Nat.le_of_ble_eq_true rfl)) ?_
      refine aops_e rfl (oe_alloc rfl fun b9 => ?_)
      first | refine aops_e rfl (oe_store_all rfl rfl rfl ?_) | refine aops_e rfl (oe_store rfl rfl rfl rfl (Nat.le_of_ble_eq_true rfl) ?_)
      refine aops_nil (thn_n ?_)
      refine aw_seq ?_
      refine aw_seq (aw_region ?_)
      refine qq rfl rfl (qr_move rfl) ?_
      refine qq rfl rfl (qr_move rfl) ?_
      refine qq rfl rfl (qr_cmp rfl rfl rfl) ?_
      refine aops_nil (thn_n ?_)
      refine aw_cond rfl (fun hc45 => ?_) (fun hc45 => ?_)
      · refine aw_seq (aw_region ?_)
        refine qq rfl rfl (qr_assign rfl) ?_
        refine qq rfl rfl (qr_assign rfl) ?_
        refine aops_nil (thn_n ?_)
        refine aw_ret ?_
        refine thn_r ?_
        have hd : decSlow s = (65533, 1) := by
          unfold decSlow
          rw [if_neg (by omega)]
          simp only [hx]
          rw [if_neg (by decide), if_pos (show (s.size : Int) < (4 : Int) % 8 from of_decide_eq_true hc45)]
        exact retq (.cons _ _ _ _ (.tmp _ _ rfl) (.cons _ _ _ _ (.tmp _ _ rfl) .nil)) (.drop1 _ _ _) ⟨rfl, by rw [hd]; rfl⟩
      · have h2 : 4 ≤ s.size := by
          have : ¬ ((s.size : Int) < 4) := of_decide_eq_false hc45
          omega
        refine aw_skip ?_
        refine thn_n ?_
        refine aw_seq (aw_region ?_)
        refine qq rfl rfl (qr_move rfl) ?_
        refine qq rfl rfl (qr_index_bt 1 rfl rfl (by omega)) ?_
        refine qq rfl rfl (qr_assign rfl) ?_
        refine aops_nil (thn_n ?_)
        refine aw_seq ?_
        refine aw_seq (aw_region ?_)
        refine qq rfl rfl (qr_move rfl) ?_
        first | refine qq rfl rfl (qr_fieldAddr rfl (Nat.succ_ne_zero _)) ?_ | refine qq rfl rfl (qr_fieldAddr_pp rfl (Nat.succ_ne_zero _)) ?_ | refine qq rfl rfl (qr_fieldAddr_rp rfl (Nat.succ_ne_zero _)) ?_
        first | refine qq rfl rfl (qr_load_one rfl rfl) ?_ | refine qq rfl rfl (qr_load_pp_one rfl rfl) ?_
        refine qq rfl rfl (qr_cmp rfl rfl rfl) ?_
        refine qq rfl rfl (qr_move rfl) ?_
        refine asplit (fun hg14_4 => ?_) (fun hg14_4 => ?_)
        · refine qs rfl rfl ?_
          refine qs rfl rfl ?_
          refine qs rfl rfl ?_
          refine qs rfl rfl ?_
          first | refine qq rfl rfl (qr_pick_t rfl rfl) ?_ | refine qq rfl rfl (qr_pick_f rfl rfl) ?_ | refine qq rfl rfl (qr_pick_b rfl rfl rfl) ?_
          refine aops_nil (thn_n ?_)
          refine aw_cond rfl (fun hc57 => ?_) (fun hc57 => ?_)
          · refine aw_seq (aw_region ?_)
            refine qq rfl rfl (qr_assign rfl) ?_
            refine qq rfl rfl (qr_assign rfl) ?_
            refine aops_nil (thn_n ?_)
            refine aw_ret ?_
            refine thn_r ?_
            have hd : decSlow s = (65533, 1) := by
              unfold decSlow
              rw [if_neg (by omega)]
              simp only [hx]
              rw [if_neg (by decide), if_neg (show ¬ (s.size : Int) < (4 : Int) % 8 from of_decide_eq_false hc45), if_pos (show bt s 1 < accLo ((4 : Int) / 16).toNat ∨ accHi ((4 : Int) / 16).toNat < bt s 1 from by first | exact .inl (of_decide_eq_true hg14_4) | exact .inr (of_decide_eq_true hc57))]
            exact retq (.cons _ _ _ _ (.tmp _ _ rfl) (.cons _ _ _ _ (.tmp _ _ rfl) .nil)) (.drop1 _ _ _) ⟨rfl, by rw [hd]; rfl⟩
          · first | cases hc57 | exact absurd hc57 (by decide)
        · first | refine qq rfl rfl (qr_fieldAddr rfl (Nat.succ_ne_zero _)) ?_ | refine qq rfl rfl (qr_fieldAddr_pp rfl (Nat.succ_ne_zero _)) ?_ | refine qq rfl rfl (qr_fieldAddr_rp rfl (Nat.succ_ne_zero _)) ?_
          first | refine qq rfl rfl (qr_load_one rfl rfl) ?_ | refine qq rfl rfl (qr_load_pp_one rfl rfl) ?_
          refine qq rfl rfl (qr_move rfl) ?_
          refine qq rfl rfl (qr_cmp rfl rfl rfl) ?_
          first | refine qq rfl rfl (qr_pick_t rfl rfl) ?_ | refine qq rfl rfl (qr_pick_f rfl rfl) ?_ | refine qq rfl rfl (qr_pick_b rfl rfl rfl) ?_
          refine aops_nil (thn_n ?_)
          refine aw_cond rfl (fun hc57 => ?_) (fun hc57 => ?_)
          · refine aw_seq (aw_region ?_)
            refine qq rfl rfl (qr_assign rfl) ?_
            refine qq rfl rfl (qr_assign rfl) ?_
            refine aops_nil (thn_n ?_)
            refine aw_ret ?_
            refine thn_r ?_
            have hd : decSlow s = (65533, 1) := by
              unfold decSlow
              rw [if_neg (by omega)]
              simp only [hx]
              rw [if_neg (by decide), if_neg (show ¬ (s.size : Int) < (4 : Int) % 8 from of_decide_eq_false hc45), if_pos (show bt s 1 < accLo ((4 : Int) / 16).toNat ∨ accHi ((4 : Int) / 16).toNat < bt s 1 from by first | exact .inl (of_decide_eq_true hg14_4) | exact .inr (of_decide_eq_true hc57))]
            exact retq (.cons _ _ _ _ (.tmp _ _ rfl) (.cons _ _ _ _ (.tmp _ _ rfl) .nil)) (.drop1 _ _ _) ⟨rfl, by rw [hd]; rfl⟩
          · refine aw_skip ?_
            refine thn_n ?_
            refine aw_seq ?_
            refine aw_seq (aw_region ?_)
            refine qq rfl rfl (qr_move rfl) ?_
            refine qq rfl rfl (qr_cmp rfl rfl rfl) ?_
            refine aops_nil (thn_n ?_)
            refine aw_cond rfl (fun hc59 => ?_) (fun hc59 => ?_)
            · first | cases hc59 | exact absurd hc59 (by decide)
            · refine aw_skip ?_
              refine thn_n ?_
              refine aw_seq (aw_region ?_)
              refine qq rfl rfl (qr_move rfl) ?_
              refine qq rfl rfl (qr_index_bt 2 rfl rfl (by omega)) ?_
              refine qq rfl rfl (qr_assign rfl) ?_
              refine aops_nil (thn_n ?_)
              refine aw_seq ?_
              refine aw_seq (aw_region ?_)
              refine qq rfl rfl (qr_move rfl) ?_
              refine qq rfl rfl (qr_cmp rfl rfl rfl) ?_
              refine qq rfl rfl (qr_move rfl) ?_
              refine asplit (fun hg19_2 => ?_) (fun hg19_2 => ?_)
              · refine qs rfl rfl ?_
                refine qs rfl rfl ?_
                first | refine qq rfl rfl (qr_pick_t rfl rfl) ?_ | refine qq rfl rfl (qr_pick_f rfl rfl) ?_ | refine qq rfl rfl (qr_pick_b rfl rfl rfl) ?_
                refine aops_nil (thn_n ?_)
                refine aw_cond rfl (fun hc75 => ?_) (fun hc75 => ?_)
                · refine aw_seq (aw_region ?_)
                  refine qq rfl rfl (qr_assign rfl) ?_
                  refine qq rfl rfl (qr_assign rfl) ?_
                  refine aops_nil (thn_n ?_)
                  refine aw_ret ?_
                  refine thn_r ?_
                  have hd : decSlow s = (65533, 1) := by
                    unfold decSlow
                    rw [if_neg (by omega)]
                    simp only [hx]
                    rw [if_neg (by decide), if_neg (show ¬ (s.size : Int) < (4 : Int) % 8 from of_decide_eq_false hc45), if_neg (show ¬ (bt s 1 < accLo ((4 : Int) / 16).toNat ∨ accHi ((4 : Int) / 16).toNat < bt s 1) from fun q => q.elim (of_decide_eq_false hg14_4) (of_decide_eq_false hc57)), if_neg (by decide), if_pos (show bt s 2 < 128 ∨ 191 < bt s 2 from by first | exact .inl (of_decide_eq_true hg19_2) | exact .inr (of_decide_eq_true hc75))]
                  exact retq (.cons _ _ _ _ (.tmp _ _ rfl) (.cons _ _ _ _ (.tmp _ _ rfl) .nil)) (.drop1 _ _ _) ⟨rfl, by rw [hd]; rfl⟩
                · first | cases hc75 | exact absurd hc75 (by decide)
              · refine qq rfl rfl (qr_move rfl) ?_
                refine qq rfl rfl (qr_cmp rfl rfl rfl) ?_
                first | refine qq rfl rfl (qr_pick_t rfl rfl) ?_ | refine qq rfl rfl (qr_pick_f rfl rfl) ?_ | refine qq rfl rfl (qr_pick_b rfl rfl rfl) ?_
                refine aops_nil (thn_n ?_)
                refine aw_cond rfl (fun hc75 => ?_) (fun hc75 => ?_)
                · refine aw_seq (aw_region ?_)
                  refine qq rfl rfl (qr_assign rfl) ?_
                  refine qq rfl rfl (qr_assign rfl) ?_
                  refine aops_nil (thn_n ?_)
                  refine aw_ret ?_
                  refine thn_r ?_
                  have hd : decSlow s = (65533, 1) := by
                    unfold decSlow
                    rw [if_neg (by omega)]
                    simp only [hx]
                    rw [if_neg (by decide), if_neg (show ¬ (s.size : Int) < (4 : Int) % 8 from of_decide_eq_false hc45), if_neg (show ¬ (bt s 1 < accLo ((4 : Int) / 16).toNat ∨ accHi ((4 : Int) / 16).toNat < bt s 1) from fun q => q.elim (of_decide_eq_false hg14_4) (of_decide_eq_false hc57)), if_neg (by decide), if_pos (show bt s 2 < 128 ∨ 191 < bt s 2 from by first | exact .inl (of_decide_eq_true hg19_2) | exact .inr (of_decide_eq_true hc75))]
                  exact retq (.cons _ _ _ _ (.tmp _ _ rfl) (.cons _ _ _ _ (.tmp _ _ rfl) .nil)) (.drop1 _ _ _) ⟨rfl, by rw [hd]; rfl⟩
                · refine aw_skip ?_
                  refine thn_n ?_
                  refine aw_seq ?_
                  refine aw_seq (aw_region ?_)
                  refine qq rfl rfl (qr_move rfl) ?_
                  refine qq rfl rfl (qr_cmp rfl rfl rfl) ?_
                  refine aops_nil (thn_n ?_)
                  refine aw_cond rfl (fun hc77 => ?_) (fun hc77 => ?_)
                  · first | cases hc77 | exact absurd hc77 (by decide)
                  · refine aw_skip ?_
                    refine thn_n ?_
                    refine aw_seq (aw_region ?_)
                    refine qq rfl rfl (qr_move rfl) ?_
                    refine qq rfl rfl (qr_index_bt 3 rfl rfl (by omega)) ?_
                    refine qq rfl rfl (qr_assign rfl) ?_
                    refine aops_nil (thn_n ?_)
                    refine aw_seq ?_
                    refine aw_seq (aw_region ?_)
                    refine qq rfl rfl (qr_move rfl) ?_
                    refine qq rfl rfl (qr_cmp rfl rfl rfl) ?_
                    refine qq rfl rfl (qr_move rfl) ?_
                    refine asplit (fun hg24_2 => ?_) (fun hg24_2 => ?_)
                    · refine qs rfl rfl ?_
                      refine qs rfl rfl ?_
                      first | refine qq rfl rfl (qr_pick_t rfl rfl) ?_ | refine qq rfl rfl (qr_pick_f rfl rfl) ?_ | refine qq rfl rfl (qr_pick_b rfl rfl rfl) ?_
                      refine aops_nil (thn_n ?_)
                      refine aw_cond rfl (fun hc98 => ?_) (fun hc98 => ?_)
                      · refine aw_seq (aw_region ?_)
                        refine qq rfl rfl (qr_assign rfl) ?_
                        refine qq rfl rfl (qr_assign rfl) ?_
                        refine aops_nil (thn_n ?_)
                        refine aw_ret ?_
                        refine thn_r ?_
                        have hd : decSlow s = (65533, 1) := by
                          unfold decSlow
                          rw [if_neg (by omega)]
                          simp only [hx]
                          rw [if_neg (by decide), if_neg (show ¬ (s.size : Int) < (4 : Int) % 8 from of_decide_eq_false hc45), if_neg (show ¬ (bt s 1 < accLo ((4 : Int) / 16).toNat ∨ accHi ((4 : Int) / 16).toNat < bt s 1) from fun q => q.elim (of_decide_eq_false hg14_4) (of_decide_eq_false hc57)), if_neg (by decide), if_neg (show ¬ (bt s 2 < 128 ∨ 191 < bt s 2) from fun q => q.elim (of_decide_eq_false hg19_2) (of_decide_eq_false hc75)), if_neg (by decide), if_pos (show bt s 3 < 128 ∨ 191 < bt s 3 from by first | exact .inl (of_decide_eq_true hg24_2) | exact .inr (of_decide_eq_true hc98))]
                        exact retq (.cons _ _ _ _ (.tmp _ _ rfl) (.cons _ _ _ _ (.tmp _ _ rfl) .nil)) (.drop1 _ _ _) ⟨rfl, by rw [hd]; rfl⟩
                      · first | cases hc98 | exact absurd hc98 (by decide)
                    · refine qq rfl rfl (qr_move rfl) ?_
                      refine qq rfl rfl (qr_cmp rfl rfl rfl) ?_
                      first | refine qq rfl rfl (qr_pick_t rfl rfl) ?_ | refine qq rfl rfl (qr_pick_f rfl rfl) ?_ | refine qq rfl rfl (qr_pick_b rfl rfl rfl) ?_
                      refine aops_nil (thn_n ?_)
                      refine aw_cond rfl (fun hc98 => ?_) (fun hc98 => ?_)
                      · refine aw_seq (aw_region ?_)
                        refine qq rfl rfl (qr_assign rfl) ?_
                        refine qq rfl rfl (qr_assign rfl) ?_
                        refine aops_nil (thn_n ?_)
                        refine aw_ret ?_
                        refine thn_r ?_
                        have hd : decSlow s = (65533, 1) := by
                          unfold decSlow
                          rw [if_neg (by omega)]
                          simp only [hx]
                          rw [if_neg (by decide), if_neg (show ¬ (s.size : Int) < (4 : Int) % 8 from of_decide_eq_false hc45), if_neg (show ¬ (bt s 1 < accLo ((4 : Int) / 16).toNat ∨ accHi ((4 : Int) / 16).toNat < bt s 1) from fun q => q.elim (of_decide_eq_false hg14_4) (of_decide_eq_false hc57)), if_neg (by decide), if_neg (show ¬ (bt s 2 < 128 ∨ 191 < bt s 2) from fun q => q.elim (of_decide_eq_false hg19_2) (of_decide_eq_false hc75)), if_neg (by decide), if_pos (show bt s 3 < 128 ∨ 191 < bt s 3 from by first | exact .inl (of_decide_eq_true hg24_2) | exact .inr (of_decide_eq_true hc98))]
                        exact retq (.cons _ _ _ _ (.tmp _ _ rfl) (.cons _ _ _ _ (.tmp _ _ rfl) .nil)) (.drop1 _ _ _) ⟨rfl, by rw [hd]; rfl⟩
                      · refine aw_skip ?_
                        refine thn_n ?_
                        refine aw_seq (aw_region ?_)
                        refine qq rfl rfl (qr_move rfl) ?_
                        refine qq rfl rfl (qr_bits rfl rfl rfl) ?_
                        refine qq rfl rfl (qr_convert rfl rfl) ?_
                        refine qq rfl rfl (qr_shift rfl rfl rfl (by decide)) ?_
                        refine qq rfl rfl (qr_move rfl) ?_
                        refine qq rfl rfl (qr_bits rfl rfl rfl) ?_
                        refine qq rfl rfl (qr_convert rfl rfl) ?_
                        refine qq rfl rfl (qr_shift rfl rfl rfl (by decide)) ?_
                        refine qq rfl rfl (qr_bits rfl rfl rfl) ?_
                        refine qq rfl rfl (qr_move rfl) ?_
                        refine qq rfl rfl (qr_bits rfl rfl rfl) ?_
                        refine qq rfl rfl (qr_convert rfl rfl) ?_
                        refine qq rfl rfl (qr_shift rfl rfl rfl (by decide)) ?_
                        refine qq rfl rfl (qr_bits rfl rfl rfl) ?_
                        refine qq rfl rfl (qr_move rfl) ?_
                        refine qq rfl rfl (qr_bits rfl rfl rfl) ?_
                        refine qq rfl rfl (qr_convert rfl rfl) ?_
                        refine qq rfl rfl (qr_bits rfl rfl rfl) ?_
                        refine qq rfl rfl (qr_assign rfl) ?_
                        refine qq rfl rfl (qr_assign rfl) ?_
                        refine aops_nil (thn_n ?_)
                        refine aw_ret ?_
                        have hd : decSlow s = (bI .or .i32 (bI .or .i32 (bI .or .i32 (rbits (bt s 0) 7 18) (rbits (bt s 1) 63 12)) (rbits (bt s 2) 63 6)) (rbits (bt s 3) 63 0), 4) := by
                          unfold decSlow
                          rw [if_neg (by omega)]
                          simp only [hx]
                          rw [if_neg (by decide), if_neg (show ¬ (s.size : Int) < (4 : Int) % 8 from of_decide_eq_false hc45), if_neg (show ¬ (bt s 1 < accLo ((4 : Int) / 16).toNat ∨ accHi ((4 : Int) / 16).toNat < bt s 1) from fun q => q.elim (of_decide_eq_false hg14_4) (of_decide_eq_false hc57)), if_neg (by decide), if_neg (show ¬ (bt s 2 < 128 ∨ 191 < bt s 2) from fun q => q.elim (of_decide_eq_false hg19_2) (of_decide_eq_false hc75)), if_neg (by decide), if_neg (show ¬ (bt s 3 < 128 ∨ 191 < bt s 3) from fun q => q.elim (of_decide_eq_false hg24_2) (of_decide_eq_false hc98))]
                        exact retq (.cons _ _ _ _ (.tmp _ _ rfl) (.cons _ _ _ _ (.tmp _ _ rfl) .nil)) (.drop1 _ _ _) ⟨rfl, by rw [hd]; rfl⟩
theorem decodeSlow68 (s : ByteArray) (hx : firstV (bt s 0).toNat = 68) : ACall Tryd.prog 88 [.v (.string s)] [.glob 1 129 firstC, .glob 2 133 acceptC] (fun r h' => h' = [.glob 1 129 firstC, .glob 2 133 acceptC] ∧ r = .tup [.v (.int .i32 (decSlow s).1), iv (decSlow s).2]) := by
  refine acall_of_aw Tryd.func88 rfl rfl rfl ?_
  refine aw_seq (aw_region ?_)
  refine qq rfl rfl (qr_assign rfl) ?_
  refine qq rfl rfl (qr_assign rfl) ?_
  refine aops_nil (thn_n ?_)
  refine aw_seq (aw_region ?_)
  refine qq rfl rfl (qr_move rfl) ?_
  refine qq rfl rfl (qr_len_string rfl) ?_
  refine qq rfl rfl (qr_assign rfl) ?_
  refine aops_nil (thn_n ?_)
  refine aw_seq ?_
  refine aw_seq (aw_region ?_)
  refine qq rfl rfl (qr_move rfl) ?_
  refine qq rfl rfl (qr_cmp rfl rfl rfl) ?_
  refine aops_nil (thn_n ?_)
  refine aw_cond rfl (fun hc16 => ?_) (fun hc16 => ?_)
  · refine aw_seq (aw_region ?_)
    refine qq rfl rfl (qr_assign rfl) ?_
    refine qq rfl rfl (qr_assign rfl) ?_
    refine aops_nil (thn_n ?_)
    refine aw_ret ?_
    refine thn_r ?_
    have hd : decSlow s = (65533, 0) := by
      unfold decSlow
      rw [if_pos (by simp at hc16; omega)]
    exact retq (.cons _ _ _ _ (.tmp _ _ rfl) (.cons _ _ _ _ (.tmp _ _ rfl) .nil)) (.refl _ _) ⟨rfl, by rw [hd]; rfl⟩
  · have h1 : 0 < s.size := by simp at hc16; omega
    refine aw_skip ?_
    refine thn_n ?_
    refine aw_seq (aw_region ?_)
    refine qq rfl rfl (qr_move rfl) ?_
    refine qq rfl rfl (qr_index_bt 0 rfl rfl (by omega)) ?_
    refine qq rfl rfl (qr_assign rfl) ?_
    refine aops_nil (thn_n ?_)
    refine aw_seq (aw_region ?_)
    refine qq rfl rfl (qr_move rfl) ?_
    refine qq rfl rfl (qr_indexAddr_int rfl rfl (bt_ge _ _) (bt_lt _ _)) ?_
    refine qq rfl rfl (qr_load_one rfl (show _ = some (.v (.int .u8 68)) from by rw [firstC_get (bt_ge s 0) (bt_lt s 0), hx])) ?_
    refine qq rfl rfl (qr_assign rfl) ?_
    refine aops_nil (thn_n ?_)
    refine aw_seq ?_
    refine aw_seq (aw_region ?_)
    refine qq rfl rfl (qr_move rfl) ?_
    refine qq rfl rfl (qr_cmp rfl rfl rfl) ?_
    refine aops_nil (thn_n ?_)
    refine aw_cond rfl (fun hc23 => ?_) (fun hc23 => ?_)
    · first | cases hc23 | exact absurd hc23 (by decide)
    · refine aw_skip ?_
      refine thn_n ?_
      refine aw_seq (aw_region ?_)
      refine qq rfl rfl (qr_move rfl) ?_
      refine qq rfl rfl (qr_bits rfl rfl rfl) ?_
      refine qq rfl rfl (qr_convert rfl rfl) ?_
      refine qq rfl rfl (qr_assign rfl) ?_
      refine aops_nil (thn_n ?_)
      refine aw_seq (aw_region ?_)
      refine qq rfl rfl (qr_move rfl) ?_
      refine qq rfl rfl (qr_shift rfl rfl rfl (by decide)) ?_
      refine qq rfl rfl (qr_indexAddr_int rfl rfl (by decide) (by decide)) ?_
      first | refine qq rfl rfl (qr_load_all rfl rfl) ?_ | refine qq rfl rfl (qr_load_pp_all rfl rfl) ?_ | refine qq rfl rfl (qr_load_agg rfl (Nat.le_of_ble_eq_true rfl)) ?_ | refine qq rfl rfl (qr_load_pp_agg rfl (Nat.le_of_ble_eq_true rfl)) ?_
      refine aops_e rfl (oe_alloc rfl fun b9 => ?_)
      first | refine aops_e rfl (oe_store_all rfl rfl rfl ?_) | refine aops_e rfl (oe_store rfl rfl rfl rfl (Nat.le_of_ble_eq_true rfl) ?_)
      refine aops_nil (thn_n ?_)
      refine aw_seq ?_
      refine aw_seq (aw_region ?_)
      refine qq rfl rfl (qr_move rfl) ?_
      refine qq rfl rfl (qr_move rfl) ?_
      refine qq rfl rfl (qr_cmp rfl rfl rfl) ?_
      refine aops_nil (thn_n ?_)
      refine aw_cond rfl (fun hc45 => ?_) (fun hc45 => ?_)
      · refine aw_seq (aw_region ?_)
        refine qq rfl rfl (qr_assign rfl) ?_
        refine qq rfl rfl (qr_assign rfl) ?_
        refine aops_nil (thn_n ?_)
        refine aw_ret ?_
        refine thn_r ?_
        have hd : decSlow s = (65533, 1) := by
          unfold decSlow
          rw [if_neg (by omega)]
          simp only [hx]
          rw [if_neg (by decide), if_pos (show (s.size : Int) < (68 : Int) % 8 from of_decide_eq_true hc45)]
        exact retq (.cons _ _ _ _ (.tmp _ _ rfl) (.cons _ _ _ _ (.tmp _ _ rfl) .nil)) (.drop1 _ _ _) ⟨rfl, by rw [hd]; rfl⟩
      · have h2 : 4 ≤ s.size := by
          have : ¬ ((s.size : Int) < 4) := of_decide_eq_false hc45
          omega
        refine aw_skip ?_
        refine thn_n ?_
        refine aw_seq (aw_region ?_)
        refine qq rfl rfl (qr_move rfl) ?_
        refine qq rfl rfl (qr_index_bt 1 rfl rfl (by omega)) ?_
        refine qq rfl rfl (qr_assign rfl) ?_
        refine aops_nil (thn_n ?_)
        refine aw_seq ?_
        refine aw_seq (aw_region ?_)
        refine qq rfl rfl (qr_move rfl) ?_
        first | refine qq rfl rfl (qr_fieldAddr rfl (Nat.succ_ne_zero _)) ?_ | refine qq rfl rfl (qr_fieldAddr_pp rfl (Nat.succ_ne_zero _)) ?_ | refine qq rfl rfl (qr_fieldAddr_rp rfl (Nat.succ_ne_zero _)) ?_
        first | refine qq rfl rfl (qr_load_one rfl rfl) ?_ | refine qq rfl rfl (qr_load_pp_one rfl rfl) ?_
        refine qq rfl rfl (qr_cmp rfl rfl rfl) ?_
        refine qq rfl rfl (qr_move rfl) ?_
        refine asplit (fun hg14_4 => ?_) (fun hg14_4 => ?_)
        · refine qs rfl rfl ?_
          refine qs rfl rfl ?_
          refine qs rfl rfl ?_
          refine qs rfl rfl ?_
          first | refine qq rfl rfl (qr_pick_t rfl rfl) ?_ | refine qq rfl rfl (qr_pick_f rfl rfl) ?_ | refine qq rfl rfl (qr_pick_b rfl rfl rfl) ?_
          refine aops_nil (thn_n ?_)
          refine aw_cond rfl (fun hc57 => ?_) (fun hc57 => ?_)
          · refine aw_seq (aw_region ?_)
            refine qq rfl rfl (qr_assign rfl) ?_
            refine qq rfl rfl (qr_assign rfl) ?_
            refine aops_nil (thn_n ?_)
            refine aw_ret ?_
            refine thn_r ?_
            have hd : decSlow s = (65533, 1) := by
              unfold decSlow
              rw [if_neg (by omega)]
              simp only [hx]
              rw [if_neg (by decide), if_neg (show ¬ (s.size : Int) < (68 : Int) % 8 from of_decide_eq_false hc45), if_pos (show bt s 1 < accLo ((68 : Int) / 16).toNat ∨ accHi ((68 : Int) / 16).toNat < bt s 1 from by first | exact .inl (of_decide_eq_true hg14_4) | exact .inr (of_decide_eq_true hc57))]
            exact retq (.cons _ _ _ _ (.tmp _ _ rfl) (.cons _ _ _ _ (.tmp _ _ rfl) .nil)) (.drop1 _ _ _) ⟨rfl, by rw [hd]; rfl⟩
          · first | cases hc57 | exact absurd hc57 (by decide)
        · first | refine qq rfl rfl (qr_fieldAddr rfl (Nat.succ_ne_zero _)) ?_ | refine qq rfl rfl (qr_fieldAddr_pp rfl (Nat.succ_ne_zero _)) ?_ | refine qq rfl rfl (qr_fieldAddr_rp rfl (Nat.succ_ne_zero _)) ?_
          first | refine qq rfl rfl (qr_load_one rfl rfl) ?_ | refine qq rfl rfl (qr_load_pp_one rfl rfl) ?_
          refine qq rfl rfl (qr_move rfl) ?_
          refine qq rfl rfl (qr_cmp rfl rfl rfl) ?_
          first | refine qq rfl rfl (qr_pick_t rfl rfl) ?_ | refine qq rfl rfl (qr_pick_f rfl rfl) ?_ | refine qq rfl rfl (qr_pick_b rfl rfl rfl) ?_
          refine aops_nil (thn_n ?_)
          refine aw_cond rfl (fun hc57 => ?_) (fun hc57 => ?_)
          · refine aw_seq (aw_region ?_)
            refine qq rfl rfl (qr_assign rfl) ?_
            refine qq rfl rfl (qr_assign rfl) ?_
            refine aops_nil (thn_n ?_)
            refine aw_ret ?_
            refine thn_r ?_
            have hd : decSlow s = (65533, 1) := by
              unfold decSlow
              rw [if_neg (by omega)]
              simp only [hx]
              rw [if_neg (by decide), if_neg (show ¬ (s.size : Int) < (68 : Int) % 8 from of_decide_eq_false hc45), if_pos (show bt s 1 < accLo ((68 : Int) / 16).toNat ∨ accHi ((68 : Int) / 16).toNat < bt s 1 from by first | exact .inl (of_decide_eq_true hg14_4) | exact .inr (of_decide_eq_true hc57))]
            exact retq (.cons _ _ _ _ (.tmp _ _ rfl) (.cons _ _ _ _ (.tmp _ _ rfl) .nil)) (.drop1 _ _ _) ⟨rfl, by rw [hd]; rfl⟩
          · refine aw_skip ?_
            refine thn_n ?_
            refine aw_seq ?_
            refine aw_seq (aw_region ?_)
            refine qq rfl rfl (qr_move rfl) ?_
            refine qq rfl rfl (qr_cmp rfl rfl rfl) ?_
            refine aops_nil (thn_n ?_)
            refine aw_cond rfl (fun hc59 => ?_) (fun hc59 => ?_)
            · first | cases hc59 | exact absurd hc59 (by decide)
            · refine aw_skip ?_
              refine thn_n ?_
              refine aw_seq (aw_region ?_)
              refine qq rfl rfl (qr_move rfl) ?_
              refine qq rfl rfl (qr_index_bt 2 rfl rfl (by omega)) ?_
              refine qq rfl rfl (qr_assign rfl) ?_
              refine aops_nil (thn_n ?_)
              refine aw_seq ?_
              refine aw_seq (aw_region ?_)
              refine qq rfl rfl (qr_move rfl) ?_
              refine qq rfl rfl (qr_cmp rfl rfl rfl) ?_
              refine qq rfl rfl (qr_move rfl) ?_
              refine asplit (fun hg19_2 => ?_) (fun hg19_2 => ?_)
              · refine qs rfl rfl ?_
                refine qs rfl rfl ?_
                first | refine qq rfl rfl (qr_pick_t rfl rfl) ?_ | refine qq rfl rfl (qr_pick_f rfl rfl) ?_ | refine qq rfl rfl (qr_pick_b rfl rfl rfl) ?_
                refine aops_nil (thn_n ?_)
                refine aw_cond rfl (fun hc75 => ?_) (fun hc75 => ?_)
                · refine aw_seq (aw_region ?_)
                  refine qq rfl rfl (qr_assign rfl) ?_
                  refine qq rfl rfl (qr_assign rfl) ?_
                  refine aops_nil (thn_n ?_)
                  refine aw_ret ?_
                  refine thn_r ?_
                  have hd : decSlow s = (65533, 1) := by
                    unfold decSlow
                    rw [if_neg (by omega)]
                    simp only [hx]
                    rw [if_neg (by decide), if_neg (show ¬ (s.size : Int) < (68 : Int) % 8 from of_decide_eq_false hc45), if_neg (show ¬ (bt s 1 < accLo ((68 : Int) / 16).toNat ∨ accHi ((68 : Int) / 16).toNat < bt s 1) from fun q => q.elim (of_decide_eq_false hg14_4) (of_decide_eq_false hc57)), if_neg (by decide), if_pos (show bt s 2 < 128 ∨ 191 < bt s 2 from by first | exact .inl (of_decide_eq_true hg19_2) | exact .inr (of_decide_eq_true hc75))]
                  exact retq (.cons _ _ _ _ (.tmp _ _ rfl) (.cons _ _ _ _ (.tmp _ _ rfl) .nil)) (.drop1 _ _ _) ⟨rfl, by rw [hd]; rfl⟩
                · first | cases hc75 | exact absurd hc75 (by decide)
              · refine qq rfl rfl (qr_move rfl) ?_
                refine qq rfl rfl (qr_cmp rfl rfl rfl) ?_
                first | refine qq rfl rfl (qr_pick_t rfl rfl) ?_ | refine qq rfl rfl (qr_pick_f rfl rfl) ?_ | refine qq rfl rfl (qr_pick_b rfl rfl rfl) ?_
                refine aops_nil (thn_n ?_)
                refine aw_cond rfl (fun hc75 => ?_) (fun hc75 => ?_)
                · refine aw_seq (aw_region ?_)
                  refine qq rfl rfl (qr_assign rfl) ?_
                  refine qq rfl rfl (qr_assign rfl) ?_
                  refine aops_nil (thn_n ?_)
                  refine aw_ret ?_
                  refine thn_r ?_
                  have hd : decSlow s = (65533, 1) := by
                    unfold decSlow
                    rw [if_neg (by omega)]
                    simp only [hx]
                    rw [if_neg (by decide), if_neg (show ¬ (s.size : Int) < (68 : Int) % 8 from of_decide_eq_false hc45), if_neg (show ¬ (bt s 1 < accLo ((68 : Int) / 16).toNat ∨ accHi ((68 : Int) / 16).toNat < bt s 1) from fun q => q.elim (of_decide_eq_false hg14_4) (of_decide_eq_false hc57)), if_neg (by decide), if_pos (show bt s 2 < 128 ∨ 191 < bt s 2 from by first | exact .inl (of_decide_eq_true hg19_2) | exact .inr (of_decide_eq_true hc75))]
                  exact retq (.cons _ _ _ _ (.tmp _ _ rfl) (.cons _ _ _ _ (.tmp _ _ rfl) .nil)) (.drop1 _ _ _) ⟨rfl, by rw [hd]; rfl⟩
                · refine aw_skip ?_
                  refine thn_n ?_
                  refine aw_seq ?_
                  refine aw_seq (aw_region ?_)
                  refine qq rfl rfl (qr_move rfl) ?_
                  refine qq rfl rfl (qr_cmp rfl rfl rfl) ?_
                  refine aops_nil (thn_n ?_)
                  refine aw_cond rfl (fun hc77 => ?_) (fun hc77 => ?_)
                  · first | cases hc77 | exact absurd hc77 (by decide)
                  · refine aw_skip ?_
                    refine thn_n ?_
                    refine aw_seq (aw_region ?_)
                    refine qq rfl rfl (qr_move rfl) ?_
                    refine qq rfl rfl (qr_index_bt 3 rfl rfl (by omega)) ?_
                    refine qq rfl rfl (qr_assign rfl) ?_
                    refine aops_nil (thn_n ?_)
                    refine aw_seq ?_
                    refine aw_seq (aw_region ?_)
                    refine qq rfl rfl (qr_move rfl) ?_
                    refine qq rfl rfl (qr_cmp rfl rfl rfl) ?_
                    refine qq rfl rfl (qr_move rfl) ?_
                    refine asplit (fun hg24_2 => ?_) (fun hg24_2 => ?_)
                    · refine qs rfl rfl ?_
                      refine qs rfl rfl ?_
                      first | refine qq rfl rfl (qr_pick_t rfl rfl) ?_ | refine qq rfl rfl (qr_pick_f rfl rfl) ?_ | refine qq rfl rfl (qr_pick_b rfl rfl rfl) ?_
                      refine aops_nil (thn_n ?_)
                      refine aw_cond rfl (fun hc98 => ?_) (fun hc98 => ?_)
                      · refine aw_seq (aw_region ?_)
                        refine qq rfl rfl (qr_assign rfl) ?_
                        refine qq rfl rfl (qr_assign rfl) ?_
                        refine aops_nil (thn_n ?_)
                        refine aw_ret ?_
                        refine thn_r ?_
                        have hd : decSlow s = (65533, 1) := by
                          unfold decSlow
                          rw [if_neg (by omega)]
                          simp only [hx]
                          rw [if_neg (by decide), if_neg (show ¬ (s.size : Int) < (68 : Int) % 8 from of_decide_eq_false hc45), if_neg (show ¬ (bt s 1 < accLo ((68 : Int) / 16).toNat ∨ accHi ((68 : Int) / 16).toNat < bt s 1) from fun q => q.elim (of_decide_eq_false hg14_4) (of_decide_eq_false hc57)), if_neg (by decide), if_neg (show ¬ (bt s 2 < 128 ∨ 191 < bt s 2) from fun q => q.elim (of_decide_eq_false hg19_2) (of_decide_eq_false hc75)), if_neg (by decide), if_pos (show bt s 3 < 128 ∨ 191 < bt s 3 from by first | exact .inl (of_decide_eq_true hg24_2) | exact .inr (of_decide_eq_true hc98))]
                        exact retq (.cons _ _ _ _ (.tmp _ _ rfl) (.cons _ _ _ _ (.tmp _ _ rfl) .nil)) (.drop1 _ _ _) ⟨rfl, by rw [hd]; rfl⟩
                      · first | cases hc98 | exact absurd hc98 (by decide)
                    · refine qq rfl rfl (qr_move rfl) ?_
                      refine qq rfl rfl (qr_cmp rfl rfl rfl) ?_
                      first | refine qq rfl rfl (qr_pick_t rfl rfl) ?_ | refine qq rfl rfl (qr_pick_f rfl rfl) ?_ | refine qq rfl rfl (qr_pick_b rfl rfl rfl) ?_
                      refine aops_nil (thn_n ?_)
                      refine aw_cond rfl (fun hc98 => ?_) (fun hc98 => ?_)
                      · refine aw_seq (aw_region ?_)
                        refine qq rfl rfl (qr_assign rfl) ?_
                        refine qq rfl rfl (qr_assign rfl) ?_
                        refine aops_nil (thn_n ?_)
                        refine aw_ret ?_
                        refine thn_r ?_
                        have hd : decSlow s = (65533, 1) := by
                          unfold decSlow
                          rw [if_neg (by omega)]
                          simp only [hx]
                          rw [if_neg (by decide), if_neg (show ¬ (s.size : Int) < (68 : Int) % 8 from of_decide_eq_false hc45), if_neg (show ¬ (bt s 1 < accLo ((68 : Int) / 16).toNat ∨ accHi ((68 : Int) / 16).toNat < bt s 1) from fun q => q.elim (of_decide_eq_false hg14_4) (of_decide_eq_false hc57)), if_neg (by decide), if_neg (show ¬ (bt s 2 < 128 ∨ 191 < bt s 2) from fun q => q.elim (of_decide_eq_false hg19_2) (of_decide_eq_false hc75)), if_neg (by decide), if_pos (show bt s 3 < 128 ∨ 191 < bt s 3 from by first | exact .inl (of_decide_eq_true hg24_2) | exact .inr (of_decide_eq_true hc98))]
                        exact retq (.cons _ _ _ _ (.tmp _ _ rfl) (.cons _ _ _ _ (.tmp _ _ rfl) .nil)) (.drop1 _ _ _) ⟨rfl, by rw [hd]; rfl⟩
                      · refine aw_skip ?_
                        refine thn_n ?_
                        refine aw_seq (aw_region ?_)
                        refine qq rfl rfl (qr_move rfl) ?_
                        refine qq rfl rfl (qr_bits rfl rfl rfl) ?_
                        refine qq rfl rfl (qr_convert rfl rfl) ?_
                        refine qq rfl rfl (qr_shift rfl rfl rfl (by decide)) ?_
                        refine qq rfl rfl (qr_move rfl) ?_
                        refine qq rfl rfl (qr_bits rfl rfl rfl) ?_
                        refine qq rfl rfl (qr_convert rfl rfl) ?_
                        refine qq rfl rfl (qr_shift rfl rfl rfl (by decide)) ?_
                        refine qq rfl rfl (qr_bits rfl rfl rfl) ?_
                        refine qq rfl rfl (qr_move rfl) ?_
                        refine qq rfl rfl (qr_bits rfl rfl rfl) ?_
                        refine qq rfl rfl (qr_convert rfl rfl) ?_
                        refine qq rfl rfl (qr_shift rfl rfl rfl (by decide)) ?_
                        refine qq rfl rfl (qr_bits rfl rfl rfl) ?_
                        refine qq rfl rfl (qr_move rfl) ?_
                        refine qq rfl rfl (qr_bits rfl rfl rfl) ?_
                        refine qq rfl rfl (qr_convert rfl rfl) ?_
                        refine qq rfl rfl (qr_bits rfl rfl rfl) ?_
                        refine qq rfl rfl (qr_assign rfl) ?_
                        refine qq rfl rfl (qr_assign rfl) ?_
                        refine aops_nil (thn_n ?_)
                        refine aw_ret ?_
                        have hd : decSlow s = (bI .or .i32 (bI .or .i32 (bI .or .i32 (rbits (bt s 0) 7 18) (rbits (bt s 1) 63 12)) (rbits (bt s 2) 63 6)) (rbits (bt s 3) 63 0), 4) := by
                          unfold decSlow
                          rw [if_neg (by omega)]
                          simp only [hx]
                          rw [if_neg (by decide), if_neg (show ¬ (s.size : Int) < (68 : Int) % 8 from of_decide_eq_false hc45), if_neg (show ¬ (bt s 1 < accLo ((68 : Int) / 16).toNat ∨ accHi ((68 : Int) / 16).toNat < bt s 1) from fun q => q.elim (of_decide_eq_false hg14_4) (of_decide_eq_false hc57)), if_neg (by decide), if_neg (show ¬ (bt s 2 < 128 ∨ 191 < bt s 2) from fun q => q.elim (of_decide_eq_false hg19_2) (of_decide_eq_false hc75)), if_neg (by decide), if_neg (show ¬ (bt s 3 < 128 ∨ 191 < bt s 3) from fun q => q.elim (of_decide_eq_false hg24_2) (of_decide_eq_false hc98))]
                        exact retq (.cons _ _ _ _ (.tmp _ _ rfl) (.cons _ _ _ _ (.tmp _ _ rfl) .nil)) (.drop1 _ _ _) ⟨rfl, by rw [hd]; rfl⟩
theorem decodeSlow (s : ByteArray) : ACall Tryd.prog 88 [.v (.string s)] [.glob 1 129 firstC, .glob 2 133 acceptC] (fun r h' => h' = [.glob 1 129 firstC, .glob 2 133 acceptC] ∧ r = .tup [.v (.int .i32 (decSlow s).1), iv (decSlow s).2]) := by
  rcases firstV_cases (bt s 0).toNat with hx | hx | hx | hx | hx | hx | hx | hx | hx
  · exact decodeSlow240 s hx
  · exact decodeSlow241 s hx
  · exact decodeSlow2 s hx
  · exact decodeSlow19 s hx
  · exact decodeSlow3 s hx
  · exact decodeSlow35 s hx
  · exact decodeSlow52 s hx
  · exact decodeSlow4 s hx
  · exact decodeSlow68 s hx
theorem decodeRune (s : ByteArray) : ACall Tryd.prog 86 [.v (.string s)] [.glob 1 129 firstC, .glob 2 133 acceptC] (fun r h' => h' = [.glob 1 129 firstC, .glob 2 133 acceptC] ∧ r = .tup [.v (.int .i32 (decStr s).1), iv (decStr s).2]) := by
  refine acall_of_aw Tryd.func86 rfl rfl rfl ?_
  refine aw_seq (aw_region ?_)
  refine qq rfl rfl (qr_assign rfl) ?_
  refine qq rfl rfl (qr_assign rfl) ?_
  refine aops_nil (thn_n ?_)
  refine aw_seq ?_
  refine aw_seq (aw_region ?_)
  refine qq rfl rfl (qr_move rfl) ?_
  refine qq rfl rfl (qr_nestr rfl rfl) ?_
  refine qq rfl rfl (qr_move rfl) ?_
  refine asplit (fun hg1_2 => ?_) (fun hg1_2 => ?_)
  · refine qq rfl rfl (qr_move rfl) ?_
    have h1 : 0 < s.size := str_ne hg1_2
    refine qq rfl rfl (qr_index_bt 0 rfl rfl (by omega)) ?_
    refine qq rfl rfl (qr_cmp rfl rfl rfl) ?_
    first | refine qq rfl rfl (qr_pick_t rfl rfl) ?_ | refine qq rfl rfl (qr_pick_f rfl rfl) ?_ | refine qq rfl rfl (qr_pick_b rfl rfl rfl) ?_
    refine aops_nil (thn_n ?_)
    refine aw_cond rfl (fun hc10 => ?_) (fun hc10 => ?_)
    · refine aw_seq (aw_region ?_)
      refine qq rfl rfl (qr_move rfl) ?_
      refine qq rfl rfl (qr_index_bt 0 rfl rfl (by omega)) ?_
      refine qq rfl rfl (qr_convert rfl rfl) ?_
      refine qq rfl rfl (qr_assign rfl) ?_
      refine qq rfl rfl (qr_assign rfl) ?_
      refine aops_nil (thn_n ?_)
      refine aw_ret ?_
      refine thn_r ?_
      have hd : decStr s = (bt s 0, 1) := by
        unfold decStr
        exact if_pos ⟨str_ne hg1_2, of_decide_eq_true hc10⟩
      exact retq (.cons _ _ _ _ (.tmp _ _ rfl) (.cons _ _ _ _ (.tmp _ _ rfl) .nil)) (.refl _ _) ⟨rfl, by rw [hd]; exact congrArg (fun c => AV.tup [.v (.int .i32 c), iv 1]) (bt_wrap s 0)⟩
    · refine aw_region ?_
      refine qq rfl rfl (qr_move rfl) ?_
      refine qv rfl rfl (qv_call rfl rfl (FCall.of_fun (decodeSlow s))) ?_
      refine qq rfl rfl (qr_move rfl) ?_
      refine qq rfl rfl (qr_extract rfl rfl) ?_
      refine qq rfl rfl (qr_extract rfl rfl) ?_
      refine qq rfl rfl (qr_assign rfl) ?_
      refine qq rfl rfl (qr_assign rfl) ?_
      refine aops_nil (thn_n ?_)
      refine aw_ret ?_
      have hd : decStr s = decSlow s := by
        unfold decStr
        exact if_neg fun q => by first | exact str_eq hg1_2 q.1 | exact absurd q.2 (of_decide_eq_false hc10)
      exact retq (.cons _ _ _ _ (.tmp _ _ rfl) (.cons _ _ _ _ (.tmp _ _ rfl) .nil)) (.refl _ _) ⟨rfl, by rw [hd]; rfl⟩
  · refine qs rfl rfl ?_
    refine qs rfl rfl ?_
    refine qs rfl rfl ?_
    first | refine qq rfl rfl (qr_pick_t rfl rfl) ?_ | refine qq rfl rfl (qr_pick_f rfl rfl) ?_ | refine qq rfl rfl (qr_pick_b rfl rfl rfl) ?_
    refine aops_nil (thn_n ?_)
    refine aw_cond rfl (fun hc10 => ?_) (fun hc10 => ?_)
    · first | cases hc10 | exact absurd hc10 (by decide)
    · refine aw_region ?_
      refine qq rfl rfl (qr_move rfl) ?_
      refine qv rfl rfl (qv_call rfl rfl (FCall.of_fun (decodeSlow s))) ?_
      refine qq rfl rfl (qr_move rfl) ?_
      refine qq rfl rfl (qr_extract rfl rfl) ?_
      refine qq rfl rfl (qr_extract rfl rfl) ?_
      refine qq rfl rfl (qr_assign rfl) ?_
      refine qq rfl rfl (qr_assign rfl) ?_
      refine aops_nil (thn_n ?_)
      refine aw_ret ?_
      have hd : decStr s = decSlow s := by
        unfold decStr
        exact if_neg fun q => by first | exact str_eq hg1_2 q.1 | exact absurd q.2 (of_decide_eq_false hc10)
      exact retq (.cons _ _ _ _ (.tmp _ _ rfl) (.cons _ _ _ _ (.tmp _ _ rfl) .nil)) (.refl _ _) ⟨rfl, by rw [hd]; rfl⟩
end Go.Proofs
/- The walks of slices.Equal. Conditions: none. -/
set_option linter.unusedVariables false
set_option linter.unusedSimpArgs false
set_option maxRecDepth 10000
namespace Go.Proofs
open Go Go.Ab
open Go.H
theorem equalInt {f g : Bool} (l m : List Int) (hl : l.length ≤ 4611686018427387904) (hm : m.length ≤ 4611686018427387904) : ACall Tryd.prog 14 [.list f 1 (l.map intR), .list g 1 (m.map intR)] [] (fun r h' => h' = [] ∧ r = bv (eqF intEq l m)) := by
  refine acall_of_aw Tryd.func14 rfl rfl rfl ?_
  refine aw_seq (aw_region ?_)
  refine qq rfl rfl (qr_assign rfl) ?_
  refine aops_nil (thn_n ?_)
  refine aw_seq ?_
  refine aw_seq (aw_region ?_)
  refine qq rfl rfl (qr_move rfl) ?_
  refine qq rfl rfl (qr_len_list rfl) ?_
  refine qq rfl rfl (qr_move rfl) ?_
  refine qq rfl rfl (qr_len_list rfl) ?_
  refine qq rfl rfl (qr_cmp rfl rfl rfl) ?_
  refine aops_nil (thn_n ?_)
  refine aw_cond rfl (fun hc10 => ?_) (fun hc10 => ?_)
  · refine aw_seq (aw_region ?_)
    refine qq rfl rfl (qr_assign rfl) ?_
    refine aops_nil (thn_n ?_)
    refine aw_ret ?_
    refine thn_r ?_
    have hne : (l.length == m.length) = false := beq_eq_false_iff_ne.2 fun q => by simp [q] at hc10
    exact retq (.cons _ _ _ _ (.tmp _ _ rfl) .nil) (.refl _ _) ⟨rfl, by rw [eqF, hne, Bool.false_and]; rfl⟩
  · have hlm : l.length = m.length := by simp at hc10; omega
    refine aw_skip ?_
    refine thn_n ?_
    refine aw_seq ?_
    refine aw_seq (aw_region ?_)
    refine qq rfl rfl (qr_move rfl) ?_
    refine qq rfl rfl (qr_len_list rfl) ?_
    refine qq rfl rfl (qr_move rfl) ?_
    refine aops_nil (thn_n ?_)
    refine aw_block ?_
    refine aw_loop' (fun k : Nat => k ≤ l.length ∧ zall intEq l m = zall intEq (l.drop k) (m.drop k)) (fun k => ⟨[(13, iv k), (12, iv (l.map intR).length), (0, .list f 1 (l.map intR)), (1, .list g 1 (m.map intR))], [], []⟩) (fun k => l.length - k) 0 ⟨Nat.zero_le _, by simp⟩
      (ent_sub (.cons _ _ _ rfl (.cons _ _ _ rfl (.cons _ _ _ rfl (.cons _ _ _ rfl (.nil)))))) ?_
    rintro k ⟨hk, hz⟩
    refine aw_seq (aw_region ?_)
    refine qq rfl rfl (qr_cmp rfl rfl rfl) ?_
    refine aops_nil (thn_n ?_)
    refine aw_seq ?_
    refine aw_cond rfl (fun hc14 => ?_) (fun hc14 => ?_)
    · have hk2 : k < l.length := by simpa using hc14
      have hk3 : k < m.length := by omega
      have hrow1 : (l.map intR)[k]? = some (intR l[k]) := by simp [hk2]
      have hrow2 : (m.map intR)[k]? = some (intR m[k]) := by simp [hk3]
      have hd1 := List.drop_eq_getElem_cons hk2
      have hd2 := List.drop_eq_getElem_cons hk3
      refine aw_skip ?_
      refine thn_n ?_
      refine aw_seq ?_
      refine aw_block ?_
      refine aw_seq (aw_region ?_)
      refine qq rfl rfl (qr_move rfl) ?_
      refine qq rfl rfl (qr_assign rfl) ?_
      refine aops_nil (thn_n ?_)
      refine aw_seq ?_
      refine aw_draw 8 rfl ?_
      refine dq rfl rfl (qr_move rfl) ?_
      refine dq rfl rfl (qr_move rfl) ?_
      refine dq rfl rfl (qr_index_list rfl rfl (by assumption)) ?_
      first | refine dq rfl rfl (qr_load_one rfl rfl) ?_ | refine dq rfl rfl (qr_load_pp_one rfl rfl) ?_
      refine dq rfl rfl (qr_move rfl) ?_
      refine dq rfl rfl (qr_move rfl) ?_
      refine dq rfl rfl (qr_index_list rfl rfl (by assumption)) ?_
      first | refine dq rfl rfl (qr_load_one rfl rfl) ?_ | refine dq rfl rfl (qr_load_pp_one rfl rfl) ?_
      refine dnil ⟨rfl, ?_⟩
      refine dalloc_s rfl ?_
      refine dalloc_s rfl ?_
      refine dalloc_s rfl ?_
      refine dalloc_s rfl ?_
      refine dalloc_s rfl ?_
      refine dalloc_s rfl ?_
      refine dalloc_s rfl ?_
      refine dalloc_s rfl ?_
      refine dalloc_nil ?_
      refine qq rfl rfl (qr_cmp rfl rfl rfl) ?_
      refine aops_nil (thn_n ?_)
      refine aw_cond rfl (fun hc24 => ?_) (fun hc24 => ?_)
      · refine aw_seq (aw_region ?_)
        refine qq rfl rfl (qr_assign rfl) ?_
        refine aops_nil (thn_n ?_)
        refine aw_ret ?_
        refine inBlk_r ?_
        refine thn_r ?_
        refine thn_r ?_
        refine inBlk_r ?_
        refine thn_r ?_
        exact retq (.cons _ _ _ _ (.tmp _ _ rfl) .nil) (.refl _ _) ⟨rfl, by rw [eqF, hz, hd1, hd2, zall, show intEq l[k] m[k] = false from not_t hc24, Bool.false_and, Bool.and_false]; rfl⟩
      · refine aw_skip ?_
        refine inBlk_n ?_
        refine thn_n ?_
        refine aw_region ?_
        refine qq rfl rfl (qr_ari rfl rfl rfl (by omega)) ?_
        refine qq rfl rfl (qr_move rfl) ?_
        refine aops_nil (thn_n ?_)
        exact ⟨k + 1, ⟨by omega, by rw [hz, hd1, hd2, zall, show intEq l[k] m[k] = true from not_f hc24, Bool.true_and]⟩, (ent_sub (.cons _ _ _ rfl (.cons _ _ _ rfl (.cons _ _ _ rfl (.cons _ _ _ rfl (.nil)))))), by omega⟩
    · have hk3 : k = l.length := by
        have : l.length ≤ k := by simpa using hc14
        omega
      refine aw_exit ?_
      refine thn_e ?_
      refine thn_e ?_
      refine inBlk_hit ?_
      refine thn_n ?_
      refine aw_seq (aw_region ?_)
      refine qq rfl rfl (qr_assign rfl) ?_
      refine aops_nil (thn_n ?_)
      refine aw_ret ?_
      exact retq (.cons _ _ _ _ (.tmp _ _ rfl) .nil) (.refl _ _) ⟨rfl, by rw [eqF, hz, hk3, List.drop_length, zall_nil, hlm, beq_self_eq_true]; rfl⟩
theorem equalStr {f g : Bool} (l m : List ByteArray) (hl : l.length ≤ 4611686018427387904) (hm : m.length ≤ 4611686018427387904) : ACall Tryd.prog 23 [.list f 1 (l.map strR), .list g 1 (m.map strR)] [] (fun r h' => h' = [] ∧ r = bv (eqF strEq l m)) := by
  refine acall_of_aw Tryd.func23 rfl rfl rfl ?_
  refine aw_seq (aw_region ?_)
  refine qq rfl rfl (qr_assign rfl) ?_
  refine aops_nil (thn_n ?_)
  refine aw_seq ?_
  refine aw_seq (aw_region ?_)
  refine qq rfl rfl (qr_move rfl) ?_
  refine qq rfl rfl (qr_len_list rfl) ?_
  refine qq rfl rfl (qr_move rfl) ?_
  refine qq rfl rfl (qr_len_list rfl) ?_
  refine qq rfl rfl (qr_cmp rfl rfl rfl) ?_
  refine aops_nil (thn_n ?_)
  refine aw_cond rfl (fun hc10 => ?_) (fun hc10 => ?_)
  · refine aw_seq (aw_region ?_)
    refine qq rfl rfl (qr_assign rfl) ?_
    refine aops_nil (thn_n ?_)
    refine aw_ret ?_
    refine thn_r ?_
    have hne : (l.length == m.length) = false := beq_eq_false_iff_ne.2 fun q => by simp [q] at hc10
    exact retq (.cons _ _ _ _ (.tmp _ _ rfl) .nil) (.refl _ _) ⟨rfl, by rw [eqF, hne, Bool.false_and]; rfl⟩
  · have hlm : l.length = m.length := by simp at hc10; omega
    refine aw_skip ?_
    refine thn_n ?_
    refine aw_seq ?_
    refine aw_seq (aw_region ?_)
    refine qq rfl rfl (qr_move rfl) ?_
    refine qq rfl rfl (qr_len_list rfl) ?_
    refine qq rfl rfl (qr_move rfl) ?_
    refine aops_nil (thn_n ?_)
    refine aw_block ?_
    refine aw_loop' (fun k : Nat => k ≤ l.length ∧ zall strEq l m = zall strEq (l.drop k) (m.drop k)) (fun k => ⟨[(13, iv k), (12, iv (l.map strR).length), (0, .list f 1 (l.map strR)), (1, .list g 1 (m.map strR))], [], []⟩) (fun k => l.length - k) 0 ⟨Nat.zero_le _, by simp⟩
      (ent_sub (.cons _ _ _ rfl (.cons _ _ _ rfl (.cons _ _ _ rfl (.cons _ _ _ rfl (.nil)))))) ?_
    rintro k ⟨hk, hz⟩
    refine aw_seq (aw_region ?_)
    refine qq rfl rfl (qr_cmp rfl rfl rfl) ?_
    refine aops_nil (thn_n ?_)
    refine aw_seq ?_
    refine aw_cond rfl (fun hc14 => ?_) (fun hc14 => ?_)
    · have hk2 : k < l.length := by simpa using hc14
      have hk3 : k < m.length := by omega
      have hrow1 : (l.map strR)[k]? = some (strR l[k]) := by simp [hk2]
      have hrow2 : (m.map strR)[k]? = some (strR m[k]) := by simp [hk3]
      have hd1 := List.drop_eq_getElem_cons hk2
      have hd2 := List.drop_eq_getElem_cons hk3
      refine aw_skip ?_
      refine thn_n ?_
      refine aw_seq ?_
      refine aw_block ?_
      refine aw_seq (aw_region ?_)
      refine qq rfl rfl (qr_move rfl) ?_
      refine qq rfl rfl (qr_assign rfl) ?_
      refine aops_nil (thn_n ?_)
      refine aw_seq ?_
      refine aw_draw 8 rfl ?_
      refine dq rfl rfl (qr_move rfl) ?_
      refine dq rfl rfl (qr_move rfl) ?_
      refine dq rfl rfl (qr_index_list rfl rfl (by assumption)) ?_
      first | refine dq rfl rfl (qr_load_one rfl rfl) ?_ | refine dq rfl rfl (qr_load_pp_one rfl rfl) ?_
      refine dq rfl rfl (qr_move rfl) ?_
      refine dq rfl rfl (qr_move rfl) ?_
      refine dq rfl rfl (qr_index_list rfl rfl (by assumption)) ?_
      first | refine dq rfl rfl (qr_load_one rfl rfl) ?_ | refine dq rfl rfl (qr_load_pp_one rfl rfl) ?_
      refine dnil ⟨rfl, ?_⟩
      refine dalloc_s rfl ?_
      refine dalloc_s rfl ?_
      refine dalloc_s rfl ?_
      refine dalloc_s rfl ?_
      refine dalloc_s rfl ?_
      refine dalloc_s rfl ?_
      refine dalloc_s rfl ?_
      refine dalloc_s rfl ?_
      refine dalloc_nil ?_
      refine qq rfl rfl (qr_nestr rfl rfl) ?_
      refine aops_nil (thn_n ?_)
      refine aw_cond rfl (fun hc24 => ?_) (fun hc24 => ?_)
      · refine aw_seq (aw_region ?_)
        refine qq rfl rfl (qr_assign rfl) ?_
        refine aops_nil (thn_n ?_)
        refine aw_ret ?_
        refine inBlk_r ?_
        refine thn_r ?_
        refine thn_r ?_
        refine inBlk_r ?_
        refine thn_r ?_
        exact retq (.cons _ _ _ _ (.tmp _ _ rfl) .nil) (.refl _ _) ⟨rfl, by rw [eqF, hz, hd1, hd2, zall, show strEq l[k] m[k] = false from not_t hc24, Bool.false_and, Bool.and_false]; rfl⟩
      · refine aw_skip ?_
        refine inBlk_n ?_
        refine thn_n ?_
        refine aw_region ?_
        refine qq rfl rfl (qr_ari rfl rfl rfl (by omega)) ?_
        refine qq rfl rfl (qr_move rfl) ?_
        refine aops_nil (thn_n ?_)
        exact ⟨k + 1, ⟨by omega, by rw [hz, hd1, hd2, zall, show strEq l[k] m[k] = true from not_f hc24, Bool.true_and]⟩, (ent_sub (.cons _ _ _ rfl (.cons _ _ _ rfl (.cons _ _ _ rfl (.cons _ _ _ rfl (.nil)))))), by omega⟩
    · have hk3 : k = l.length := by
        have : l.length ≤ k := by simpa using hc14
        omega
      refine aw_exit ?_
      refine thn_e ?_
      refine thn_e ?_
      refine inBlk_hit ?_
      refine thn_n ?_
      refine aw_seq (aw_region ?_)
      refine qq rfl rfl (qr_assign rfl) ?_
      refine aops_nil (thn_n ?_)
      refine aw_ret ?_
      exact retq (.cons _ _ _ _ (.tmp _ _ rfl) .nil) (.refl _ _) ⟨rfl, by rw [eqF, hz, hk3, List.drop_length, zall_nil, hlm, beq_self_eq_true]; rfl⟩
theorem equalSeen {f g : Bool} (l m : List Seen) (hl : l.length ≤ 4611686018427387904) (hm : m.length ≤ 4611686018427387904) : ACall Tryd.prog 30 [.list f 3 (l.map seenR), .list g 3 (m.map seenR)] [] (fun r h' => h' = [] ∧ r = bv (eqF seenEq l m)) := by
  refine acall_of_aw Tryd.func30 rfl rfl rfl ?_
  refine aw_seq (aw_region ?_)
  refine qq rfl rfl (qr_assign rfl) ?_
  refine aops_nil (thn_n ?_)
  refine aw_seq ?_
  refine aw_seq (aw_region ?_)
  refine qq rfl rfl (qr_move rfl) ?_
  refine qq rfl rfl (qr_len_list rfl) ?_
  refine qq rfl rfl (qr_move rfl) ?_
  refine qq rfl rfl (qr_len_list rfl) ?_
  refine qq rfl rfl (qr_cmp rfl rfl rfl) ?_
  refine aops_nil (thn_n ?_)
  refine aw_cond rfl (fun hc10 => ?_) (fun hc10 => ?_)
  · refine aw_seq (aw_region ?_)
    refine qq rfl rfl (qr_assign rfl) ?_
    refine aops_nil (thn_n ?_)
    refine aw_ret ?_
    refine thn_r ?_
    have hne : (l.length == m.length) = false := beq_eq_false_iff_ne.2 fun q => by simp [q] at hc10
    exact retq (.cons _ _ _ _ (.tmp _ _ rfl) .nil) (.refl _ _) ⟨rfl, by rw [eqF, hne, Bool.false_and]; rfl⟩
  · have hlm : l.length = m.length := by simp at hc10; omega
    refine aw_skip ?_
    refine thn_n ?_
    refine aw_seq ?_
    refine aw_seq (aw_region ?_)
    refine qq rfl rfl (qr_move rfl) ?_
    refine qq rfl rfl (qr_len_list rfl) ?_
    refine qq rfl rfl (qr_move rfl) ?_
    refine aops_nil (thn_n ?_)
    refine aw_block ?_
    refine aw_loop' (fun k : Nat => k ≤ l.length ∧ zall seenEq l m = zall seenEq (l.drop k) (m.drop k)) (fun k => ⟨[(13, iv k), (12, iv (l.map seenR).length), (0, .list f 3 (l.map seenR)), (1, .list g 3 (m.map seenR))], [], []⟩) (fun k => l.length - k) 0 ⟨Nat.zero_le _, by simp⟩
      (ent_sub (.cons _ _ _ rfl (.cons _ _ _ rfl (.cons _ _ _ rfl (.cons _ _ _ rfl (.nil)))))) ?_
    rintro k ⟨hk, hz⟩
    refine aw_seq (aw_region ?_)
    refine qq rfl rfl (qr_cmp rfl rfl rfl) ?_
    refine aops_nil (thn_n ?_)
    refine aw_seq ?_
    refine aw_cond rfl (fun hc14 => ?_) (fun hc14 => ?_)
    · have hk2 : k < l.length := by simpa using hc14
      have hk3 : k < m.length := by omega
      have hrow1 : (l.map seenR)[k]? = some (seenR l[k]) := by simp [hk2]
      have hrow2 : (m.map seenR)[k]? = some (seenR m[k]) := by simp [hk3]
      have hd1 := List.drop_eq_getElem_cons hk2
      have hd2 := List.drop_eq_getElem_cons hk3
      refine aw_skip ?_
      refine thn_n ?_
      refine aw_seq ?_
      refine aw_block ?_
      refine aw_seq (aw_region ?_)
      refine qq rfl rfl (qr_move rfl) ?_
      refine qq rfl rfl (qr_assign rfl) ?_
      refine aops_nil (thn_n ?_)
      refine aw_seq ?_
      refine aw_draw 8 rfl ?_
      refine dq rfl rfl (qr_move rfl) ?_
      refine dq rfl rfl (qr_move rfl) ?_
      refine dq rfl rfl (qr_index_list rfl rfl (by assumption)) ?_
      first | refine dq rfl rfl (qr_load_all rfl rfl) ?_ | refine dq rfl rfl (qr_load_pp_all rfl rfl) ?_ | refine dq rfl rfl (qr_load_agg rfl (Nat.le_of_ble_eq_true rfl)) ?_ | refine dq rfl rfl (qr_load_pp_agg rfl (Nat.le_of_ble_eq_true rfl)) ?_
      refine dq rfl rfl (qr_move rfl) ?_
      refine dq rfl rfl (qr_move rfl) ?_
      refine dq rfl rfl (qr_index_list rfl rfl (by assumption)) ?_
      first | refine dq rfl rfl (qr_load_all rfl rfl) ?_ | refine dq rfl rfl (qr_load_pp_all rfl rfl) ?_ | refine dq rfl rfl (qr_load_agg rfl (Nat.le_of_ble_eq_true rfl)) ?_ | refine dq rfl rfl (qr_load_pp_agg rfl (Nat.le_of_ble_eq_true rfl)) ?_
      refine dnil ⟨rfl, ?_⟩
      refine dalloc_s rfl ?_
      refine dalloc_s rfl ?_
      refine dalloc_s rfl ?_
      refine dalloc_s rfl ?_
      refine dalloc_s rfl ?_
      refine dalloc_s rfl ?_
      refine dalloc_s rfl ?_
      refine dalloc_s rfl ?_
      refine dalloc_nil ?_
      refine qq rfl rfl (qr_neagg rfl rfl rfl rfl) ?_
      refine aops_nil (thn_n ?_)
      refine aw_cond rfl (fun hc24 => ?_) (fun hc24 => ?_)
      · refine aw_seq (aw_region ?_)
        refine qq rfl rfl (qr_assign rfl) ?_
        refine aops_nil (thn_n ?_)
        refine aw_ret ?_
        refine inBlk_r ?_
        refine thn_r ?_
        refine thn_r ?_
        refine inBlk_r ?_
        refine thn_r ?_
        exact retq (.cons _ _ _ _ (.tmp _ _ rfl) .nil) (.refl _ _) ⟨rfl, by rw [eqF, hz, hd1, hd2, zall, show seenEq l[k] m[k] = false from not_t hc24, Bool.false_and, Bool.and_false]; rfl⟩
      · refine aw_skip ?_
        refine inBlk_n ?_
        refine thn_n ?_
        refine aw_region ?_
        refine qq rfl rfl (qr_ari rfl rfl rfl (by omega)) ?_
        refine qq rfl rfl (qr_move rfl) ?_
        refine aops_nil (thn_n ?_)
        exact ⟨k + 1, ⟨by omega, by rw [hz, hd1, hd2, zall, show seenEq l[k] m[k] = true from not_f hc24, Bool.true_and]⟩, (ent_sub (.cons _ _ _ rfl (.cons _ _ _ rfl (.cons _ _ _ rfl (.cons _ _ _ rfl (.nil)))))), by omega⟩
    · have hk3 : k = l.length := by
        have : l.length ≤ k := by simpa using hc14
        omega
      refine aw_exit ?_
      refine thn_e ?_
      refine thn_e ?_
      refine inBlk_hit ?_
      refine thn_n ?_
      refine aw_seq (aw_region ?_)
      refine qq rfl rfl (qr_assign rfl) ?_
      refine aops_nil (thn_n ?_)
      refine aw_ret ?_
      exact retq (.cons _ _ _ _ (.tmp _ _ rfl) .nil) (.refl _ _) ⟨rfl, by rw [eqF, hz, hk3, List.drop_length, zall_nil, hlm, beq_self_eq_true]; rfl⟩
theorem equalWan {f g : Bool} (l m : List Wan) (hl : l.length ≤ 4611686018427387904) (hm : m.length ≤ 4611686018427387904) : ACall Tryd.prog 28 [.list f 2 (l.map wanR), .list g 2 (m.map wanR)] [] (fun r h' => h' = [] ∧ r = bv (eqF wanEq l m)) := by
  refine acall_of_aw Tryd.func28 rfl rfl rfl ?_
  refine aw_seq (aw_region ?_)
  refine qq rfl rfl (qr_assign rfl) ?_
  refine aops_nil (thn_n ?_)
  refine aw_seq ?_
  refine aw_seq (aw_region ?_)
  refine qq rfl rfl (qr_move rfl) ?_
  refine qq rfl rfl (qr_len_list rfl) ?_
  refine qq rfl rfl (qr_move rfl) ?_
  refine qq rfl rfl (qr_len_list rfl) ?_
  refine qq rfl rfl (qr_cmp rfl rfl rfl) ?_
  refine aops_nil (thn_n ?_)
  refine aw_cond rfl (fun hc10 => ?_) (fun hc10 => ?_)
  · refine aw_seq (aw_region ?_)
    refine qq rfl rfl (qr_assign rfl) ?_
    refine aops_nil (thn_n ?_)
    refine aw_ret ?_
    refine thn_r ?_
    have hne : (l.length == m.length) = false := beq_eq_false_iff_ne.2 fun q => by simp [q] at hc10
    exact retq (.cons _ _ _ _ (.tmp _ _ rfl) .nil) (.refl _ _) ⟨rfl, by rw [eqF, hne, Bool.false_and]; rfl⟩
  · have hlm : l.length = m.length := by simp at hc10; omega
    refine aw_skip ?_
    refine thn_n ?_
    refine aw_seq ?_
    refine aw_seq (aw_region ?_)
    refine qq rfl rfl (qr_move rfl) ?_
    refine qq rfl rfl (qr_len_list rfl) ?_
    refine qq rfl rfl (qr_move rfl) ?_
    refine aops_nil (thn_n ?_)
    refine aw_block ?_
    refine aw_loop' (fun k : Nat => k ≤ l.length ∧ zall wanEq l m = zall wanEq (l.drop k) (m.drop k)) (fun k => ⟨[(13, iv k), (12, iv (l.map wanR).length), (0, .list f 2 (l.map wanR)), (1, .list g 2 (m.map wanR))], [], []⟩) (fun k => l.length - k) 0 ⟨Nat.zero_le _, by simp⟩
      (ent_sub (.cons _ _ _ rfl (.cons _ _ _ rfl (.cons _ _ _ rfl (.cons _ _ _ rfl (.nil)))))) ?_
    rintro k ⟨hk, hz⟩
    refine aw_seq (aw_region ?_)
    refine qq rfl rfl (qr_cmp rfl rfl rfl) ?_
    refine aops_nil (thn_n ?_)
    refine aw_seq ?_
    refine aw_cond rfl (fun hc14 => ?_) (fun hc14 => ?_)
    · have hk2 : k < l.length := by simpa using hc14
      have hk3 : k < m.length := by omega
      have hrow1 : (l.map wanR)[k]? = some (wanR l[k]) := by simp [hk2]
      have hrow2 : (m.map wanR)[k]? = some (wanR m[k]) := by simp [hk3]
      have hd1 := List.drop_eq_getElem_cons hk2
      have hd2 := List.drop_eq_getElem_cons hk3
      refine aw_skip ?_
      refine thn_n ?_
      refine aw_seq ?_
      refine aw_block ?_
      refine aw_seq (aw_region ?_)
      refine qq rfl rfl (qr_move rfl) ?_
      refine qq rfl rfl (qr_assign rfl) ?_
      refine aops_nil (thn_n ?_)
      refine aw_seq ?_
      refine aw_draw 8 rfl ?_
      refine dq rfl rfl (qr_move rfl) ?_
      refine dq rfl rfl (qr_move rfl) ?_
      refine dq rfl rfl (qr_index_list rfl rfl (by assumption)) ?_
      first | refine dq rfl rfl (qr_load_all rfl rfl) ?_ | refine dq rfl rfl (qr_load_pp_all rfl rfl) ?_ | refine dq rfl rfl (qr_load_agg rfl (Nat.le_of_ble_eq_true rfl)) ?_ | refine dq rfl rfl (qr_load_pp_agg rfl (Nat.le_of_ble_eq_true rfl)) ?_
      refine dq rfl rfl (qr_move rfl) ?_
      refine dq rfl rfl (qr_move rfl) ?_
      refine dq rfl rfl (qr_index_list rfl rfl (by assumption)) ?_
      first | refine dq rfl rfl (qr_load_all rfl rfl) ?_ | refine dq rfl rfl (qr_load_pp_all rfl rfl) ?_ | refine dq rfl rfl (qr_load_agg rfl (Nat.le_of_ble_eq_true rfl)) ?_ | refine dq rfl rfl (qr_load_pp_agg rfl (Nat.le_of_ble_eq_true rfl)) ?_
      refine dnil ⟨rfl, ?_⟩
      refine dalloc_s rfl ?_
      refine dalloc_s rfl ?_
      refine dalloc_s rfl ?_
      refine dalloc_s rfl ?_
      refine dalloc_s rfl ?_
      refine dalloc_s rfl ?_
      refine dalloc_s rfl ?_
      refine dalloc_s rfl ?_
      refine dalloc_nil ?_
      refine qq rfl rfl (qr_neagg rfl rfl rfl rfl) ?_
      refine aops_nil (thn_n ?_)
      refine aw_cond rfl (fun hc24 => ?_) (fun hc24 => ?_)
      · refine aw_seq (aw_region ?_)
        refine qq rfl rfl (qr_assign rfl) ?_
        refine aops_nil (thn_n ?_)
        refine aw_ret ?_
        refine inBlk_r ?_
        refine thn_r ?_
        refine thn_r ?_
        refine inBlk_r ?_
        refine thn_r ?_
        exact retq (.cons _ _ _ _ (.tmp _ _ rfl) .nil) (.refl _ _) ⟨rfl, by rw [eqF, hz, hd1, hd2, zall, show wanEq l[k] m[k] = false from not_t hc24, Bool.false_and, Bool.and_false]; rfl⟩
      · refine aw_skip ?_
        refine inBlk_n ?_
        refine thn_n ?_
        refine aw_region ?_
        refine qq rfl rfl (qr_ari rfl rfl rfl (by omega)) ?_
        refine qq rfl rfl (qr_move rfl) ?_
        refine aops_nil (thn_n ?_)
        exact ⟨k + 1, ⟨by omega, by rw [hz, hd1, hd2, zall, show wanEq l[k] m[k] = true from not_f hc24, Bool.true_and]⟩, (ent_sub (.cons _ _ _ rfl (.cons _ _ _ rfl (.cons _ _ _ rfl (.cons _ _ _ rfl (.nil)))))), by omega⟩
    · have hk3 : k = l.length := by
        have : l.length ≤ k := by simpa using hc14
        omega
      refine aw_exit ?_
      refine thn_e ?_
      refine thn_e ?_
      refine inBlk_hit ?_
      refine thn_n ?_
      refine aw_seq (aw_region ?_)
      refine qq rfl rfl (qr_assign rfl) ?_
      refine aops_nil (thn_n ?_)
      refine aw_ret ?_
      exact retq (.cons _ _ _ _ (.tmp _ _ rfl) .nil) (.refl _ _) ⟨rfl, by rw [eqF, hz, hk3, List.drop_length, zall_nil, hlm, beq_self_eq_true]; rfl⟩
end Go.Proofs
