/- The walks of small functions. Conditions: none. -/
import Derived.Test.YtcickpoefijkmaaDoorAnewF
set_option linter.unusedVariables false
set_option linter.unusedSimpArgs false
set_option maxRecDepth 10000
namespace Go.Proofs
open Go Go.Ab
open Go.H
theorem levelCheck (l : Int) : ACall Tryd.prog 60 [iv l] [] (fun r h' => h' = [] ∧ r = iv (levB l)) := by
  refine acall_of_aw Tryd.func60 rfl rfl rfl ?_
  refine aw_seq (aw_region ?_)
  refine qq rfl rfl (qr_assign rfl) ?_
  refine aops_nil (thn_n ?_)
  refine aw_seq ?_
  refine aw_seq (aw_region ?_)
  refine qq rfl rfl (qr_move rfl) ?_
  refine qq rfl rfl (qr_cmp rfl rfl rfl) ?_
  refine qq rfl rfl (qr_move rfl) ?_
  refine asplit (fun hg1_2 => ?_) (fun hg1_2 => ?_)
  · refine qs rfl rfl ?_
    refine qs rfl rfl ?_
    first | refine qq rfl rfl (qr_pick_t rfl rfl) ?_ | refine qq rfl rfl (qr_pick_f rfl rfl) ?_ | refine qq rfl rfl (qr_pick_b rfl rfl rfl) ?_
    refine aops_nil (thn_n ?_)
    refine aw_cond rfl (fun hc8 => ?_) (fun hc8 => ?_)
    · refine aw_seq (aw_region ?_)
      refine qq rfl rfl (qr_assign rfl) ?_
      refine aops_nil (thn_n ?_)
      refine aw_ret ?_
      refine thn_r ?_
      exact retq (.cons _ _ _ _ (.tmp _ _ rfl) .nil) (.refl _ _) ⟨rfl, congrArg iv (by simp_all [levB])⟩
    · cases hc8
  · refine qq rfl rfl (qr_move rfl) ?_
    refine qq rfl rfl (qr_cmp rfl rfl rfl) ?_
    first | refine qq rfl rfl (qr_pick_t rfl rfl) ?_ | refine qq rfl rfl (qr_pick_f rfl rfl) ?_ | refine qq rfl rfl (qr_pick_b rfl rfl rfl) ?_
    refine aops_nil (thn_n ?_)
    refine aw_cond rfl (fun hc8 => ?_) (fun hc8 => ?_)
    · refine aw_seq (aw_region ?_)
      refine qq rfl rfl (qr_assign rfl) ?_
      refine aops_nil (thn_n ?_)
      refine aw_ret ?_
      refine thn_r ?_
      exact retq (.cons _ _ _ _ (.tmp _ _ rfl) .nil) (.refl _ _) ⟨rfl, congrArg iv (by simp_all [levB])⟩
    · refine aw_skip ?_
      refine thn_n ?_
      refine aw_seq (aw_region ?_)
      refine qq rfl rfl (qr_assign rfl) ?_
      refine aops_nil (thn_n ?_)
      refine aw_ret ?_
      exact retq (.cons _ _ _ _ (.tmp _ _ rfl) .nil) (.refl _ _) ⟨rfl, congrArg iv (by simp_all [levB])⟩
theorem lexNumber (c : Int) : ACall Tryd.prog 52 [.v (.int .i32 c)] [] (fun r h' => h' = [] ∧ r = bv (numB c)) := by
  refine acall_of_aw Tryd.func52 rfl rfl rfl ?_
  refine aw_seq (aw_region ?_)
  refine qq rfl rfl (qr_assign rfl) ?_
  refine aops_nil (thn_n ?_)
  refine aw_seq (aw_region ?_)
  refine qq rfl rfl (qr_move rfl) ?_
  refine qq rfl rfl (qr_cmp rfl rfl rfl) ?_
  refine qq rfl rfl (qr_move rfl) ?_
  refine asplit (fun hg1_2 => ?_) (fun hg1_2 => ?_)
  · refine qq rfl rfl (qr_move rfl) ?_
    refine qq rfl rfl (qr_cmp rfl rfl rfl) ?_
    first | refine qq rfl rfl (qr_pick_t rfl rfl) ?_ | refine qq rfl rfl (qr_pick_f rfl rfl) ?_ | refine qq rfl rfl (qr_pick_b rfl rfl rfl) ?_
    refine qq rfl rfl (qr_assign rfl) ?_
    refine aops_nil (thn_n ?_)
    refine aw_ret ?_
    exact retq (.cons _ _ _ _ (.tmp _ _ rfl) .nil) (.refl _ _) ⟨rfl, congrArg bv (by first | (simp only [numB, *, Bool.true_and, Bool.false_and, Bool.and_false, Bool.and_true, Bool.true_or, Bool.or_false, Bool.false_or, Bool.or_true, if_true, if_false, Bool.false_eq_true, Bool.not_true, Bool.not_false]; done) | (simp_all [numB]; done) | (simp_all [numB] <;> omega))⟩
  · refine qs rfl rfl ?_
    refine qs rfl rfl ?_
    first | refine qq rfl rfl (qr_pick_t rfl rfl) ?_ | refine qq rfl rfl (qr_pick_f rfl rfl) ?_ | refine qq rfl rfl (qr_pick_b rfl rfl rfl) ?_
    refine qq rfl rfl (qr_assign rfl) ?_
    refine aops_nil (thn_n ?_)
    refine aw_ret ?_
    exact retq (.cons _ _ _ _ (.tmp _ _ rfl) .nil) (.refl _ _) ⟨rfl, congrArg bv (by first | (simp only [numB, *, Bool.true_and, Bool.false_and, Bool.and_false, Bool.and_true, Bool.true_or, Bool.or_false, Bool.false_or, Bool.or_true, if_true, if_false, Bool.false_eq_true, Bool.not_true, Bool.not_false]; done) | (simp_all [numB]; done) | (simp_all [numB] <;> omega))⟩
theorem lexLetter (c : Int) : ACall Tryd.prog 76 [.v (.int .i32 c)] [] (fun r h' => h' = [] ∧ r = bv (letB c)) := by
  refine acall_of_aw Tryd.func76 rfl rfl rfl ?_
  refine aw_seq (aw_region ?_)
  refine qq rfl rfl (qr_assign rfl) ?_
  refine aops_nil (thn_n ?_)
  refine aw_seq (aw_region ?_)
  refine qq rfl rfl (qr_move rfl) ?_
  refine qq rfl rfl (qr_cmp rfl rfl rfl) ?_
  refine qq rfl rfl (qr_move rfl) ?_
  refine asplit (fun hg1_2 => ?_) (fun hg1_2 => ?_)
  · refine qs rfl rfl ?_
    refine qs rfl rfl ?_
    refine qs rfl rfl ?_
    first
      | refine qs rfl rfl ?_
      | (refine qq rfl rfl (qr_move rfl) ?_)
    first
      | refine qs rfl rfl ?_
      | (refine qq rfl rfl (qr_cmp rfl rfl rfl) ?_)
    refine qs rfl rfl ?_
    first | refine qq rfl rfl (qr_pick_t rfl rfl) ?_ | refine qq rfl rfl (qr_pick_f rfl rfl) ?_ | refine qq rfl rfl (qr_pick_b rfl rfl rfl) ?_
    refine qq rfl rfl (qr_move rfl) ?_
    refine qs rfl rfl ?_
    refine qs rfl rfl ?_
    refine qs rfl rfl ?_
    first
      | refine qs rfl rfl ?_
      | (refine qq rfl rfl (qr_move rfl) ?_)
    first
      | refine qs rfl rfl ?_
      | (refine qq rfl rfl (qr_cmp rfl rfl rfl) ?_)
    refine qs rfl rfl ?_
    first | refine qq rfl rfl (qr_pick_t rfl rfl) ?_ | refine qq rfl rfl (qr_pick_f rfl rfl) ?_ | refine qq rfl rfl (qr_pick_b rfl rfl rfl) ?_
    refine qq rfl rfl (qr_move rfl) ?_
    refine qs rfl rfl ?_
    refine qs rfl rfl ?_
    first | refine qq rfl rfl (qr_pick_t rfl rfl) ?_ | refine qq rfl rfl (qr_pick_f rfl rfl) ?_ | refine qq rfl rfl (qr_pick_b rfl rfl rfl) ?_
    refine qq rfl rfl (qr_assign rfl) ?_
    refine aops_nil (thn_n ?_)
    refine aw_ret ?_
    exact retq (.cons _ _ _ _ (.tmp _ _ rfl) .nil) (.refl _ _) ⟨rfl, congrArg bv (by first | (simp only [letB, *, Bool.true_and, Bool.false_and, Bool.and_false, Bool.and_true, Bool.true_or, Bool.or_false, Bool.false_or, Bool.or_true, if_true, if_false, Bool.false_eq_true, Bool.not_true, Bool.not_false]; done) | (simp_all [letB]; done) | (simp_all [letB] <;> omega))⟩
  · refine qq rfl rfl (qr_move rfl) ?_
    refine qq rfl rfl (qr_cmp rfl rfl rfl) ?_
    refine qq rfl rfl (qr_move rfl) ?_
    refine asplit (fun hg1_5 => ?_) (fun hg1_5 => ?_)
    · refine qq rfl rfl (qr_move rfl) ?_
      refine qq rfl rfl (qr_cmp rfl rfl rfl) ?_
      first | refine qq rfl rfl (qr_pick_t rfl rfl) ?_ | refine qq rfl rfl (qr_pick_f rfl rfl) ?_ | refine qq rfl rfl (qr_pick_b rfl rfl rfl) ?_
      first | refine qq rfl rfl (qr_pick_t rfl rfl) ?_ | refine qq rfl rfl (qr_pick_f rfl rfl) ?_ | refine qq rfl rfl (qr_pick_b rfl rfl rfl) ?_
      refine qq rfl rfl (qr_move rfl) ?_
      refine asplit (fun hg1_10 => ?_) (fun hg1_10 => ?_)
      · refine qs rfl rfl ?_
        refine qs rfl rfl ?_
        refine qs rfl rfl ?_
        first
          | refine qs rfl rfl ?_
          | (refine qq rfl rfl (qr_move rfl) ?_)
        first
          | refine qs rfl rfl ?_
          | (refine qq rfl rfl (qr_cmp rfl rfl rfl) ?_)
        refine qs rfl rfl ?_
        first | refine qq rfl rfl (qr_pick_t rfl rfl) ?_ | refine qq rfl rfl (qr_pick_f rfl rfl) ?_ | refine qq rfl rfl (qr_pick_b rfl rfl rfl) ?_
        refine qq rfl rfl (qr_move rfl) ?_
        refine qs rfl rfl ?_
        refine qs rfl rfl ?_
        first | refine qq rfl rfl (qr_pick_t rfl rfl) ?_ | refine qq rfl rfl (qr_pick_f rfl rfl) ?_ | refine qq rfl rfl (qr_pick_b rfl rfl rfl) ?_
        refine qq rfl rfl (qr_assign rfl) ?_
        refine aops_nil (thn_n ?_)
        refine aw_ret ?_
        exact retq (.cons _ _ _ _ (.tmp _ _ rfl) .nil) (.refl _ _) ⟨rfl, congrArg bv (by first | (simp only [letB, *, Bool.true_and, Bool.false_and, Bool.and_false, Bool.and_true, Bool.true_or, Bool.or_false, Bool.false_or, Bool.or_true, if_true, if_false, Bool.false_eq_true, Bool.not_true, Bool.not_false]; done) | (simp_all [letB]; done) | (simp_all [letB] <;> omega))⟩
      · refine qq rfl rfl (qr_move rfl) ?_
        refine qq rfl rfl (qr_cmp rfl rfl rfl) ?_
        refine qq rfl rfl (qr_move rfl) ?_
        refine asplit (fun hg1_13 => ?_) (fun hg1_13 => ?_)
        · refine qq rfl rfl (qr_move rfl) ?_
          refine qq rfl rfl (qr_cmp rfl rfl rfl) ?_
          first | refine qq rfl rfl (qr_pick_t rfl rfl) ?_ | refine qq rfl rfl (qr_pick_f rfl rfl) ?_ | refine qq rfl rfl (qr_pick_b rfl rfl rfl) ?_
          first | refine qq rfl rfl (qr_pick_t rfl rfl) ?_ | refine qq rfl rfl (qr_pick_f rfl rfl) ?_ | refine qq rfl rfl (qr_pick_b rfl rfl rfl) ?_
          refine qq rfl rfl (qr_move rfl) ?_
          refine asplit (fun hg1_18 => ?_) (fun hg1_18 => ?_)
          · refine qs rfl rfl ?_
            refine qs rfl rfl ?_
            first | refine qq rfl rfl (qr_pick_t rfl rfl) ?_ | refine qq rfl rfl (qr_pick_f rfl rfl) ?_ | refine qq rfl rfl (qr_pick_b rfl rfl rfl) ?_
            refine qq rfl rfl (qr_assign rfl) ?_
            refine aops_nil (thn_n ?_)
            refine aw_ret ?_
            exact retq (.cons _ _ _ _ (.tmp _ _ rfl) .nil) (.refl _ _) ⟨rfl, congrArg bv (by first | (simp only [letB, *, Bool.true_and, Bool.false_and, Bool.and_false, Bool.and_true, Bool.true_or, Bool.or_false, Bool.false_or, Bool.or_true, if_true, if_false, Bool.false_eq_true, Bool.not_true, Bool.not_false]; done) | (simp_all [letB]; done) | (simp_all [letB] <;> omega))⟩
          · refine qq rfl rfl (qr_move rfl) ?_
            refine qq rfl rfl (qr_cmp rfl rfl rfl) ?_
            first | refine qq rfl rfl (qr_pick_t rfl rfl) ?_ | refine qq rfl rfl (qr_pick_f rfl rfl) ?_ | refine qq rfl rfl (qr_pick_b rfl rfl rfl) ?_
            refine qq rfl rfl (qr_assign rfl) ?_
            refine aops_nil (thn_n ?_)
            refine aw_ret ?_
            exact retq (.cons _ _ _ _ (.tmp _ _ rfl) .nil) (.refl _ _) ⟨rfl, congrArg bv (by first | (simp only [letB, *, Bool.true_and, Bool.false_and, Bool.and_false, Bool.and_true, Bool.true_or, Bool.or_false, Bool.false_or, Bool.or_true, if_true, if_false, Bool.false_eq_true, Bool.not_true, Bool.not_false]; done) | (simp_all [letB]; done) | (simp_all [letB] <;> omega))⟩
        · refine qs rfl rfl ?_
          refine qs rfl rfl ?_
          first | refine qq rfl rfl (qr_pick_t rfl rfl) ?_ | refine qq rfl rfl (qr_pick_f rfl rfl) ?_ | refine qq rfl rfl (qr_pick_b rfl rfl rfl) ?_
          first | refine qq rfl rfl (qr_pick_t rfl rfl) ?_ | refine qq rfl rfl (qr_pick_f rfl rfl) ?_ | refine qq rfl rfl (qr_pick_b rfl rfl rfl) ?_
          refine qq rfl rfl (qr_move rfl) ?_
          refine qq rfl rfl (qr_move rfl) ?_
          refine qq rfl rfl (qr_cmp rfl rfl rfl) ?_
          first | refine qq rfl rfl (qr_pick_t rfl rfl) ?_ | refine qq rfl rfl (qr_pick_f rfl rfl) ?_ | refine qq rfl rfl (qr_pick_b rfl rfl rfl) ?_
          refine qq rfl rfl (qr_assign rfl) ?_
          refine aops_nil (thn_n ?_)
          refine aw_ret ?_
          exact retq (.cons _ _ _ _ (.tmp _ _ rfl) .nil) (.refl _ _) ⟨rfl, congrArg bv (by first | (simp only [letB, *, Bool.true_and, Bool.false_and, Bool.and_false, Bool.and_true, Bool.true_or, Bool.or_false, Bool.false_or, Bool.or_true, if_true, if_false, Bool.false_eq_true, Bool.not_true, Bool.not_false]; done) | (simp_all [letB]; done) | (simp_all [letB] <;> omega))⟩
    · refine qs rfl rfl ?_
      refine qs rfl rfl ?_
      first | refine qq rfl rfl (qr_pick_t rfl rfl) ?_ | refine qq rfl rfl (qr_pick_f rfl rfl) ?_ | refine qq rfl rfl (qr_pick_b rfl rfl rfl) ?_
      first | refine qq rfl rfl (qr_pick_t rfl rfl) ?_ | refine qq rfl rfl (qr_pick_f rfl rfl) ?_ | refine qq rfl rfl (qr_pick_b rfl rfl rfl) ?_
      refine qq rfl rfl (qr_move rfl) ?_
      refine qq rfl rfl (qr_move rfl) ?_
      refine qq rfl rfl (qr_cmp rfl rfl rfl) ?_
      refine qq rfl rfl (qr_move rfl) ?_
      refine asplit (fun hg1_13 => ?_) (fun hg1_13 => ?_)
      · refine qq rfl rfl (qr_move rfl) ?_
        refine qq rfl rfl (qr_cmp rfl rfl rfl) ?_
        first | refine qq rfl rfl (qr_pick_t rfl rfl) ?_ | refine qq rfl rfl (qr_pick_f rfl rfl) ?_ | refine qq rfl rfl (qr_pick_b rfl rfl rfl) ?_
        first | refine qq rfl rfl (qr_pick_t rfl rfl) ?_ | refine qq rfl rfl (qr_pick_f rfl rfl) ?_ | refine qq rfl rfl (qr_pick_b rfl rfl rfl) ?_
        refine qq rfl rfl (qr_move rfl) ?_
        refine asplit (fun hg1_18 => ?_) (fun hg1_18 => ?_)
        · refine qs rfl rfl ?_
          refine qs rfl rfl ?_
          first | refine qq rfl rfl (qr_pick_t rfl rfl) ?_ | refine qq rfl rfl (qr_pick_f rfl rfl) ?_ | refine qq rfl rfl (qr_pick_b rfl rfl rfl) ?_
          refine qq rfl rfl (qr_assign rfl) ?_
          refine aops_nil (thn_n ?_)
          refine aw_ret ?_
          exact retq (.cons _ _ _ _ (.tmp _ _ rfl) .nil) (.refl _ _) ⟨rfl, congrArg bv (by first | (simp only [letB, *, Bool.true_and, Bool.false_and, Bool.and_false, Bool.and_true, Bool.true_or, Bool.or_false, Bool.false_or, Bool.or_true, if_true, if_false, Bool.false_eq_true, Bool.not_true, Bool.not_false]; done) | (simp_all [letB]; done) | (simp_all [letB] <;> omega))⟩
        · refine qq rfl rfl (qr_move rfl) ?_
          refine qq rfl rfl (qr_cmp rfl rfl rfl) ?_
          first | refine qq rfl rfl (qr_pick_t rfl rfl) ?_ | refine qq rfl rfl (qr_pick_f rfl rfl) ?_ | refine qq rfl rfl (qr_pick_b rfl rfl rfl) ?_
          refine qq rfl rfl (qr_assign rfl) ?_
          refine aops_nil (thn_n ?_)
          refine aw_ret ?_
          exact retq (.cons _ _ _ _ (.tmp _ _ rfl) .nil) (.refl _ _) ⟨rfl, congrArg bv (by first | (simp only [letB, *, Bool.true_and, Bool.false_and, Bool.and_false, Bool.and_true, Bool.true_or, Bool.or_false, Bool.false_or, Bool.or_true, if_true, if_false, Bool.false_eq_true, Bool.not_true, Bool.not_false]; done) | (simp_all [letB]; done) | (simp_all [letB] <;> omega))⟩
      · refine qs rfl rfl ?_
        refine qs rfl rfl ?_
        first | refine qq rfl rfl (qr_pick_t rfl rfl) ?_ | refine qq rfl rfl (qr_pick_f rfl rfl) ?_ | refine qq rfl rfl (qr_pick_b rfl rfl rfl) ?_
        first | refine qq rfl rfl (qr_pick_t rfl rfl) ?_ | refine qq rfl rfl (qr_pick_f rfl rfl) ?_ | refine qq rfl rfl (qr_pick_b rfl rfl rfl) ?_
        refine qq rfl rfl (qr_move rfl) ?_
        refine qq rfl rfl (qr_move rfl) ?_
        refine qq rfl rfl (qr_cmp rfl rfl rfl) ?_
        first | refine qq rfl rfl (qr_pick_t rfl rfl) ?_ | refine qq rfl rfl (qr_pick_f rfl rfl) ?_ | refine qq rfl rfl (qr_pick_b rfl rfl rfl) ?_
        refine qq rfl rfl (qr_assign rfl) ?_
        refine aops_nil (thn_n ?_)
        refine aw_ret ?_
        exact retq (.cons _ _ _ _ (.tmp _ _ rfl) .nil) (.refl _ _) ⟨rfl, congrArg bv (by first | (simp only [letB, *, Bool.true_and, Bool.false_and, Bool.and_false, Bool.and_true, Bool.true_or, Bool.or_false, Bool.false_or, Bool.or_true, if_true, if_false, Bool.false_eq_true, Bool.not_true, Bool.not_false]; done) | (simp_all [letB]; done) | (simp_all [letB] <;> omega))⟩
theorem lexEither (c : Int) : ACall Tryd.prog 54 [.v (.int .i32 c)] [] (fun r h' => h' = [] ∧ r = bv (letB c || numB c)) := by
  refine acall_of_aw Tryd.func54 rfl rfl rfl ?_
  refine aw_seq (aw_region ?_)
  refine qq rfl rfl (qr_assign rfl) ?_
  refine aops_nil (thn_n ?_)
  refine aw_seq (aw_region ?_)
  refine qq rfl rfl (qr_move rfl) ?_
  refine qv rfl rfl (qv_call rfl rfl (pcall (lexLetter _) (Sbs.refl _))) ?_
  refine qq rfl rfl (qr_move rfl) ?_
  refine asplit (fun hg1_2 => ?_) (fun hg1_2 => ?_)
  · refine qs rfl rfl ?_
    refine qs rfl rfl ?_
    first | refine qq rfl rfl (qr_pick_t rfl rfl) ?_ | refine qq rfl rfl (qr_pick_f rfl rfl) ?_ | refine qq rfl rfl (qr_pick_b rfl rfl rfl) ?_
    refine qq rfl rfl (qr_assign rfl) ?_
    refine aops_nil (thn_n ?_)
    refine aw_ret ?_
    exact retq (.cons _ _ _ _ (.tmp _ _ rfl) .nil) (.refl _ _) ⟨rfl, congrArg bv (by first | (simp only [*, Bool.true_and, Bool.false_and, Bool.and_false, Bool.and_true, Bool.true_or, Bool.or_false, Bool.false_or, Bool.or_true, if_true, if_false, Bool.false_eq_true, Bool.not_true, Bool.not_false]; done) | (simp_all; done) | (simp_all <;> omega))⟩
  · refine qq rfl rfl (qr_move rfl) ?_
    refine qv rfl rfl (qv_call rfl rfl (pcall (lexNumber _) (Sbs.refl _))) ?_
    first | refine qq rfl rfl (qr_pick_t rfl rfl) ?_ | refine qq rfl rfl (qr_pick_f rfl rfl) ?_ | refine qq rfl rfl (qr_pick_b rfl rfl rfl) ?_
    refine qq rfl rfl (qr_assign rfl) ?_
    refine aops_nil (thn_n ?_)
    refine aw_ret ?_
    exact retq (.cons _ _ _ _ (.tmp _ _ rfl) .nil) (.refl _ _) ⟨rfl, congrArg bv (by first | (simp only [*, Bool.true_and, Bool.false_and, Bool.and_false, Bool.and_true, Bool.true_or, Bool.or_false, Bool.false_or, Bool.or_true, if_true, if_false, Bool.false_eq_true, Bool.not_true, Bool.not_false]; done) | (simp_all; done) | (simp_all <;> omega))⟩
theorem names (h : Hist) : ACall Tryd.prog 21 [.agg (histC h)] [] (fun r h' => h' = [] ∧ r = .agg (namesC h)) := by
  refine acall_of_aw Tryd.func21 rfl rfl rfl ?_
  refine aw_seq (aw_region ?_)
  refine aops_e rfl (oe_box rfl rfl rfl fun b1 => ?_)
  refine aops_e rfl (oe_alloc rfl fun b2 => ?_)
  refine aops_nil (thn_n ?_)
  refine aw_seq (aw_region ?_)
  first | refine qq rfl rfl (qr_fieldAddr rfl (Nat.succ_ne_zero _)) ?_ | refine qq rfl rfl (qr_fieldAddr_pp rfl (Nat.succ_ne_zero _)) ?_ | refine qq rfl rfl (qr_fieldAddr_rp rfl (Nat.succ_ne_zero _)) ?_
  first | refine qq rfl rfl (qr_load_one rfl rfl) ?_ | refine qq rfl rfl (qr_load_pp_one rfl rfl) ?_
  first | refine qq rfl rfl (qr_fieldAddr rfl (Nat.succ_ne_zero _)) ?_ | refine qq rfl rfl (qr_fieldAddr_pp rfl (Nat.succ_ne_zero _)) ?_ | refine qq rfl rfl (qr_fieldAddr_rp rfl (Nat.succ_ne_zero _)) ?_
  first | refine qq rfl rfl (qr_load_one rfl rfl) ?_ | refine qq rfl rfl (qr_load_pp_one rfl rfl) ?_
  first | refine qq rfl rfl (qr_fieldAddr rfl (Nat.succ_ne_zero _)) ?_ | refine qq rfl rfl (qr_fieldAddr_pp rfl (Nat.succ_ne_zero _)) ?_ | refine qq rfl rfl (qr_fieldAddr_rp rfl (Nat.succ_ne_zero _)) ?_
  first | refine qq rfl rfl (qr_load_one rfl rfl) ?_ | refine qq rfl rfl (qr_load_pp_one rfl rfl) ?_
  first | refine qq rfl rfl (qr_fieldAddr rfl (Nat.succ_ne_zero _)) ?_ | refine qq rfl rfl (qr_fieldAddr_pp rfl (Nat.succ_ne_zero _)) ?_ | refine qq rfl rfl (qr_fieldAddr_rp rfl (Nat.succ_ne_zero _)) ?_
  first | refine qq rfl rfl (qr_load_one rfl rfl) ?_ | refine qq rfl rfl (qr_load_pp_one rfl rfl) ?_
  refine qq rfl rfl (qr_buildArr rfl (by rfl)) ?_
  first | refine aops_e rfl (oe_store_all rfl rfl rfl ?_) | refine aops_e rfl (oe_store rfl rfl rfl rfl (Nat.le_of_ble_eq_true rfl) ?_)
  refine aops_nil (thn_n ?_)
  refine aw_ret ?_
  exact retq (.cons _ _ _ _ (.agg _ _ _ _ _ _ _ rfl inferInstance inferInstance inferInstance rfl) .nil) (.drop [_, _] _ _) ⟨rfl, rfl⟩
theorem told (h : Hist) (sort : Nat) (n : Int) (l : List ByteArray) (hs : (namesC h)[sort]? = some (strsA l)) (hs4 : sort < 4) : ACall Tryd.prog 36 [.agg (histC h), iv sort, iv n] [] (fun r h' => h' = [] ∧ r = bv (toldB l n)) := by
  refine acall_of_aw Tryd.func36 rfl rfl rfl ?_
  refine aw_seq (aw_region ?_)
  refine aops_e rfl (oe_box rfl rfl rfl fun b3 => ?_)
  refine qq rfl rfl (qr_assign rfl) ?_
  refine aops_nil (thn_n ?_)
  refine aw_seq (aw_region ?_)
  refine qq rfl rfl (qr_move rfl) ?_
  refine qq rfl rfl (qr_cmp rfl rfl rfl) ?_
  refine qq rfl rfl (qr_move rfl) ?_
  refine asplit (fun hg1_2 => ?_) (fun hg1_2 => ?_)
  · refine qq rfl rfl (qr_move rfl) ?_
    first | refine qq rfl rfl (qr_load_all rfl rfl) ?_ | refine qq rfl rfl (qr_load_pp_all rfl rfl) ?_ | refine qq rfl rfl (qr_load_agg rfl (Nat.le_of_ble_eq_true rfl)) ?_ | refine qq rfl rfl (qr_load_pp_agg rfl (Nat.le_of_ble_eq_true rfl)) ?_
    refine qv rfl rfl (qv_call rfl rfl (pcall (names _) (Sbs.refl _))) ?_
    refine qq rfl rfl (qr_move rfl) ?_
    refine qq rfl rfl (qr_index_arr_one rfl rfl (by omega) (by simpa using hs)) ?_
    refine qq rfl rfl (qr_len_list rfl) ?_
    refine qq rfl rfl (qr_cmp rfl rfl rfl) ?_
    first | refine qq rfl rfl (qr_pick_t rfl rfl) ?_ | refine qq rfl rfl (qr_pick_f rfl rfl) ?_ | refine qq rfl rfl (qr_pick_b rfl rfl rfl) ?_
    refine qq rfl rfl (qr_assign rfl) ?_
    refine aops_nil (thn_n ?_)
    refine aw_ret ?_
    exact retq (.cons _ _ _ _ (.tmp _ _ rfl) .nil) (.drop1 _ _ _) ⟨rfl, congrArg bv (by first | (simp only [toldB, *, Bool.true_and, Bool.false_and, Bool.and_false, Bool.and_true, Bool.true_or, Bool.or_false, Bool.false_or, Bool.or_true, if_true, if_false, Bool.false_eq_true, Bool.not_true, Bool.not_false]; done) | (simp_all [toldB]; done) | (simp_all [toldB] <;> omega))⟩
  · refine qs rfl rfl ?_
    refine qs rfl rfl ?_
    refine qs rfl rfl ?_
    refine qs rfl rfl ?_
    refine qs rfl rfl ?_
    refine qs rfl rfl ?_
    refine qs rfl rfl ?_
    first | refine qq rfl rfl (qr_pick_t rfl rfl) ?_ | refine qq rfl rfl (qr_pick_f rfl rfl) ?_ | refine qq rfl rfl (qr_pick_b rfl rfl rfl) ?_
    refine qq rfl rfl (qr_assign rfl) ?_
    refine aops_nil (thn_n ?_)
    refine aw_ret ?_
    exact retq (.cons _ _ _ _ (.tmp _ _ rfl) .nil) (.drop1 _ _ _) ⟨rfl, congrArg bv (by first | (simp only [toldB, *, Bool.true_and, Bool.false_and, Bool.and_false, Bool.and_true, Bool.true_or, Bool.or_false, Bool.false_or, Bool.or_true, if_true, if_false, Bool.false_eq_true, Bool.not_true, Bool.not_false]; done) | (simp_all [toldB]; done) | (simp_all [toldB] <;> omega))⟩
theorem version (h : Hist) (v : Ver) : ACall Tryd.prog 62 [.agg (histC h), .agg (verR v)] [] (fun r h' => h' = [] ∧ r = bv (verB h.ts v)) := by
  refine acall_of_aw Tryd.func62 rfl rfl rfl ?_
  refine aw_seq (aw_region ?_)
  refine aops_e rfl (oe_box rfl rfl rfl fun b2 => ?_)
  refine aops_e rfl (oe_box rfl rfl rfl fun b3 => ?_)
  refine qq rfl rfl (qr_assign rfl) ?_
  refine aops_nil (thn_n ?_)
  refine aw_seq ?_
  refine aw_seq (aw_region ?_)
  first | refine qq rfl rfl (qr_fieldAddr rfl (Nat.succ_ne_zero _)) ?_ | refine qq rfl rfl (qr_fieldAddr_pp rfl (Nat.succ_ne_zero _)) ?_ | refine qq rfl rfl (qr_fieldAddr_rp rfl (Nat.succ_ne_zero _)) ?_
  first | refine qq rfl rfl (qr_load_one rfl rfl) ?_ | refine qq rfl rfl (qr_load_pp_one rfl rfl) ?_
  refine qq rfl rfl (qr_cmp rfl rfl rfl) ?_
  refine aops_nil (thn_n ?_)
  refine aw_cond rfl (fun hc7 => ?_) (fun hc7 => ?_)
  · refine aw_seq (aw_region ?_)
    first | refine qq rfl rfl (qr_fieldAddr rfl (Nat.succ_ne_zero _)) ?_ | refine qq rfl rfl (qr_fieldAddr_pp rfl (Nat.succ_ne_zero _)) ?_ | refine qq rfl rfl (qr_fieldAddr_rp rfl (Nat.succ_ne_zero _)) ?_
    first | refine qq rfl rfl (qr_load_one rfl rfl) ?_ | refine qq rfl rfl (qr_load_pp_one rfl rfl) ?_
    refine qq rfl rfl (qr_cmp rfl rfl rfl) ?_
    refine qq rfl rfl (qr_assign rfl) ?_
    refine aops_nil (thn_n ?_)
    refine aw_ret ?_
    refine thn_r ?_
    exact retq (.cons _ _ _ _ (.tmp _ _ rfl) .nil) (.drop [_, _] _ _) ⟨rfl, congrArg bv (by first | (simp only [verB, *, Bool.true_and, Bool.false_and, Bool.and_false, Bool.and_true, Bool.true_or, Bool.or_false, Bool.false_or, Bool.or_true, if_true, if_false, Bool.false_eq_true, Bool.not_true, Bool.not_false]; done) | (simp_all [verB]; done) | (simp_all [verB] <;> omega))⟩
  · refine aw_skip ?_
    refine thn_n ?_
    refine aw_seq (aw_region ?_)
    first | refine qq rfl rfl (qr_load_all rfl rfl) ?_ | refine qq rfl rfl (qr_load_pp_all rfl rfl) ?_ | refine qq rfl rfl (qr_load_agg rfl (Nat.le_of_ble_eq_true rfl)) ?_ | refine qq rfl rfl (qr_load_pp_agg rfl (Nat.le_of_ble_eq_true rfl)) ?_
    first | refine qq rfl rfl (qr_fieldAddr rfl (Nat.succ_ne_zero _)) ?_ | refine qq rfl rfl (qr_fieldAddr_pp rfl (Nat.succ_ne_zero _)) ?_ | refine qq rfl rfl (qr_fieldAddr_rp rfl (Nat.succ_ne_zero _)) ?_
    first | refine qq rfl rfl (qr_load_one rfl rfl) ?_ | refine qq rfl rfl (qr_load_pp_one rfl rfl) ?_
    refine qv rfl rfl (qv_call rfl rfl (pcall (told _ 0 _ _ rfl (by decide)) (Sbs.refl _))) ?_
    refine qq rfl rfl (qr_move rfl) ?_
    refine asplit (fun hg3_4 => ?_) (fun hg3_4 => ?_)
    · first | refine qq rfl rfl (qr_fieldAddr rfl (Nat.succ_ne_zero _)) ?_ | refine qq rfl rfl (qr_fieldAddr_pp rfl (Nat.succ_ne_zero _)) ?_ | refine qq rfl rfl (qr_fieldAddr_rp rfl (Nat.succ_ne_zero _)) ?_
      first | refine qq rfl rfl (qr_load_one rfl rfl) ?_ | refine qq rfl rfl (qr_load_pp_one rfl rfl) ?_
      refine qq rfl rfl (qr_cmp rfl rfl rfl) ?_
      first | refine qq rfl rfl (qr_pick_t rfl rfl) ?_ | refine qq rfl rfl (qr_pick_f rfl rfl) ?_ | refine qq rfl rfl (qr_pick_b rfl rfl rfl) ?_
      refine qq rfl rfl (qr_move rfl) ?_
      refine asplit (fun hg3_9 => ?_) (fun hg3_9 => ?_)
      · first | refine qq rfl rfl (qr_fieldAddr rfl (Nat.succ_ne_zero _)) ?_ | refine qq rfl rfl (qr_fieldAddr_pp rfl (Nat.succ_ne_zero _)) ?_ | refine qq rfl rfl (qr_fieldAddr_rp rfl (Nat.succ_ne_zero _)) ?_
        first | refine qq rfl rfl (qr_load_one rfl rfl) ?_ | refine qq rfl rfl (qr_load_pp_one rfl rfl) ?_
        refine qq rfl rfl (qr_cmp rfl rfl rfl) ?_
        first | refine qq rfl rfl (qr_pick_t rfl rfl) ?_ | refine qq rfl rfl (qr_pick_f rfl rfl) ?_ | refine qq rfl rfl (qr_pick_b rfl rfl rfl) ?_
        refine qq rfl rfl (qr_assign rfl) ?_
        refine aops_nil (thn_n ?_)
        refine aw_ret ?_
        exact retq (.cons _ _ _ _ (.tmp _ _ rfl) .nil) (.drop [_, _] _ _) ⟨rfl, congrArg bv (by first | (simp only [verB, *, Bool.true_and, Bool.false_and, Bool.and_false, Bool.and_true, Bool.true_or, Bool.or_false, Bool.false_or, Bool.or_true, if_true, if_false, Bool.false_eq_true, Bool.not_true, Bool.not_false]; done) | (simp_all [verB]; done) | (simp_all [verB] <;> omega))⟩
      · refine qs rfl rfl ?_
        refine qs rfl rfl ?_
        refine qs rfl rfl ?_
        first | refine qq rfl rfl (qr_pick_t rfl rfl) ?_ | refine qq rfl rfl (qr_pick_f rfl rfl) ?_ | refine qq rfl rfl (qr_pick_b rfl rfl rfl) ?_
        refine qq rfl rfl (qr_assign rfl) ?_
        refine aops_nil (thn_n ?_)
        refine aw_ret ?_
        exact retq (.cons _ _ _ _ (.tmp _ _ rfl) .nil) (.drop [_, _] _ _) ⟨rfl, congrArg bv (by first | (simp only [verB, *, Bool.true_and, Bool.false_and, Bool.and_false, Bool.and_true, Bool.true_or, Bool.or_false, Bool.false_or, Bool.or_true, if_true, if_false, Bool.false_eq_true, Bool.not_true, Bool.not_false]; done) | (simp_all [verB]; done) | (simp_all [verB] <;> omega))⟩
    · refine qs rfl rfl ?_
      refine qs rfl rfl ?_
      refine qs rfl rfl ?_
      first | refine qq rfl rfl (qr_pick_t rfl rfl) ?_ | refine qq rfl rfl (qr_pick_f rfl rfl) ?_ | refine qq rfl rfl (qr_pick_b rfl rfl rfl) ?_
      refine qq rfl rfl (qr_move rfl) ?_
      refine qs rfl rfl ?_
      refine qs rfl rfl ?_
      refine qs rfl rfl ?_
      first | refine qq rfl rfl (qr_pick_t rfl rfl) ?_ | refine qq rfl rfl (qr_pick_f rfl rfl) ?_ | refine qq rfl rfl (qr_pick_b rfl rfl rfl) ?_
      refine qq rfl rfl (qr_assign rfl) ?_
      refine aops_nil (thn_n ?_)
      refine aw_ret ?_
      exact retq (.cons _ _ _ _ (.tmp _ _ rfl) .nil) (.drop [_, _] _ _) ⟨rfl, congrArg bv (by first | (simp only [verB, *, Bool.true_and, Bool.false_and, Bool.and_false, Bool.and_true, Bool.true_or, Bool.or_false, Bool.false_or, Bool.or_true, if_true, if_false, Bool.false_eq_true, Bool.not_true, Bool.not_false]; done) | (simp_all [verB]; done) | (simp_all [verB] <;> omega))⟩
theorem sameEvent (a b : Ev) (ha : a.scan.length ≤ 4611686018427387904) (hb : b.scan.length ≤ 4611686018427387904) : ACall Tryd.prog 11 [.agg (evR a), .agg (evR b)] [] (fun r h' => h' = [] ∧ r = bv (evEq a b)) := by
  refine acall_of_aw Tryd.func11 rfl rfl rfl ?_
  refine aw_seq (aw_region ?_)
  refine aops_e rfl (oe_box rfl rfl rfl fun b2 => ?_)
  refine aops_e rfl (oe_box rfl rfl rfl fun b3 => ?_)
  refine qq rfl rfl (qr_assign rfl) ?_
  refine aops_nil (thn_n ?_)
  refine aw_seq (aw_region ?_)
  first | refine qq rfl rfl (qr_fieldAddr rfl (Nat.succ_ne_zero _)) ?_ | refine qq rfl rfl (qr_fieldAddr_pp rfl (Nat.succ_ne_zero _)) ?_ | refine qq rfl rfl (qr_fieldAddr_rp rfl (Nat.succ_ne_zero _)) ?_
  first | refine qq rfl rfl (qr_load_one rfl rfl) ?_ | refine qq rfl rfl (qr_load_pp_one rfl rfl) ?_
  first | refine qq rfl rfl (qr_fieldAddr rfl (Nat.succ_ne_zero _)) ?_ | refine qq rfl rfl (qr_fieldAddr_pp rfl (Nat.succ_ne_zero _)) ?_ | refine qq rfl rfl (qr_fieldAddr_rp rfl (Nat.succ_ne_zero _)) ?_
  first | refine qq rfl rfl (qr_load_one rfl rfl) ?_ | refine qq rfl rfl (qr_load_pp_one rfl rfl) ?_
  refine qq rfl rfl (qr_cmp rfl rfl rfl) ?_
  refine qq rfl rfl (qr_move rfl) ?_
  refine asplit (fun hg1_5 => ?_) (fun hg1_5 => ?_)
  · first | refine qq rfl rfl (qr_fieldAddr rfl (Nat.succ_ne_zero _)) ?_ | refine qq rfl rfl (qr_fieldAddr_pp rfl (Nat.succ_ne_zero _)) ?_ | refine qq rfl rfl (qr_fieldAddr_rp rfl (Nat.succ_ne_zero _)) ?_
    first | refine qq rfl rfl (qr_load_one rfl rfl) ?_ | refine qq rfl rfl (qr_load_pp_one rfl rfl) ?_
    first | refine qq rfl rfl (qr_fieldAddr rfl (Nat.succ_ne_zero _)) ?_ | refine qq rfl rfl (qr_fieldAddr_pp rfl (Nat.succ_ne_zero _)) ?_ | refine qq rfl rfl (qr_fieldAddr_rp rfl (Nat.succ_ne_zero _)) ?_
    first | refine qq rfl rfl (qr_load_one rfl rfl) ?_ | refine qq rfl rfl (qr_load_pp_one rfl rfl) ?_
    refine qq rfl rfl (qr_cmp rfl rfl rfl) ?_
    first | refine qq rfl rfl (qr_pick_t rfl rfl) ?_ | refine qq rfl rfl (qr_pick_f rfl rfl) ?_ | refine qq rfl rfl (qr_pick_b rfl rfl rfl) ?_
    refine qq rfl rfl (qr_move rfl) ?_
    refine asplit (fun hg1_12 => ?_) (fun hg1_12 => ?_)
    · first | refine qq rfl rfl (qr_fieldAddr rfl (Nat.succ_ne_zero _)) ?_ | refine qq rfl rfl (qr_fieldAddr_pp rfl (Nat.succ_ne_zero _)) ?_ | refine qq rfl rfl (qr_fieldAddr_rp rfl (Nat.succ_ne_zero _)) ?_
      first | refine qq rfl rfl (qr_load_one rfl rfl) ?_ | refine qq rfl rfl (qr_load_pp_one rfl rfl) ?_
      first | refine qq rfl rfl (qr_fieldAddr rfl (Nat.succ_ne_zero _)) ?_ | refine qq rfl rfl (qr_fieldAddr_pp rfl (Nat.succ_ne_zero _)) ?_ | refine qq rfl rfl (qr_fieldAddr_rp rfl (Nat.succ_ne_zero _)) ?_
      first | refine qq rfl rfl (qr_load_one rfl rfl) ?_ | refine qq rfl rfl (qr_load_pp_one rfl rfl) ?_
      refine qq rfl rfl (qr_cmp rfl rfl rfl) ?_
      first | refine qq rfl rfl (qr_pick_t rfl rfl) ?_ | refine qq rfl rfl (qr_pick_f rfl rfl) ?_ | refine qq rfl rfl (qr_pick_b rfl rfl rfl) ?_
      refine qq rfl rfl (qr_move rfl) ?_
      refine asplit (fun hg1_19 => ?_) (fun hg1_19 => ?_)
      · first | refine qq rfl rfl (qr_fieldAddr rfl (Nat.succ_ne_zero _)) ?_ | refine qq rfl rfl (qr_fieldAddr_pp rfl (Nat.succ_ne_zero _)) ?_ | refine qq rfl rfl (qr_fieldAddr_rp rfl (Nat.succ_ne_zero _)) ?_
        first | refine qq rfl rfl (qr_load_one rfl rfl) ?_ | refine qq rfl rfl (qr_load_pp_one rfl rfl) ?_
        first | refine qq rfl rfl (qr_fieldAddr rfl (Nat.succ_ne_zero _)) ?_ | refine qq rfl rfl (qr_fieldAddr_pp rfl (Nat.succ_ne_zero _)) ?_ | refine qq rfl rfl (qr_fieldAddr_rp rfl (Nat.succ_ne_zero _)) ?_
        first | refine qq rfl rfl (qr_load_one rfl rfl) ?_ | refine qq rfl rfl (qr_load_pp_one rfl rfl) ?_
        refine qq rfl rfl (qr_cmp rfl rfl rfl) ?_
        first | refine qq rfl rfl (qr_pick_t rfl rfl) ?_ | refine qq rfl rfl (qr_pick_f rfl rfl) ?_ | refine qq rfl rfl (qr_pick_b rfl rfl rfl) ?_
        refine qq rfl rfl (qr_assign rfl) ?_
        refine aops_nil (thn_n ?_)
        refine aw_seq (aw_region ?_)
        refine qq rfl rfl (qr_move rfl) ?_
        refine qq rfl rfl (qr_move rfl) ?_
        refine asplit (fun hg2_1 => ?_) (fun hg2_1 => ?_)
        · first | refine qq rfl rfl (qr_fieldAddr rfl (Nat.succ_ne_zero _)) ?_ | refine qq rfl rfl (qr_fieldAddr_pp rfl (Nat.succ_ne_zero _)) ?_ | refine qq rfl rfl (qr_fieldAddr_rp rfl (Nat.succ_ne_zero _)) ?_
          first | refine qq rfl rfl (qr_load_one rfl rfl) ?_ | refine qq rfl rfl (qr_load_pp_one rfl rfl) ?_
          first | refine qq rfl rfl (qr_fieldAddr rfl (Nat.succ_ne_zero _)) ?_ | refine qq rfl rfl (qr_fieldAddr_pp rfl (Nat.succ_ne_zero _)) ?_ | refine qq rfl rfl (qr_fieldAddr_rp rfl (Nat.succ_ne_zero _)) ?_
          first | refine qq rfl rfl (qr_load_one rfl rfl) ?_ | refine qq rfl rfl (qr_load_pp_one rfl rfl) ?_
          refine qq rfl rfl (qr_cmp rfl rfl rfl) ?_
          first | refine qq rfl rfl (qr_pick_t rfl rfl) ?_ | refine qq rfl rfl (qr_pick_f rfl rfl) ?_ | refine qq rfl rfl (qr_pick_b rfl rfl rfl) ?_
          refine qq rfl rfl (qr_move rfl) ?_
          refine asplit (fun hg2_8 => ?_) (fun hg2_8 => ?_)
          · first | refine qq rfl rfl (qr_fieldAddr rfl (Nat.succ_ne_zero _)) ?_ | refine qq rfl rfl (qr_fieldAddr_pp rfl (Nat.succ_ne_zero _)) ?_ | refine qq rfl rfl (qr_fieldAddr_rp rfl (Nat.succ_ne_zero _)) ?_
            first | refine qq rfl rfl (qr_load_all rfl rfl) ?_ | refine qq rfl rfl (qr_load_pp_all rfl rfl) ?_ | refine qq rfl rfl (qr_load_agg rfl (Nat.le_of_ble_eq_true rfl)) ?_ | refine qq rfl rfl (qr_load_pp_agg rfl (Nat.le_of_ble_eq_true rfl)) ?_
            first | refine qq rfl rfl (qr_fieldAddr rfl (Nat.succ_ne_zero _)) ?_ | refine qq rfl rfl (qr_fieldAddr_pp rfl (Nat.succ_ne_zero _)) ?_ | refine qq rfl rfl (qr_fieldAddr_rp rfl (Nat.succ_ne_zero _)) ?_
            first | refine qq rfl rfl (qr_load_all rfl rfl) ?_ | refine qq rfl rfl (qr_load_pp_all rfl rfl) ?_ | refine qq rfl rfl (qr_load_agg rfl (Nat.le_of_ble_eq_true rfl)) ?_ | refine qq rfl rfl (qr_load_pp_agg rfl (Nat.le_of_ble_eq_true rfl)) ?_
            refine qq rfl rfl (qr_eqagg rfl rfl rfl rfl) ?_
            first | refine qq rfl rfl (qr_pick_t rfl rfl) ?_ | refine qq rfl rfl (qr_pick_f rfl rfl) ?_ | refine qq rfl rfl (qr_pick_b rfl rfl rfl) ?_
            refine qq rfl rfl (qr_move rfl) ?_
            refine asplit (fun hg2_15 => ?_) (fun hg2_15 => ?_)
            · first | refine qq rfl rfl (qr_fieldAddr rfl (Nat.succ_ne_zero _)) ?_ | refine qq rfl rfl (qr_fieldAddr_pp rfl (Nat.succ_ne_zero _)) ?_ | refine qq rfl rfl (qr_fieldAddr_rp rfl (Nat.succ_ne_zero _)) ?_
              first | refine qq rfl rfl (qr_load_one rfl rfl) ?_ | refine qq rfl rfl (qr_load_pp_one rfl rfl) ?_
              first | refine qq rfl rfl (qr_fieldAddr rfl (Nat.succ_ne_zero _)) ?_ | refine qq rfl rfl (qr_fieldAddr_pp rfl (Nat.succ_ne_zero _)) ?_ | refine qq rfl rfl (qr_fieldAddr_rp rfl (Nat.succ_ne_zero _)) ?_
              first | refine qq rfl rfl (qr_load_one rfl rfl) ?_ | refine qq rfl rfl (qr_load_pp_one rfl rfl) ?_
              refine qq rfl rfl (qr_cmp rfl rfl rfl) ?_
              first | refine qq rfl rfl (qr_pick_t rfl rfl) ?_ | refine qq rfl rfl (qr_pick_f rfl rfl) ?_ | refine qq rfl rfl (qr_pick_b rfl rfl rfl) ?_
              refine qq rfl rfl (qr_move rfl) ?_
              refine asplit (fun hg2_22 => ?_) (fun hg2_22 => ?_)
              · first | refine qq rfl rfl (qr_fieldAddr rfl (Nat.succ_ne_zero _)) ?_ | refine qq rfl rfl (qr_fieldAddr_pp rfl (Nat.succ_ne_zero _)) ?_ | refine qq rfl rfl (qr_fieldAddr_rp rfl (Nat.succ_ne_zero _)) ?_
                first | refine qq rfl rfl (qr_load_one rfl rfl) ?_ | refine qq rfl rfl (qr_load_pp_one rfl rfl) ?_
                first | refine qq rfl rfl (qr_fieldAddr rfl (Nat.succ_ne_zero _)) ?_ | refine qq rfl rfl (qr_fieldAddr_pp rfl (Nat.succ_ne_zero _)) ?_ | refine qq rfl rfl (qr_fieldAddr_rp rfl (Nat.succ_ne_zero _)) ?_
                first | refine qq rfl rfl (qr_load_one rfl rfl) ?_ | refine qq rfl rfl (qr_load_pp_one rfl rfl) ?_
                refine qv rfl rfl (qv_call rfl rfl (pcall (equalSeen _ _ ha hb) (Sbs.refl _))) ?_
                first | refine qq rfl rfl (qr_pick_t rfl rfl) ?_ | refine qq rfl rfl (qr_pick_f rfl rfl) ?_ | refine qq rfl rfl (qr_pick_b rfl rfl rfl) ?_
                refine qq rfl rfl (qr_assign rfl) ?_
                refine aops_nil (thn_n ?_)
                refine aw_ret ?_
                exact retq (.cons _ _ _ _ (.tmp _ _ rfl) .nil) (.drop [_, _] _ _) ⟨rfl, congrArg bv (by first | (simp only [evEq, *, Bool.true_and, Bool.false_and, Bool.and_false, Bool.and_true, Bool.true_or, Bool.or_false, Bool.false_or, Bool.or_true, if_true, if_false, Bool.false_eq_true, Bool.not_true, Bool.not_false]; done) | (simp_all [evEq]; done) | (simp_all [evEq] <;> omega))⟩
              · refine qs rfl rfl ?_
                refine qs rfl rfl ?_
                refine qs rfl rfl ?_
                refine qs rfl rfl ?_
                refine qs rfl rfl ?_
                first | refine qq rfl rfl (qr_pick_t rfl rfl) ?_ | refine qq rfl rfl (qr_pick_f rfl rfl) ?_ | refine qq rfl rfl (qr_pick_b rfl rfl rfl) ?_
                refine qq rfl rfl (qr_assign rfl) ?_
                refine aops_nil (thn_n ?_)
                refine aw_ret ?_
                exact retq (.cons _ _ _ _ (.tmp _ _ rfl) .nil) (.drop [_, _] _ _) ⟨rfl, congrArg bv (by first | (simp only [evEq, *, Bool.true_and, Bool.false_and, Bool.and_false, Bool.and_true, Bool.true_or, Bool.or_false, Bool.false_or, Bool.or_true, if_true, if_false, Bool.false_eq_true, Bool.not_true, Bool.not_false]; done) | (simp_all [evEq]; done) | (simp_all [evEq] <;> omega))⟩
            · refine qs rfl rfl ?_
              refine qs rfl rfl ?_
              refine qs rfl rfl ?_
              refine qs rfl rfl ?_
              refine qs rfl rfl ?_
              first | refine qq rfl rfl (qr_pick_t rfl rfl) ?_ | refine qq rfl rfl (qr_pick_f rfl rfl) ?_ | refine qq rfl rfl (qr_pick_b rfl rfl rfl) ?_
              refine qq rfl rfl (qr_move rfl) ?_
              refine qs rfl rfl ?_
              refine qs rfl rfl ?_
              refine qs rfl rfl ?_
              refine qs rfl rfl ?_
              refine qs rfl rfl ?_
              first | refine qq rfl rfl (qr_pick_t rfl rfl) ?_ | refine qq rfl rfl (qr_pick_f rfl rfl) ?_ | refine qq rfl rfl (qr_pick_b rfl rfl rfl) ?_
              refine qq rfl rfl (qr_assign rfl) ?_
              refine aops_nil (thn_n ?_)
              refine aw_ret ?_
              exact retq (.cons _ _ _ _ (.tmp _ _ rfl) .nil) (.drop [_, _] _ _) ⟨rfl, congrArg bv (by first | (simp only [evEq, *, Bool.true_and, Bool.false_and, Bool.and_false, Bool.and_true, Bool.true_or, Bool.or_false, Bool.false_or, Bool.or_true, if_true, if_false, Bool.false_eq_true, Bool.not_true, Bool.not_false]; done) | (simp_all [evEq]; done) | (simp_all [evEq] <;> omega))⟩
          · refine qs rfl rfl ?_
            refine qs rfl rfl ?_
            refine qs rfl rfl ?_
            refine qs rfl rfl ?_
            refine qs rfl rfl ?_
            first | refine qq rfl rfl (qr_pick_t rfl rfl) ?_ | refine qq rfl rfl (qr_pick_f rfl rfl) ?_ | refine qq rfl rfl (qr_pick_b rfl rfl rfl) ?_
            refine qq rfl rfl (qr_move rfl) ?_
            refine qs rfl rfl ?_
            refine qs rfl rfl ?_
            refine qs rfl rfl ?_
            refine qs rfl rfl ?_
            refine qs rfl rfl ?_
            first | refine qq rfl rfl (qr_pick_t rfl rfl) ?_ | refine qq rfl rfl (qr_pick_f rfl rfl) ?_ | refine qq rfl rfl (qr_pick_b rfl rfl rfl) ?_
            refine qq rfl rfl (qr_move rfl) ?_
            refine qs rfl rfl ?_
            refine qs rfl rfl ?_
            refine qs rfl rfl ?_
            refine qs rfl rfl ?_
            refine qs rfl rfl ?_
            first | refine qq rfl rfl (qr_pick_t rfl rfl) ?_ | refine qq rfl rfl (qr_pick_f rfl rfl) ?_ | refine qq rfl rfl (qr_pick_b rfl rfl rfl) ?_
            refine qq rfl rfl (qr_assign rfl) ?_
            refine aops_nil (thn_n ?_)
            refine aw_ret ?_
            exact retq (.cons _ _ _ _ (.tmp _ _ rfl) .nil) (.drop [_, _] _ _) ⟨rfl, congrArg bv (by first | (simp only [evEq, *, Bool.true_and, Bool.false_and, Bool.and_false, Bool.and_true, Bool.true_or, Bool.or_false, Bool.false_or, Bool.or_true, if_true, if_false, Bool.false_eq_true, Bool.not_true, Bool.not_false]; done) | (simp_all [evEq]; done) | (simp_all [evEq] <;> omega))⟩
        · refine qs rfl rfl ?_
          refine qs rfl rfl ?_
          refine qs rfl rfl ?_
          refine qs rfl rfl ?_
          refine qs rfl rfl ?_
          first | refine qq rfl rfl (qr_pick_t rfl rfl) ?_ | refine qq rfl rfl (qr_pick_f rfl rfl) ?_ | refine qq rfl rfl (qr_pick_b rfl rfl rfl) ?_
          refine qq rfl rfl (qr_move rfl) ?_
          refine qs rfl rfl ?_
          refine qs rfl rfl ?_
          refine qs rfl rfl ?_
          refine qs rfl rfl ?_
          refine qs rfl rfl ?_
          first | refine qq rfl rfl (qr_pick_t rfl rfl) ?_ | refine qq rfl rfl (qr_pick_f rfl rfl) ?_ | refine qq rfl rfl (qr_pick_b rfl rfl rfl) ?_
          refine qq rfl rfl (qr_move rfl) ?_
          refine qs rfl rfl ?_
          refine qs rfl rfl ?_
          refine qs rfl rfl ?_
          refine qs rfl rfl ?_
          refine qs rfl rfl ?_
          first | refine qq rfl rfl (qr_pick_t rfl rfl) ?_ | refine qq rfl rfl (qr_pick_f rfl rfl) ?_ | refine qq rfl rfl (qr_pick_b rfl rfl rfl) ?_
          refine qq rfl rfl (qr_move rfl) ?_
          refine qs rfl rfl ?_
          refine qs rfl rfl ?_
          refine qs rfl rfl ?_
          refine qs rfl rfl ?_
          refine qs rfl rfl ?_
          first | refine qq rfl rfl (qr_pick_t rfl rfl) ?_ | refine qq rfl rfl (qr_pick_f rfl rfl) ?_ | refine qq rfl rfl (qr_pick_b rfl rfl rfl) ?_
          refine qq rfl rfl (qr_assign rfl) ?_
          refine aops_nil (thn_n ?_)
          refine aw_ret ?_
          exact retq (.cons _ _ _ _ (.tmp _ _ rfl) .nil) (.drop [_, _] _ _) ⟨rfl, congrArg bv (by first | (simp only [evEq, *, Bool.true_and, Bool.false_and, Bool.and_false, Bool.and_true, Bool.true_or, Bool.or_false, Bool.false_or, Bool.or_true, if_true, if_false, Bool.false_eq_true, Bool.not_true, Bool.not_false]; done) | (simp_all [evEq]; done) | (simp_all [evEq] <;> omega))⟩
      · refine qs rfl rfl ?_
        refine qs rfl rfl ?_
        refine qs rfl rfl ?_
        refine qs rfl rfl ?_
        refine qs rfl rfl ?_
        first | refine qq rfl rfl (qr_pick_t rfl rfl) ?_ | refine qq rfl rfl (qr_pick_f rfl rfl) ?_ | refine qq rfl rfl (qr_pick_b rfl rfl rfl) ?_
        refine qq rfl rfl (qr_assign rfl) ?_
        refine aops_nil (thn_n ?_)
        refine aw_seq (aw_region ?_)
        refine qq rfl rfl (qr_move rfl) ?_
        refine qq rfl rfl (qr_move rfl) ?_
        refine qs rfl rfl ?_
        refine qs rfl rfl ?_
        refine qs rfl rfl ?_
        refine qs rfl rfl ?_
        refine qs rfl rfl ?_
        first | refine qq rfl rfl (qr_pick_t rfl rfl) ?_ | refine qq rfl rfl (qr_pick_f rfl rfl) ?_ | refine qq rfl rfl (qr_pick_b rfl rfl rfl) ?_
        refine qq rfl rfl (qr_move rfl) ?_
        refine qs rfl rfl ?_
        refine qs rfl rfl ?_
        refine qs rfl rfl ?_
        refine qs rfl rfl ?_
        refine qs rfl rfl ?_
        first | refine qq rfl rfl (qr_pick_t rfl rfl) ?_ | refine qq rfl rfl (qr_pick_f rfl rfl) ?_ | refine qq rfl rfl (qr_pick_b rfl rfl rfl) ?_
        refine qq rfl rfl (qr_move rfl) ?_
        refine qs rfl rfl ?_
        refine qs rfl rfl ?_
        refine qs rfl rfl ?_
        refine qs rfl rfl ?_
        refine qs rfl rfl ?_
        first | refine qq rfl rfl (qr_pick_t rfl rfl) ?_ | refine qq rfl rfl (qr_pick_f rfl rfl) ?_ | refine qq rfl rfl (qr_pick_b rfl rfl rfl) ?_
        refine qq rfl rfl (qr_move rfl) ?_
        refine qs rfl rfl ?_
        refine qs rfl rfl ?_
        refine qs rfl rfl ?_
        refine qs rfl rfl ?_
        refine qs rfl rfl ?_
        first | refine qq rfl rfl (qr_pick_t rfl rfl) ?_ | refine qq rfl rfl (qr_pick_f rfl rfl) ?_ | refine qq rfl rfl (qr_pick_b rfl rfl rfl) ?_
        refine qq rfl rfl (qr_assign rfl) ?_
        refine aops_nil (thn_n ?_)
        refine aw_ret ?_
        exact retq (.cons _ _ _ _ (.tmp _ _ rfl) .nil) (.drop [_, _] _ _) ⟨rfl, congrArg bv (by first | (simp only [evEq, *, Bool.true_and, Bool.false_and, Bool.and_false, Bool.and_true, Bool.true_or, Bool.or_false, Bool.false_or, Bool.or_true, if_true, if_false, Bool.false_eq_true, Bool.not_true, Bool.not_false]; done) | (simp_all [evEq]; done) | (simp_all [evEq] <;> omega))⟩
    · refine qs rfl rfl ?_
      refine qs rfl rfl ?_
      refine qs rfl rfl ?_
      refine qs rfl rfl ?_
      refine qs rfl rfl ?_
      first | refine qq rfl rfl (qr_pick_t rfl rfl) ?_ | refine qq rfl rfl (qr_pick_f rfl rfl) ?_ | refine qq rfl rfl (qr_pick_b rfl rfl rfl) ?_
      refine qq rfl rfl (qr_move rfl) ?_
      refine qs rfl rfl ?_
      refine qs rfl rfl ?_
      refine qs rfl rfl ?_
      refine qs rfl rfl ?_
      refine qs rfl rfl ?_
      first | refine qq rfl rfl (qr_pick_t rfl rfl) ?_ | refine qq rfl rfl (qr_pick_f rfl rfl) ?_ | refine qq rfl rfl (qr_pick_b rfl rfl rfl) ?_
      refine qq rfl rfl (qr_assign rfl) ?_
      refine aops_nil (thn_n ?_)
      refine aw_seq (aw_region ?_)
      refine qq rfl rfl (qr_move rfl) ?_
      refine qq rfl rfl (qr_move rfl) ?_
      refine qs rfl rfl ?_
      refine qs rfl rfl ?_
      refine qs rfl rfl ?_
      refine qs rfl rfl ?_
      refine qs rfl rfl ?_
      first | refine qq rfl rfl (qr_pick_t rfl rfl) ?_ | refine qq rfl rfl (qr_pick_f rfl rfl) ?_ | refine qq rfl rfl (qr_pick_b rfl rfl rfl) ?_
      refine qq rfl rfl (qr_move rfl) ?_
      refine qs rfl rfl ?_
      refine qs rfl rfl ?_
      refine qs rfl rfl ?_
      refine qs rfl rfl ?_
      refine qs rfl rfl ?_
      first | refine qq rfl rfl (qr_pick_t rfl rfl) ?_ | refine qq rfl rfl (qr_pick_f rfl rfl) ?_ | refine qq rfl rfl (qr_pick_b rfl rfl rfl) ?_
      refine qq rfl rfl (qr_move rfl) ?_
      refine qs rfl rfl ?_
      refine qs rfl rfl ?_
      refine qs rfl rfl ?_
      refine qs rfl rfl ?_
      refine qs rfl rfl ?_
      first | refine qq rfl rfl (qr_pick_t rfl rfl) ?_ | refine qq rfl rfl (qr_pick_f rfl rfl) ?_ | refine qq rfl rfl (qr_pick_b rfl rfl rfl) ?_
      refine qq rfl rfl (qr_move rfl) ?_
      refine qs rfl rfl ?_
      refine qs rfl rfl ?_
      refine qs rfl rfl ?_
      refine qs rfl rfl ?_
      refine qs rfl rfl ?_
      first | refine qq rfl rfl (qr_pick_t rfl rfl) ?_ | refine qq rfl rfl (qr_pick_f rfl rfl) ?_ | refine qq rfl rfl (qr_pick_b rfl rfl rfl) ?_
      refine qq rfl rfl (qr_assign rfl) ?_
      refine aops_nil (thn_n ?_)
      refine aw_ret ?_
      exact retq (.cons _ _ _ _ (.tmp _ _ rfl) .nil) (.drop [_, _] _ _) ⟨rfl, congrArg bv (by first | (simp only [evEq, *, Bool.true_and, Bool.false_and, Bool.and_false, Bool.and_true, Bool.true_or, Bool.or_false, Bool.false_or, Bool.or_true, if_true, if_false, Bool.false_eq_true, Bool.not_true, Bool.not_false]; done) | (simp_all [evEq]; done) | (simp_all [evEq] <;> omega))⟩
  · refine qs rfl rfl ?_
    refine qs rfl rfl ?_
    refine qs rfl rfl ?_
    refine qs rfl rfl ?_
    refine qs rfl rfl ?_
    first | refine qq rfl rfl (qr_pick_t rfl rfl) ?_ | refine qq rfl rfl (qr_pick_f rfl rfl) ?_ | refine qq rfl rfl (qr_pick_b rfl rfl rfl) ?_
    refine qq rfl rfl (qr_move rfl) ?_
    refine qs rfl rfl ?_
    refine qs rfl rfl ?_
    refine qs rfl rfl ?_
    refine qs rfl rfl ?_
    refine qs rfl rfl ?_
    first | refine qq rfl rfl (qr_pick_t rfl rfl) ?_ | refine qq rfl rfl (qr_pick_f rfl rfl) ?_ | refine qq rfl rfl (qr_pick_b rfl rfl rfl) ?_
    refine qq rfl rfl (qr_move rfl) ?_
    refine qs rfl rfl ?_
    refine qs rfl rfl ?_
    refine qs rfl rfl ?_
    refine qs rfl rfl ?_
    refine qs rfl rfl ?_
    first | refine qq rfl rfl (qr_pick_t rfl rfl) ?_ | refine qq rfl rfl (qr_pick_f rfl rfl) ?_ | refine qq rfl rfl (qr_pick_b rfl rfl rfl) ?_
    refine qq rfl rfl (qr_assign rfl) ?_
    refine aops_nil (thn_n ?_)
    refine aw_seq (aw_region ?_)
    refine qq rfl rfl (qr_move rfl) ?_
    refine qq rfl rfl (qr_move rfl) ?_
    refine qs rfl rfl ?_
    refine qs rfl rfl ?_
    refine qs rfl rfl ?_
    refine qs rfl rfl ?_
    refine qs rfl rfl ?_
    first | refine qq rfl rfl (qr_pick_t rfl rfl) ?_ | refine qq rfl rfl (qr_pick_f rfl rfl) ?_ | refine qq rfl rfl (qr_pick_b rfl rfl rfl) ?_
    refine qq rfl rfl (qr_move rfl) ?_
    refine qs rfl rfl ?_
    refine qs rfl rfl ?_
    refine qs rfl rfl ?_
    refine qs rfl rfl ?_
    refine qs rfl rfl ?_
    first | refine qq rfl rfl (qr_pick_t rfl rfl) ?_ | refine qq rfl rfl (qr_pick_f rfl rfl) ?_ | refine qq rfl rfl (qr_pick_b rfl rfl rfl) ?_
    refine qq rfl rfl (qr_move rfl) ?_
    refine qs rfl rfl ?_
    refine qs rfl rfl ?_
    refine qs rfl rfl ?_
    refine qs rfl rfl ?_
    refine qs rfl rfl ?_
    first | refine qq rfl rfl (qr_pick_t rfl rfl) ?_ | refine qq rfl rfl (qr_pick_f rfl rfl) ?_ | refine qq rfl rfl (qr_pick_b rfl rfl rfl) ?_
    refine qq rfl rfl (qr_move rfl) ?_
    refine qs rfl rfl ?_
    refine qs rfl rfl ?_
    refine qs rfl rfl ?_
    refine qs rfl rfl ?_
    refine qs rfl rfl ?_
    first | refine qq rfl rfl (qr_pick_t rfl rfl) ?_ | refine qq rfl rfl (qr_pick_f rfl rfl) ?_ | refine qq rfl rfl (qr_pick_b rfl rfl rfl) ?_
    refine qq rfl rfl (qr_assign rfl) ?_
    refine aops_nil (thn_n ?_)
    refine aw_ret ?_
    exact retq (.cons _ _ _ _ (.tmp _ _ rfl) .nil) (.drop [_, _] _ _) ⟨rfl, congrArg bv (by first | (simp only [evEq, *, Bool.true_and, Bool.false_and, Bool.and_false, Bool.and_true, Bool.true_or, Bool.or_false, Bool.false_or, Bool.or_true, if_true, if_false, Bool.false_eq_true, Bool.not_true, Bool.not_false]; done) | (simp_all [evEq]; done) | (simp_all [evEq] <;> omega))⟩
theorem sameOrd (a b : H.Ord) (ha : a.ts.length ≤ 4611686018427387904) (hb : b.ts.length ≤ 4611686018427387904) : ACall Tryd.prog 25 [.agg (ordR a), .agg (ordR b)] [] (fun r h' => h' = [] ∧ r = bv (ordEq a b)) := by
  refine acall_of_aw Tryd.func25 rfl rfl rfl ?_
  refine aw_seq (aw_region ?_)
  refine aops_e rfl (oe_box rfl rfl rfl fun b2 => ?_)
  refine aops_e rfl (oe_box rfl rfl rfl fun b3 => ?_)
  refine qq rfl rfl (qr_assign rfl) ?_
  refine aops_nil (thn_n ?_)
  refine aw_seq (aw_region ?_)
  first | refine qq rfl rfl (qr_fieldAddr rfl (Nat.succ_ne_zero _)) ?_ | refine qq rfl rfl (qr_fieldAddr_pp rfl (Nat.succ_ne_zero _)) ?_ | refine qq rfl rfl (qr_fieldAddr_rp rfl (Nat.succ_ne_zero _)) ?_
  first | refine qq rfl rfl (qr_load_one rfl rfl) ?_ | refine qq rfl rfl (qr_load_pp_one rfl rfl) ?_
  first | refine qq rfl rfl (qr_fieldAddr rfl (Nat.succ_ne_zero _)) ?_ | refine qq rfl rfl (qr_fieldAddr_pp rfl (Nat.succ_ne_zero _)) ?_ | refine qq rfl rfl (qr_fieldAddr_rp rfl (Nat.succ_ne_zero _)) ?_
  first | refine qq rfl rfl (qr_load_one rfl rfl) ?_ | refine qq rfl rfl (qr_load_pp_one rfl rfl) ?_
  refine qq rfl rfl (qr_cmp rfl rfl rfl) ?_
  refine qq rfl rfl (qr_move rfl) ?_
  refine asplit (fun hg1_5 => ?_) (fun hg1_5 => ?_)
  · first | refine qq rfl rfl (qr_fieldAddr rfl (Nat.succ_ne_zero _)) ?_ | refine qq rfl rfl (qr_fieldAddr_pp rfl (Nat.succ_ne_zero _)) ?_ | refine qq rfl rfl (qr_fieldAddr_rp rfl (Nat.succ_ne_zero _)) ?_
    first | refine qq rfl rfl (qr_load_one rfl rfl) ?_ | refine qq rfl rfl (qr_load_pp_one rfl rfl) ?_
    first | refine qq rfl rfl (qr_fieldAddr rfl (Nat.succ_ne_zero _)) ?_ | refine qq rfl rfl (qr_fieldAddr_pp rfl (Nat.succ_ne_zero _)) ?_ | refine qq rfl rfl (qr_fieldAddr_rp rfl (Nat.succ_ne_zero _)) ?_
    first | refine qq rfl rfl (qr_load_one rfl rfl) ?_ | refine qq rfl rfl (qr_load_pp_one rfl rfl) ?_
    refine qv rfl rfl (qv_call rfl rfl (pcall (equalInt _ _ ha hb) (Sbs.refl _))) ?_
    first | refine qq rfl rfl (qr_pick_t rfl rfl) ?_ | refine qq rfl rfl (qr_pick_f rfl rfl) ?_ | refine qq rfl rfl (qr_pick_b rfl rfl rfl) ?_
    refine qq rfl rfl (qr_assign rfl) ?_
    refine aops_nil (thn_n ?_)
    refine aw_ret ?_
    exact retq (.cons _ _ _ _ (.tmp _ _ rfl) .nil) (.drop [_, _] _ _) ⟨rfl, congrArg bv (by first | (simp only [ordEq, *, Bool.true_and, Bool.false_and, Bool.and_false, Bool.and_true, Bool.true_or, Bool.or_false, Bool.false_or, Bool.or_true, if_true, if_false, Bool.false_eq_true, Bool.not_true, Bool.not_false]; done) | (simp_all [ordEq]; done) | (simp_all [ordEq] <;> omega))⟩
  · refine qs rfl rfl ?_
    refine qs rfl rfl ?_
    refine qs rfl rfl ?_
    refine qs rfl rfl ?_
    refine qs rfl rfl ?_
    first | refine qq rfl rfl (qr_pick_t rfl rfl) ?_ | refine qq rfl rfl (qr_pick_f rfl rfl) ?_ | refine qq rfl rfl (qr_pick_b rfl rfl rfl) ?_
    refine qq rfl rfl (qr_assign rfl) ?_
    refine aops_nil (thn_n ?_)
    refine aw_ret ?_
    exact retq (.cons _ _ _ _ (.tmp _ _ rfl) .nil) (.drop [_, _] _ _) ⟨rfl, congrArg bv (by first | (simp only [ordEq, *, Bool.true_and, Bool.false_and, Bool.and_false, Bool.and_true, Bool.true_or, Bool.or_false, Bool.false_or, Bool.or_true, if_true, if_false, Bool.false_eq_true, Bool.not_true, Bool.not_false]; done) | (simp_all [ordEq]; done) | (simp_all [ordEq] <;> omega))⟩
theorem sameMat (a b : Mat) (ha : a.ts.length ≤ 4611686018427387904) (hb : b.ts.length ≤ 4611686018427387904) : ACall Tryd.prog 27 [.agg (matR a), .agg (matR b)] [] (fun r h' => h' = [] ∧ r = bv (matEq a b)) := by
  refine acall_of_aw Tryd.func27 rfl rfl rfl ?_
  refine aw_seq (aw_region ?_)
  refine aops_e rfl (oe_box rfl rfl rfl fun b2 => ?_)
  refine aops_e rfl (oe_box rfl rfl rfl fun b3 => ?_)
  refine qq rfl rfl (qr_assign rfl) ?_
  refine aops_nil (thn_n ?_)
  refine aw_seq (aw_region ?_)
  first | refine qq rfl rfl (qr_fieldAddr rfl (Nat.succ_ne_zero _)) ?_ | refine qq rfl rfl (qr_fieldAddr_pp rfl (Nat.succ_ne_zero _)) ?_ | refine qq rfl rfl (qr_fieldAddr_rp rfl (Nat.succ_ne_zero _)) ?_
  first | refine qq rfl rfl (qr_load_one rfl rfl) ?_ | refine qq rfl rfl (qr_load_pp_one rfl rfl) ?_
  first | refine qq rfl rfl (qr_fieldAddr rfl (Nat.succ_ne_zero _)) ?_ | refine qq rfl rfl (qr_fieldAddr_pp rfl (Nat.succ_ne_zero _)) ?_ | refine qq rfl rfl (qr_fieldAddr_rp rfl (Nat.succ_ne_zero _)) ?_
  first | refine qq rfl rfl (qr_load_one rfl rfl) ?_ | refine qq rfl rfl (qr_load_pp_one rfl rfl) ?_
  refine qq rfl rfl (qr_cmp rfl rfl rfl) ?_
  refine qq rfl rfl (qr_move rfl) ?_
  refine asplit (fun hg1_5 => ?_) (fun hg1_5 => ?_)
  · first | refine qq rfl rfl (qr_fieldAddr rfl (Nat.succ_ne_zero _)) ?_ | refine qq rfl rfl (qr_fieldAddr_pp rfl (Nat.succ_ne_zero _)) ?_ | refine qq rfl rfl (qr_fieldAddr_rp rfl (Nat.succ_ne_zero _)) ?_
    first | refine qq rfl rfl (qr_load_one rfl rfl) ?_ | refine qq rfl rfl (qr_load_pp_one rfl rfl) ?_
    first | refine qq rfl rfl (qr_fieldAddr rfl (Nat.succ_ne_zero _)) ?_ | refine qq rfl rfl (qr_fieldAddr_pp rfl (Nat.succ_ne_zero _)) ?_ | refine qq rfl rfl (qr_fieldAddr_rp rfl (Nat.succ_ne_zero _)) ?_
    first | refine qq rfl rfl (qr_load_one rfl rfl) ?_ | refine qq rfl rfl (qr_load_pp_one rfl rfl) ?_
    refine qq rfl rfl (qr_cmp rfl rfl rfl) ?_
    first | refine qq rfl rfl (qr_pick_t rfl rfl) ?_ | refine qq rfl rfl (qr_pick_f rfl rfl) ?_ | refine qq rfl rfl (qr_pick_b rfl rfl rfl) ?_
    refine qq rfl rfl (qr_move rfl) ?_
    refine asplit (fun hg1_12 => ?_) (fun hg1_12 => ?_)
    · first | refine qq rfl rfl (qr_fieldAddr rfl (Nat.succ_ne_zero _)) ?_ | refine qq rfl rfl (qr_fieldAddr_pp rfl (Nat.succ_ne_zero _)) ?_ | refine qq rfl rfl (qr_fieldAddr_rp rfl (Nat.succ_ne_zero _)) ?_
      first | refine qq rfl rfl (qr_load_one rfl rfl) ?_ | refine qq rfl rfl (qr_load_pp_one rfl rfl) ?_
      first | refine qq rfl rfl (qr_fieldAddr rfl (Nat.succ_ne_zero _)) ?_ | refine qq rfl rfl (qr_fieldAddr_pp rfl (Nat.succ_ne_zero _)) ?_ | refine qq rfl rfl (qr_fieldAddr_rp rfl (Nat.succ_ne_zero _)) ?_
      first | refine qq rfl rfl (qr_load_one rfl rfl) ?_ | refine qq rfl rfl (qr_load_pp_one rfl rfl) ?_
      refine qq rfl rfl (qr_eqbool rfl rfl rfl) ?_
      first | refine qq rfl rfl (qr_pick_t rfl rfl) ?_ | refine qq rfl rfl (qr_pick_f rfl rfl) ?_ | refine qq rfl rfl (qr_pick_b rfl rfl rfl) ?_
      refine qq rfl rfl (qr_move rfl) ?_
      refine asplit (fun hg1_19 => ?_) (fun hg1_19 => ?_)
      · first | refine qq rfl rfl (qr_fieldAddr rfl (Nat.succ_ne_zero _)) ?_ | refine qq rfl rfl (qr_fieldAddr_pp rfl (Nat.succ_ne_zero _)) ?_ | refine qq rfl rfl (qr_fieldAddr_rp rfl (Nat.succ_ne_zero _)) ?_
        first | refine qq rfl rfl (qr_load_one rfl rfl) ?_ | refine qq rfl rfl (qr_load_pp_one rfl rfl) ?_
        first | refine qq rfl rfl (qr_fieldAddr rfl (Nat.succ_ne_zero _)) ?_ | refine qq rfl rfl (qr_fieldAddr_pp rfl (Nat.succ_ne_zero _)) ?_ | refine qq rfl rfl (qr_fieldAddr_rp rfl (Nat.succ_ne_zero _)) ?_
        first | refine qq rfl rfl (qr_load_one rfl rfl) ?_ | refine qq rfl rfl (qr_load_pp_one rfl rfl) ?_
        refine qv rfl rfl (qv_call rfl rfl (pcall (equalInt _ _ ha hb) (Sbs.refl _))) ?_
        first | refine qq rfl rfl (qr_pick_t rfl rfl) ?_ | refine qq rfl rfl (qr_pick_f rfl rfl) ?_ | refine qq rfl rfl (qr_pick_b rfl rfl rfl) ?_
        refine qq rfl rfl (qr_assign rfl) ?_
        refine aops_nil (thn_n ?_)
        refine aw_ret ?_
        exact retq (.cons _ _ _ _ (.tmp _ _ rfl) .nil) (.drop [_, _] _ _) ⟨rfl, congrArg bv (by first | (simp only [matEq, *, Bool.true_and, Bool.false_and, Bool.and_false, Bool.and_true, Bool.true_or, Bool.or_false, Bool.false_or, Bool.or_true, if_true, if_false, Bool.false_eq_true, Bool.not_true, Bool.not_false]; done) | (simp_all [matEq]; done) | (simp_all [matEq] <;> omega))⟩
      · refine qs rfl rfl ?_
        refine qs rfl rfl ?_
        refine qs rfl rfl ?_
        refine qs rfl rfl ?_
        refine qs rfl rfl ?_
        first | refine qq rfl rfl (qr_pick_t rfl rfl) ?_ | refine qq rfl rfl (qr_pick_f rfl rfl) ?_ | refine qq rfl rfl (qr_pick_b rfl rfl rfl) ?_
        refine qq rfl rfl (qr_assign rfl) ?_
        refine aops_nil (thn_n ?_)
        refine aw_ret ?_
        exact retq (.cons _ _ _ _ (.tmp _ _ rfl) .nil) (.drop [_, _] _ _) ⟨rfl, congrArg bv (by first | (simp only [matEq, *, Bool.true_and, Bool.false_and, Bool.and_false, Bool.and_true, Bool.true_or, Bool.or_false, Bool.false_or, Bool.or_true, if_true, if_false, Bool.false_eq_true, Bool.not_true, Bool.not_false]; done) | (simp_all [matEq]; done) | (simp_all [matEq] <;> omega))⟩
    · refine qs rfl rfl ?_
      refine qs rfl rfl ?_
      refine qs rfl rfl ?_
      refine qs rfl rfl ?_
      refine qs rfl rfl ?_
      first | refine qq rfl rfl (qr_pick_t rfl rfl) ?_ | refine qq rfl rfl (qr_pick_f rfl rfl) ?_ | refine qq rfl rfl (qr_pick_b rfl rfl rfl) ?_
      refine qq rfl rfl (qr_move rfl) ?_
      refine qs rfl rfl ?_
      refine qs rfl rfl ?_
      refine qs rfl rfl ?_
      refine qs rfl rfl ?_
      refine qs rfl rfl ?_
      first | refine qq rfl rfl (qr_pick_t rfl rfl) ?_ | refine qq rfl rfl (qr_pick_f rfl rfl) ?_ | refine qq rfl rfl (qr_pick_b rfl rfl rfl) ?_
      refine qq rfl rfl (qr_assign rfl) ?_
      refine aops_nil (thn_n ?_)
      refine aw_ret ?_
      exact retq (.cons _ _ _ _ (.tmp _ _ rfl) .nil) (.drop [_, _] _ _) ⟨rfl, congrArg bv (by first | (simp only [matEq, *, Bool.true_and, Bool.false_and, Bool.and_false, Bool.and_true, Bool.true_or, Bool.or_false, Bool.false_or, Bool.or_true, if_true, if_false, Bool.false_eq_true, Bool.not_true, Bool.not_false]; done) | (simp_all [matEq]; done) | (simp_all [matEq] <;> omega))⟩
  · refine qs rfl rfl ?_
    refine qs rfl rfl ?_
    refine qs rfl rfl ?_
    refine qs rfl rfl ?_
    refine qs rfl rfl ?_
    first | refine qq rfl rfl (qr_pick_t rfl rfl) ?_ | refine qq rfl rfl (qr_pick_f rfl rfl) ?_ | refine qq rfl rfl (qr_pick_b rfl rfl rfl) ?_
    refine qq rfl rfl (qr_move rfl) ?_
    refine qs rfl rfl ?_
    refine qs rfl rfl ?_
    refine qs rfl rfl ?_
    refine qs rfl rfl ?_
    refine qs rfl rfl ?_
    first | refine qq rfl rfl (qr_pick_t rfl rfl) ?_ | refine qq rfl rfl (qr_pick_f rfl rfl) ?_ | refine qq rfl rfl (qr_pick_b rfl rfl rfl) ?_
    refine qq rfl rfl (qr_move rfl) ?_
    refine qs rfl rfl ?_
    refine qs rfl rfl ?_
    refine qs rfl rfl ?_
    refine qs rfl rfl ?_
    refine qs rfl rfl ?_
    first | refine qq rfl rfl (qr_pick_t rfl rfl) ?_ | refine qq rfl rfl (qr_pick_f rfl rfl) ?_ | refine qq rfl rfl (qr_pick_b rfl rfl rfl) ?_
    refine qq rfl rfl (qr_assign rfl) ?_
    refine aops_nil (thn_n ?_)
    refine aw_ret ?_
    exact retq (.cons _ _ _ _ (.tmp _ _ rfl) .nil) (.drop [_, _] _ _) ⟨rfl, congrArg bv (by first | (simp only [matEq, *, Bool.true_and, Bool.false_and, Bool.and_false, Bool.and_true, Bool.true_or, Bool.or_false, Bool.false_or, Bool.or_true, if_true, if_false, Bool.false_eq_true, Bool.not_true, Bool.not_false]; done) | (simp_all [matEq]; done) | (simp_all [matEq] <;> omega))⟩
end Go.Proofs
/- The walks of package lex. Conditions: none. -/
set_option linter.unusedVariables false
set_option linter.unusedSimpArgs false
set_option maxRecDepth 10000
namespace Go.Proofs
open Go Go.Ab
open Go.H
theorem runeTold (s : ByteArray) (i : Nat) (c : Int) (bs bi bc : Nat) (hi : i ≤ s.size) : ACall Tryd.prog 85 [.v (.pointer (some ⟨bs, 0, none⟩)), .v (.pointer (some ⟨bi, 0, none⟩)), .v (.pointer (some ⟨bc, 0, none⟩))] [.box bs 9 [sv s], .box bi 3 [iv (i : Nat)], .box bc 21 [.v (.int .i32 c)], .glob 1 129 firstC, .glob 2 133 acceptC] (fun r h' => h' = [.box bs 9 [sv s], .box bi 3 [iv (i : Nat)], .box bc 21 [.v (.int .i32 c)], .glob 1 129 firstC, .glob 2 133 acceptC] ∧ r = .tup [.v (.int .i32 c), bv (toldF s i c)]) := by
  refine acall_of_aw Tryd.func85 rfl rfl rfl ?_
  refine aw_seq (aw_region ?_)
  refine qq rfl rfl (qr_assign rfl) ?_
  refine qq rfl rfl (qr_assign rfl) ?_
  refine aops_nil (thn_n ?_)
  refine aw_seq (aw_region ?_)
  first | refine qq rfl rfl (qr_load_one rfl rfl) ?_ | refine qq rfl rfl (qr_load_pp_one rfl rfl) ?_
  first | refine qq rfl rfl (qr_load_one rfl rfl) ?_ | refine qq rfl rfl (qr_load_pp_one rfl rfl) ?_
  refine qq rfl rfl (qr_slice_string_l rfl rfl hi) ?_
  refine qv rfl rfl (qv_call rfl rfl (FCall.quiet (R := fun x => x = _) (h2 := [_, _, _]) (List.perm_append_comm (l₁ := [_, _, _])) (FCall.of_fun (decodeRune (s.extract i s.size))))) ?_
  refine qq rfl rfl (qr_move rfl) ?_
  refine qq rfl rfl (qr_extract rfl rfl) ?_
  refine qq rfl rfl (qr_extract rfl rfl) ?_
  refine qq rfl rfl (qr_assign rfl) ?_
  refine qq rfl rfl (qr_assign rfl) ?_
  refine aops_nil (thn_n ?_)
  refine aw_seq (aw_region ?_)
  first | refine qq rfl rfl (qr_load_one rfl rfl) ?_ | refine qq rfl rfl (qr_load_pp_one rfl rfl) ?_
  first | refine qq rfl rfl (qr_load_one rfl rfl) ?_ | refine qq rfl rfl (qr_load_pp_one rfl rfl) ?_
  refine qq rfl rfl (qr_cmp rfl rfl rfl) ?_
  refine qq rfl rfl (qr_move rfl) ?_
  refine asplit (fun hg2_3 => ?_) (fun hg2_3 => ?_)
  · refine qs rfl rfl ?_
    refine qs rfl rfl ?_
    first | refine qq rfl rfl (qr_pick_t rfl rfl) ?_ | refine qq rfl rfl (qr_pick_f rfl rfl) ?_ | refine qq rfl rfl (qr_pick_b rfl rfl rfl) ?_
    refine qq rfl rfl (qr_assign rfl) ?_
    refine qq rfl rfl (qr_assign rfl) ?_
    refine aops_nil (thn_n ?_)
    refine aw_ret ?_
    exact retq (.cons _ _ _ _ (.tmp _ _ rfl) (.cons _ _ _ _ (.tmp _ _ rfl) .nil)) (.refl _ _) ⟨rfl, congrArg (fun b => AV.tup [.v (.int .i32 c), bv b]) (by first | (simp only [toldF, *, Bool.true_and, Bool.false_and, Bool.and_false, Bool.and_true, Bool.true_or, Bool.or_false, Bool.false_or, Bool.or_true, if_true, if_false, Bool.false_eq_true, Bool.not_true, Bool.not_false]; done) | (simp_all [toldF]; done))⟩
  · refine qq rfl rfl (qr_move rfl) ?_
    refine qq rfl rfl (qr_cmp rfl rfl rfl) ?_
    first | refine qq rfl rfl (qr_pick_t rfl rfl) ?_ | refine qq rfl rfl (qr_pick_f rfl rfl) ?_ | refine qq rfl rfl (qr_pick_b rfl rfl rfl) ?_
    refine qq rfl rfl (qr_assign rfl) ?_
    refine qq rfl rfl (qr_assign rfl) ?_
    refine aops_nil (thn_n ?_)
    refine aw_ret ?_
    exact retq (.cons _ _ _ _ (.tmp _ _ rfl) (.cons _ _ _ _ (.tmp _ _ rfl) .nil)) (.refl _ _) ⟨rfl, congrArg (fun b => AV.tup [.v (.int .i32 c), bv b]) (by first | (simp only [toldF, *, Bool.true_and, Bool.false_and, Bool.and_false, Bool.and_true, Bool.true_or, Bool.or_false, Bool.false_or, Bool.or_true, if_true, if_false, Bool.false_eq_true, Bool.not_true, Bool.not_false]; done) | (simp_all [toldF]; done))⟩
theorem runesIter (s : ByteArray) (bs : Nat) (y : AV) (p : Nat → Int → Bool) (I : List Res → Prop) (J : Nat → List Res → Prop) (hy : ∀ (i bi bc it : Nat) (L : List Res), i < s.size → I L → FCall Tryd.prog y [iv i, .fn (.func 85) [] [.v (.pointer (some ⟨bs, 0, none⟩)), .v (.pointer (some ⟨bi, 0, none⟩)), .v (.pointer (some ⟨bc, 0, none⟩))]] (.box bc 21 [.v (.int .i32 (Utf8.decode s i).1)] :: .box bi 3 [iv (i : Nat)] :: .obj it (.stringIter s (i + (Utf8.decode s i).2)) :: .box bs 9 [sv s] :: L) (fun r h' => ∃ L', h' = .box bc 21 [.v (.int .i32 (Utf8.decode s i).1)] :: .box bi 3 [iv (i : Nat)] :: .obj it (.stringIter s (i + (Utf8.decode s i).2)) :: .box bs 9 [sv s] :: L' ∧ ((p i (Utf8.decode s i).1 = true ∧ r = bv true ∧ I L') ∨ (p i (Utf8.decode s i).1 = false ∧ r = bv false ∧ J i L')))) (L0 : List Res) (h0 : I L0) : ACall Tryd.prog 84 [y, .v (.pointer (some ⟨bs, 0, none⟩))] (.box bs 9 [sv s] :: L0) (fun r h' => ∃ L', h' = .box bs 9 [sv s] :: L' ∧ ((whileF s p 0 = s.size ∧ I L') ∨ (whileF s p 0 < s.size ∧ J (whileF s p 0) L'))) := by
  refine acall_of_aw Tryd.func84 rfl rfl rfl ?_
  refine aw_seq (aw_region ?_)
  first | refine qq rfl rfl (qr_load_one rfl rfl) ?_ | refine qq rfl rfl (qr_load_pp_one rfl rfl) ?_
  refine aops_e rfl (oe_range_str rfl rfl fun b7 => ?_)
  refine aops_nil (thn_n ?_)
  refine aw_block ?_
  refine aw_loop' (fun x : Nat × List Res => whileF s p 0 = whileF s p x.1 ∧ I x.2) (fun x => ⟨[(7, .v (.pointer (some ⟨b7, 0, none⟩))), (0, y), (1, .v (.pointer (some ⟨bs, 0, none⟩)))], .obj b7 (.stringIter s x.1) :: .box bs 9 [sv s] :: x.2, []⟩) (fun x => s.size - x.1) (0, L0) ⟨rfl, h0⟩
    (ent_sub (.cons _ _ _ rfl (.cons _ _ _ rfl (.cons _ _ _ rfl (.nil))))) ?_
  rintro ⟨k, L⟩ ⟨hw, hI⟩
  simp only at hw hI
  refine aw_seq (aw_region ?_)
  refine aops_e rfl (oe_next_str rfl rfl (fun hp => ?_) (fun hp => ?_))
  · refine qq rfl rfl (qr_extract rfl rfl) ?_
    refine aops_nil (thn_n ?_)
    refine aw_seq ?_
    refine aw_cond rfl (fun hc9 => ?_) (fun hc9 => ?_)
    · first | cases hc9 | exact absurd hc9 (by decide)
    · refine aw_exit ?_
      refine thn_e ?_
      refine thn_e ?_
      refine inBlk_hit ?_
      exact retq_n .nil (.drop1 _ _ _) ⟨_, rfl, .inl ⟨by rw [hw, whileF_end hp], hI⟩⟩
  · refine qq rfl rfl (qr_extract rfl rfl) ?_
    refine aops_nil (thn_n ?_)
    refine aw_seq ?_
    refine aw_cond rfl (fun hc9 => ?_) (fun hc9 => ?_)
    · refine aw_skip ?_
      refine thn_n ?_
      refine aw_block ?_
      refine aw_seq (aw_region ?_)
      refine qq rfl rfl (qr_extract rfl rfl) ?_
      refine qq rfl rfl (qr_extract rfl rfl) ?_
      refine aops_e rfl (oe_alloc rfl fun b3 => ?_)
      refine aops_e rfl (oe_alloc rfl fun b4 => ?_)
      first | refine aops_e rfl (oe_store_all rfl rfl rfl ?_) | refine aops_e rfl (oe_store rfl rfl rfl rfl (Nat.le_of_ble_eq_true rfl) ?_)
      first | refine aops_e rfl (oe_store_all rfl rfl rfl ?_) | refine aops_e rfl (oe_store rfl rfl rfl rfl (Nat.le_of_ble_eq_true rfl) ?_)
      refine aops_nil (thn_n ?_)
      refine aw_seq (aw_region ?_)
      refine qq rfl rfl (qr_makeFunc rfl rfl) ?_
      refine qq rfl rfl (qr_assign rfl) ?_
      refine aops_nil (thn_n ?_)
      refine aw_seq (aw_region ?_)
      refine qq rfl rfl (qr_move rfl) ?_
      first | refine qq rfl rfl (qr_load_one rfl rfl) ?_ | refine qq rfl rfl (qr_load_pp_one rfl rfl) ?_
      refine qq rfl rfl (qr_move rfl) ?_
      refine aops_e rfl (oe_call rfl rfl (hy k b3 b4 b7 L hp hI) rfl ?_)
      rintro av h' ⟨L', rfl, ⟨hp1, rfl, hI2⟩ | ⟨hp1, rfl, hJ⟩⟩
      · refine qq rfl rfl (qr_not rfl) ?_
        refine aops_nil (thn_n ?_)
        refine aw_cond rfl (fun hc17 => ?_) (fun hc17 => ?_)
        · first | cases hc17 | exact absurd hc17 (by decide)
        · refine aw_skip ?_
          refine inBlk_n ?_
          refine thn_n ?_
          exact ⟨(k + (Utf8.decode s k).2, L'), ⟨hw.trans (whileF_go hp hp1), hI2⟩, (ent_trans (ent_drop (h1 := [_, _])) (ent_sub (.cons _ _ _ rfl (.cons _ _ _ rfl (.cons _ _ _ rfl (.nil)))))), by have := width_pos s k; simp only at hp ⊢; omega⟩
      · refine qq rfl rfl (qr_not rfl) ?_
        refine aops_nil (thn_n ?_)
        refine aw_cond rfl (fun hc17 => ?_) (fun hc17 => ?_)
        · refine aw_ret ?_
          refine inBlk_r ?_
          refine thn_r ?_
          refine inBlk_r ?_
          exact retq .nil (.drop [_, _, _] _ _) ⟨_, rfl, .inr (by rw [hw, whileF_stop hp hp1]; exact ⟨hp, hJ⟩)⟩
        · first | cases hc17 | exact absurd hc17 (by decide)
    · first | cases hc9 | exact absurd hc9 (by decide)
end Go.Proofs
/- The walks of lex.while and lex.Word. Conditions: none. -/
set_option linter.unusedVariables false
set_option linter.unusedSimpArgs false
set_option maxRecDepth 10000
namespace Go.Proofs
open Go Go.Ab
open Go.H
theorem runes (s : ByteArray) (h : List Res) : ACall Tryd.prog 75 [sv s] h (fun r h' => ∃ bs, h' = .box bs 9 [sv s] :: h ∧ r = .fn (.func 84) [] [.v (.pointer (some ⟨bs, 0, none⟩))]) := by
  refine acall_of_aw Tryd.func75 rfl rfl rfl ?_
  refine aw_seq (aw_region ?_)
  refine aops_e rfl (oe_box rfl rfl rfl fun b1 => ?_)
  refine qq rfl rfl (qr_assign rfl) ?_
  refine aops_nil (thn_n ?_)
  refine aw_seq (aw_region ?_)
  refine qq rfl rfl (qr_makeFunc rfl rfl) ?_
  refine qq rfl rfl (qr_assign rfl) ?_
  refine aops_nil (thn_n ?_)
  refine aw_ret ?_
  exact retq (.cons _ _ _ _ (.tmp _ _ rfl) .nil) (.refl _ _) ⟨_, rfl, rfl⟩
theorem lexWhile (s : ByteArray) (fv : AV) (g : Int → Bool) (hone : fv.cellsOf = some [fv]) (hgo : ∀ c h, FCall Tryd.prog fv [.v (.int .i32 c)] h (fun r h' => h' = h ∧ r = bv (g c))) : ACall Tryd.prog 53 [sv s, fv] [.glob 1 129 firstC, .glob 2 133 acceptC] (fun r h' => h' = [.glob 1 129 firstC, .glob 2 133 acceptC] ∧ r = iv (whileF s (okRune s g) 0 : Nat)) := by
  refine acall_of_aw Tryd.func53 rfl rfl rfl ?_
  refine aw_seq (aw_region ?_)
  refine aops_e rfl (oe_box rfl hone rfl fun b3 => ?_)
  refine qq rfl rfl (qr_assign rfl) ?_
  refine aops_nil (thn_n ?_)
  refine aw_scope ?_
  refine aw_seq (aw_region ?_)
  refine qq rfl rfl (qr_move rfl) ?_
  refine qq rfl rfl (qr_len_string rfl) ?_
  refine aops_e rfl (oe_alloc rfl fun b5 => ?_)
  first | refine aops_e rfl (oe_store_all rfl rfl rfl ?_) | refine aops_e rfl (oe_store rfl rfl rfl rfl (Nat.le_of_ble_eq_true rfl) ?_)
  refine aops_nil (thn_n ?_)
  refine aw_seq ?_
  refine aw_label ?_
  refine thn_n ?_
  refine aw_seq ?_
  refine aw_seq (aw_region ?_)
  refine qq rfl rfl (qr_move rfl) ?_
  refine aops_e rfl (oe_call rfl rfl (FCall.of_fun (runes s _)) rfl ?_)
  rintro _ _ ⟨bs, rfl, rfl⟩
  refine aops_nil (thn_n ?_)
  refine aw_block ?_
  refine aw_rf (fun pend h'' => (pend = none ∨ pend = some (.exit 0)) ∧ h'' = .box bs 9 [sv s] :: .box b5 3 [iv (whileF s (okRune s g) 0 : Nat)] :: .box b3 106 [fv] :: [.glob 1 129 firstC, .glob 2 133 acceptC]) rfl (fun fn l q lp hlp => ?_) (fun q h'' hK => ?_) (fun q h'' c hK => ?_)
  · suffices hy : ∀ (i bi bc it : Nat) (L : List Res), i < s.size → L = lp .ready none :: .defs q :: .box b5 3 [iv s.size] :: .box b3 106 [fv] :: [.glob 1 129 firstC, .glob 2 133 acceptC] → FCall Tryd.prog (yv l) [iv i, .fn (.func 85) [] [.v (.pointer (some ⟨bs, 0, none⟩)), .v (.pointer (some ⟨bi, 0, none⟩)), .v (.pointer (some ⟨bc, 0, none⟩))]] (.box bc 21 [.v (.int .i32 (Utf8.decode s i).1)] :: .box bi 3 [iv (i : Nat)] :: .obj it (.stringIter s (i + (Utf8.decode s i).2)) :: .box bs 9 [sv s] :: L)
        (fun r h' => ∃ L', h' = .box bc 21 [.v (.int .i32 (Utf8.decode s i).1)] :: .box bi 3 [iv (i : Nat)] :: .obj it (.stringIter s (i + (Utf8.decode s i).2)) :: .box bs 9 [sv s] :: L' ∧ ((okRune s g i (Utf8.decode s i).1 = true ∧ r = bv true ∧ L' = lp .ready none :: .defs q :: .box b5 3 [iv s.size] :: .box b3 106 [fv] :: [.glob 1 129 firstC, .glob 2 133 acceptC]) ∨ (okRune s g i (Utf8.decode s i).1 = false ∧ r = bv false ∧ L' = lp .done (some (.exit 0)) :: .defs q :: .box b5 3 [iv (i : Nat)] :: .box b3 106 [fv] :: [.glob 1 129 firstC, .glob 2 133 acceptC]))) by
      refine ACall.mono (ACall.perm (pt2 _ _ _ _) (runesIter s bs (yv l) (okRune s g) _ (fun i L => L = lp .done (some (.exit 0)) :: .defs q :: .box b5 3 [iv (i : Nat)] :: .box b3 106 [fv] :: [.glob 1 129 firstC, .glob 2 133 acceptC]) hy _ rfl)) ?_
      rintro _ _ ⟨L', rfl, ⟨hw, rfl⟩ | ⟨hw, rfl⟩⟩
      · exact ⟨_, _, _, (pt2 _ _ _ _).symm, by simp, .inl rfl, by rw [hw]⟩
      · exact ⟨_, _, _, (pt2 _ _ _ _).symm, by simp, .inr rfl, rfl⟩
    rintro i bi bc it _ hi rfl
    refine FCall.perm (pt4 _ _ _ _ _ _) (FCall.permR (fcall_yl hlp rfl rfl ?_))
    refine aw_seq (aw_region ?_)
    refine qq rfl rfl (qr_assign rfl) ?_
    refine aops_nil (thn_n ?_)
    refine aw_region ?_
    refine qq rfl rfl (qr_assign rfl) ?_
    refine aops_nil (thn_n ?_)
    refine ⟨[(6, iv (i : Nat)), (7, .fn (.func 85) [] [.v (.pointer (some ⟨bs, 0, none⟩)), .v (.pointer (some ⟨bi, 0, none⟩)), .v (.pointer (some ⟨bc, 0, none⟩))]), (5, .v (.pointer (some ⟨b5, 0, none⟩))), (3, .v (.pointer (some ⟨b3, 0, none⟩)))], ent_sub (.cons _ _ _ rfl (.cons _ _ _ rfl (.cons _ _ _ rfl (.cons _ _ _ rfl .nil)))), ?_⟩
    refine aw_block ?_
    refine aw_seq (aw_region ?_)
    refine qq rfl rfl (qr_move rfl) ?_
    refine qv rfl rfl (qv_call rfl rfl (FCall.qt (FCall.of_acall (fs := []) (cs := [.v (.pointer (some ⟨bs, 0, none⟩)), .v (.pointer (some ⟨bi, 0, none⟩)), .v (.pointer (some ⟨bc, 0, none⟩))]) (runeTold s i (Utf8.decode s i).1 bs bi bc (by omega))) ((pt4 _ _ _ _ _ _).trans (.cons _ ((pt2 _ _ _ _).trans (.cons _ ((pt1 _ _ _).trans (.cons _ ((pt5 _ _ _ _ _ _ _).trans (.cons _ (pt5 _ _ _ _ _ _ _))))))))))) ?_
    refine qq rfl rfl (qr_move rfl) ?_
    refine qq rfl rfl (qr_extract rfl rfl) ?_
    refine qq rfl rfl (qr_extract rfl rfl) ?_
    refine qq rfl rfl (qr_assign rfl) ?_
    refine qq rfl rfl (qr_assign rfl) ?_
    refine aops_nil (thn_n ?_)
    refine aw_seq (aw_region ?_)
    refine qq rfl rfl (qr_move rfl) ?_
    refine qq rfl rfl (qr_not rfl) ?_
    refine qq rfl rfl (qr_move rfl) ?_
    refine asplit (fun hg6_2 => ?_) (fun hg6_2 => ?_)
    · refine qs rfl rfl ?_
      refine qs rfl rfl ?_
      refine qs rfl rfl ?_
      refine qs rfl rfl ?_
      first | refine qq rfl rfl (qr_pick_t rfl rfl) ?_ | refine qq rfl rfl (qr_pick_f rfl rfl) ?_ | refine qq rfl rfl (qr_pick_b rfl rfl rfl) ?_
      refine aops_nil (thn_n ?_)
      refine aw_cond rfl (fun hc28 => ?_) (fun hc28 => ?_)
      · refine aw_seq (aw_region ?_)
        refine qq rfl rfl (qr_move rfl) ?_
        first | refine aops_e rfl (oe_store_all rfl rfl rfl ?_) | refine aops_e rfl (oe_store rfl rfl rfl rfl (Nat.le_of_ble_eq_true rfl) ?_)
        refine aops_nil (thn_n ?_)
        refine aw_exit ?_
        refine inBlk_miss rfl ?_
        exact round_e (.refl _) ⟨_, ((pt1 _ _ _).trans (.cons _ ((pt1 _ _ _).trans (.cons _ ((pt1 _ _ _).trans (.cons _ (pt1 _ _ _))))))), _, rfl, .inr ⟨by simp_all [okRune], rfl, rfl⟩⟩
      · first | cases hc28 | exact absurd hc28 (by decide)
    · first | refine qq rfl rfl (qr_load_one rfl rfl) ?_ | refine qq rfl rfl (qr_load_pp_one rfl rfl) ?_
      refine qq rfl rfl (qr_move rfl) ?_
      refine qv rfl rfl (qv_call rfl rfl (hgo _ _)) ?_
      refine qq rfl rfl (qr_not rfl) ?_
      first | refine qq rfl rfl (qr_pick_t rfl rfl) ?_ | refine qq rfl rfl (qr_pick_f rfl rfl) ?_ | refine qq rfl rfl (qr_pick_b rfl rfl rfl) ?_
      refine aops_nil (thn_n ?_)
      refine aw_cond rfl (fun hc28 => ?_) (fun hc28 => ?_)
      · refine aw_seq (aw_region ?_)
        refine qq rfl rfl (qr_move rfl) ?_
        first | refine aops_e rfl (oe_store_all rfl rfl rfl ?_) | refine aops_e rfl (oe_store rfl rfl rfl rfl (Nat.le_of_ble_eq_true rfl) ?_)
        refine aops_nil (thn_n ?_)
        refine aw_exit ?_
        refine inBlk_miss rfl ?_
        exact round_e (.refl _) ⟨_, ((pt1 _ _ _).trans (.cons _ ((pt1 _ _ _).trans (.cons _ ((pt1 _ _ _).trans (.cons _ (pt1 _ _ _))))))), _, rfl, .inr ⟨by simp_all [okRune], rfl, rfl⟩⟩
      · refine aw_skip ?_
        refine inBlk_n ?_
        exact round_n (.refl _) ⟨_, ((pt1 _ _ _).trans (.cons _ ((pt1 _ _ _).trans (.cons _ ((pt1 _ _ _).trans (.cons _ (pt1 _ _ _))))))), _, rfl, .inl ⟨by simp_all [okRune], rfl, rfl⟩⟩
  · obtain ⟨_, rfl⟩ := hK
    refine inBlk_n ?_
    refine thn_n ?_
    refine aw_seq (aw_region ?_)
    first | refine qq rfl rfl (qr_load_one rfl rfl) ?_ | refine qq rfl rfl (qr_load_pp_one rfl rfl) ?_
    refine qq rfl rfl (qr_assign rfl) ?_
    refine aops_nil (thn_n ?_)
    refine aw_ret ?_
    refine ⟨fun l h => (by cases h), ?_⟩
    exact retqd (.refl _) (.cons _ _ _ _ (.tmp _ _ rfl) .nil) (.drop [_, _, _] _ _) ⟨rfl, rfl⟩
  · obtain ⟨hc, rfl⟩ := hK
    obtain rfl : c = .exit 0 := by simpa using hc
    refine aw_exit ?_
    refine inBlk_hit ?_
    refine thn_n ?_
    refine aw_seq (aw_region ?_)
    first | refine qq rfl rfl (qr_load_one rfl rfl) ?_ | refine qq rfl rfl (qr_load_pp_one rfl rfl) ?_
    refine qq rfl rfl (qr_assign rfl) ?_
    refine aops_nil (thn_n ?_)
    refine aw_ret ?_
    refine ⟨fun l h => (by cases h), ?_⟩
    exact retqd (.refl _) (.cons _ _ _ _ (.tmp _ _ rfl) .nil) (.drop [_, _, _] _ _) ⟨rfl, rfl⟩
theorem word (s : ByteArray) : ACall Tryd.prog 32 [sv s] [.glob 1 129 firstC, .glob 2 133 acceptC] (fun r h' => h' = [.glob 1 129 firstC, .glob 2 133 acceptC] ∧ r = bv (wordB s)) := by
  refine acall_of_aw Tryd.func32 rfl rfl rfl ?_
  refine aw_seq (aw_region ?_)
  refine qq rfl rfl (qr_assign rfl) ?_
  refine aops_nil (thn_n ?_)
  refine aw_seq (aw_region ?_)
  refine qq rfl rfl (qr_move rfl) ?_
  refine qq rfl rfl (qr_nestr rfl rfl) ?_
  refine qq rfl rfl (qr_move rfl) ?_
  refine asplit (fun hg1_2 => ?_) (fun hg1_2 => ?_)
  · refine qq rfl rfl (qr_move rfl) ?_
    refine qq rfl rfl (qr_len_string rfl) ?_
    refine qq rfl rfl (qr_cmp rfl rfl rfl) ?_
    first | refine qq rfl rfl (qr_pick_t rfl rfl) ?_ | refine qq rfl rfl (qr_pick_f rfl rfl) ?_ | refine qq rfl rfl (qr_pick_b rfl rfl rfl) ?_
    refine qq rfl rfl (qr_move rfl) ?_
    refine asplit (fun hg1_7 => ?_) (fun hg1_7 => ?_)
    · refine qq rfl rfl (qr_move rfl) ?_
      have h1 : 0 < s.size := str_ne hg1_2
      refine qq rfl rfl (qr_index_bt 0 rfl rfl (by omega)) ?_
      refine qq rfl rfl (qr_convert rfl rfl) ?_
      refine qv rfl rfl (qv_call rfl rfl (pcall (lexNumber _) (Sbs.refl _))) ?_
      refine qq rfl rfl (qr_not rfl) ?_
      first | refine qq rfl rfl (qr_pick_t rfl rfl) ?_ | refine qq rfl rfl (qr_pick_f rfl rfl) ?_ | refine qq rfl rfl (qr_pick_b rfl rfl rfl) ?_
      refine qq rfl rfl (qr_move rfl) ?_
      refine asplit (fun hg1_14 => ?_) (fun hg1_14 => ?_)
      · refine qq rfl rfl (qr_move rfl) ?_
        refine qv rfl rfl (qv_call rfl rfl (FCall.of_fun (lexWhile s (.fn (.func 54) [] []) eitherB rfl (fun c h => (pcall (lexEither c) (Sbs.refl _)))))) ?_
        refine qq rfl rfl (qr_move rfl) ?_
        refine qq rfl rfl (qr_len_string rfl) ?_
        refine qq rfl rfl (qr_cmp rfl rfl rfl) ?_
        first | refine qq rfl rfl (qr_pick_t rfl rfl) ?_ | refine qq rfl rfl (qr_pick_f rfl rfl) ?_ | refine qq rfl rfl (qr_pick_b rfl rfl rfl) ?_
        refine qq rfl rfl (qr_assign rfl) ?_
        refine aops_nil (thn_n ?_)
        refine aw_ret ?_
        exact retq (.cons _ _ _ _ (.tmp _ _ rfl) .nil) (.refl _ _) ⟨rfl, congrArg bv (by first | (simp only [wordB, *, Bool.true_and, Bool.false_and, Bool.and_false, Bool.and_true, Bool.true_or, Bool.or_false, Bool.false_or, Bool.or_true, if_true, if_false, Bool.false_eq_true, Bool.not_true, Bool.not_false]; done) | (simp_all [wordB, bt_wrap]; done))⟩
      · refine qs rfl rfl ?_
        refine qs rfl rfl ?_
        refine qs rfl rfl ?_
        refine qs rfl rfl ?_
        refine qs rfl rfl ?_
        first | refine qq rfl rfl (qr_pick_t rfl rfl) ?_ | refine qq rfl rfl (qr_pick_f rfl rfl) ?_ | refine qq rfl rfl (qr_pick_b rfl rfl rfl) ?_
        refine qq rfl rfl (qr_assign rfl) ?_
        refine aops_nil (thn_n ?_)
        refine aw_ret ?_
        exact retq (.cons _ _ _ _ (.tmp _ _ rfl) .nil) (.refl _ _) ⟨rfl, congrArg bv (by first | (simp only [wordB, *, Bool.true_and, Bool.false_and, Bool.and_false, Bool.and_true, Bool.true_or, Bool.or_false, Bool.false_or, Bool.or_true, if_true, if_false, Bool.false_eq_true, Bool.not_true, Bool.not_false]; done) | (simp_all [wordB, bt_wrap]; done))⟩
    · refine qs rfl rfl ?_
      refine qs rfl rfl ?_
      refine qs rfl rfl ?_
      refine qs rfl rfl ?_
      refine qs rfl rfl ?_
      first | refine qq rfl rfl (qr_pick_t rfl rfl) ?_ | refine qq rfl rfl (qr_pick_f rfl rfl) ?_ | refine qq rfl rfl (qr_pick_b rfl rfl rfl) ?_
      refine qq rfl rfl (qr_move rfl) ?_
      refine qs rfl rfl ?_
      refine qs rfl rfl ?_
      refine qs rfl rfl ?_
      refine qs rfl rfl ?_
      refine qs rfl rfl ?_
      first | refine qq rfl rfl (qr_pick_t rfl rfl) ?_ | refine qq rfl rfl (qr_pick_f rfl rfl) ?_ | refine qq rfl rfl (qr_pick_b rfl rfl rfl) ?_
      refine qq rfl rfl (qr_assign rfl) ?_
      refine aops_nil (thn_n ?_)
      refine aw_ret ?_
      exact retq (.cons _ _ _ _ (.tmp _ _ rfl) .nil) (.refl _ _) ⟨rfl, congrArg bv (by first | (simp only [wordB, *, Bool.true_and, Bool.false_and, Bool.and_false, Bool.and_true, Bool.true_or, Bool.or_false, Bool.false_or, Bool.or_true, if_true, if_false, Bool.false_eq_true, Bool.not_true, Bool.not_false]; done) | (simp_all [wordB, bt_wrap]; done))⟩
  · refine qs rfl rfl ?_
    refine qs rfl rfl ?_
    refine qs rfl rfl ?_
    first | refine qq rfl rfl (qr_pick_t rfl rfl) ?_ | refine qq rfl rfl (qr_pick_f rfl rfl) ?_ | refine qq rfl rfl (qr_pick_b rfl rfl rfl) ?_
    refine qq rfl rfl (qr_move rfl) ?_
    refine qs rfl rfl ?_
    refine qs rfl rfl ?_
    refine qs rfl rfl ?_
    refine qs rfl rfl ?_
    refine qs rfl rfl ?_
    first | refine qq rfl rfl (qr_pick_t rfl rfl) ?_ | refine qq rfl rfl (qr_pick_f rfl rfl) ?_ | refine qq rfl rfl (qr_pick_b rfl rfl rfl) ?_
    refine qq rfl rfl (qr_move rfl) ?_
    refine qs rfl rfl ?_
    refine qs rfl rfl ?_
    refine qs rfl rfl ?_
    refine qs rfl rfl ?_
    refine qs rfl rfl ?_
    first | refine qq rfl rfl (qr_pick_t rfl rfl) ?_ | refine qq rfl rfl (qr_pick_f rfl rfl) ?_ | refine qq rfl rfl (qr_pick_b rfl rfl rfl) ?_
    refine qq rfl rfl (qr_assign rfl) ?_
    refine aops_nil (thn_n ?_)
    refine aw_ret ?_
    exact retq (.cons _ _ _ _ (.tmp _ _ rfl) .nil) (.refl _ _) ⟨rfl, congrArg bv (by first | (simp only [wordB, *, Bool.true_and, Bool.false_and, Bool.and_false, Bool.and_true, Bool.true_or, Bool.or_false, Bool.false_or, Bool.or_true, if_true, if_false, Bool.false_eq_true, Bool.not_true, Bool.not_false]; done) | (simp_all [wordB, bt_wrap]; done))⟩
end Go.Proofs
/- The walks of slices.IndexFunc, ContainsFunc and history.all. Conditions: none. -/
set_option linter.unusedVariables false
set_option linter.unusedSimpArgs false
set_option maxRecDepth 10000
namespace Go.Proofs
open Go Go.Ab
open Go.H
theorem indexFuncInt {full : Bool} (l : List Int) (fv : AV) (p : Int → Bool) (G : List Res) (hp : ∀ a ∈ l, FCall Tryd.prog fv [iv a] G (fun r h' => h' = G ∧ r = bv (p a))) (hlen : l.length ≤ 4611686018427387904) : ACall Tryd.prog 77 [.list full 1 (l.map intR), fv] G (fun r h' => h' = G ∧ r = iv (fidx p 0 l)) := by
  refine acall_of_aw Tryd.func77 rfl rfl rfl ?_
  refine aw_seq (aw_region ?_)
  refine qq rfl rfl (qr_assign rfl) ?_
  refine aops_nil (thn_n ?_)
  refine aw_seq ?_
  refine aw_seq (aw_region ?_)
  refine qq rfl rfl (qr_move rfl) ?_
  refine qq rfl rfl (qr_len_list rfl) ?_
  refine qq rfl rfl (qr_move rfl) ?_
  refine aops_nil (thn_n ?_)
  refine aw_block ?_
  refine aw_loop' (fun k : Nat => k ≤ l.length ∧ fidx p 0 l = fidx p k (l.drop k)) (fun k => ⟨[(8, iv k), (7, iv (l.map intR).length), (0, .list full 1 (l.map intR)), (1, fv)], G, []⟩) (fun k => l.length - k) 0 ⟨Nat.zero_le _, by simp⟩
    (ent_sub (.cons _ _ _ rfl (.cons _ _ _ rfl (.cons _ _ _ rfl (.cons _ _ _ rfl (.nil)))))) ?_
  rintro k ⟨hk, hnot⟩
  refine aw_seq (aw_region ?_)
  refine qq rfl rfl (qr_cmp rfl rfl rfl) ?_
  refine aops_nil (thn_n ?_)
  refine aw_seq ?_
  refine aw_cond rfl (fun hc9 => ?_) (fun hc9 => ?_)
  · have hk2 : k < l.length := by simpa using hc9
    have hrow : (l.map intR)[k]? = some (intR l[k]) := by simp [hk2]
    have hd := List.drop_eq_getElem_cons hk2
    refine aw_skip ?_
    refine thn_n ?_
    refine aw_seq ?_
    refine aw_block ?_
    refine aw_seq (aw_region ?_)
    refine qq rfl rfl (qr_move rfl) ?_
    refine qq rfl rfl (qr_assign rfl) ?_
    refine aops_nil (thn_n ?_)
    refine aw_seq (aw_region ?_)
    refine qq rfl rfl (qr_move rfl) ?_
    refine qq rfl rfl (qr_move rfl) ?_
    refine qq rfl rfl (qr_move rfl) ?_
    refine qq rfl rfl (qr_index_list rfl rfl (by assumption)) ?_
    first | refine qq rfl rfl (qr_load_one rfl rfl) ?_ | refine qq rfl rfl (qr_load_pp_one rfl rfl) ?_
    refine qv rfl rfl (qv_call rfl rfl (hp l[k] (by simp))) ?_
    refine aops_nil (thn_n ?_)
    refine aw_cond rfl (fun hc16 => ?_) (fun hc16 => ?_)
    · refine aw_seq (aw_region ?_)
      refine qq rfl rfl (qr_move rfl) ?_
      refine qq rfl rfl (qr_assign rfl) ?_
      refine aops_nil (thn_n ?_)
      refine aw_ret ?_
      refine inBlk_r ?_
      refine thn_r ?_
      refine thn_r ?_
      refine inBlk_r ?_
      refine thn_r ?_
      exact retq (.cons _ _ _ _ (.tmp _ _ rfl) .nil) (.refl _ _) ⟨rfl, by rw [hnot, hd, fidx, if_pos hc16]; rfl⟩
    · refine aw_skip ?_
      refine inBlk_n ?_
      refine thn_n ?_
      refine aw_region ?_
      refine qq rfl rfl (qr_ari rfl rfl rfl (by omega)) ?_
      refine qq rfl rfl (qr_move rfl) ?_
      refine aops_nil (thn_n ?_)
      exact ⟨k + 1, ⟨by omega, by rw [hnot, hd, fidx, if_neg (by simp [hc16])]⟩, (ent_sub (.cons _ _ _ rfl (.cons _ _ _ rfl (.cons _ _ _ rfl (.cons _ _ _ rfl (.nil)))))), by omega⟩
  · have hk3 : k = l.length := by
      have : l.length ≤ k := by simpa using hc9
      omega
    refine aw_exit ?_
    refine thn_e ?_
    refine thn_e ?_
    refine inBlk_hit ?_
    refine thn_n ?_
    refine aw_seq (aw_region ?_)
    refine qq rfl rfl (qr_assign rfl) ?_
    refine aops_nil (thn_n ?_)
    refine aw_ret ?_
    exact retq (.cons _ _ _ _ (.tmp _ _ rfl) .nil) (.refl _ _) ⟨rfl, by rw [hnot, hk3, List.drop_length, fidx]; rfl⟩
theorem containsFuncInt {full : Bool} (l : List Int) (fv : AV) (p : Int → Bool) (G : List Res) (hp : ∀ a ∈ l, FCall Tryd.prog fv [iv a] G (fun r h' => h' = G ∧ r = bv (p a))) (hlen : l.length ≤ 4611686018427387904) : ACall Tryd.prog 55 [.list full 1 (l.map intR), fv] G (fun r h' => h' = G ∧ r = bv (l.any p)) := by
  refine acall_of_aw Tryd.func55 rfl rfl rfl ?_
  refine aw_seq (aw_region ?_)
  refine qq rfl rfl (qr_assign rfl) ?_
  refine aops_nil (thn_n ?_)
  refine aw_seq (aw_region ?_)
  refine qq rfl rfl (qr_move rfl) ?_
  refine qq rfl rfl (qr_move rfl) ?_
  refine qv rfl rfl (qv_call rfl rfl (FCall.of_fun (indexFuncInt l _ p G hp hlen))) ?_
  refine qq rfl rfl (qr_cmp rfl rfl rfl) ?_
  refine qq rfl rfl (qr_assign rfl) ?_
  refine aops_nil (thn_n ?_)
  refine aw_ret ?_
  exact retq (.cons _ _ _ _ (.tmp _ _ rfl) .nil) (.refl _ _) ⟨rfl, by simp only [← fidx_ge p l 0]; rfl⟩
theorem allNotInt (a : Int) (fv : AV) (v : Bool) (b : Nat) (G : List Res) (hp : FCall Tryd.prog fv [iv a] G (fun r h' => h' = G ∧ r = bv v)) : ACall Tryd.prog 56 [iv a, .v (.pointer (some ⟨b, 0, none⟩))] (.box b 86 [fv] :: G) (fun r h' => h' = .box b 86 [fv] :: G ∧ r = bv (!v)) := by
  refine acall_of_aw Tryd.func56 rfl rfl rfl ?_
  refine aw_seq (aw_region ?_)
  refine qq rfl rfl (qr_assign rfl) ?_
  refine aops_nil (thn_n ?_)
  refine aw_seq (aw_region ?_)
  first | refine qq rfl rfl (qr_load_one rfl rfl) ?_ | refine qq rfl rfl (qr_load_pp_one rfl rfl) ?_
  refine qq rfl rfl (qr_move rfl) ?_
  refine qv rfl rfl (qv_call rfl rfl (FCall.quiet (R := fun x => x = bv v) (h2 := [_]) (List.perm_append_comm (l₁ := [_])) hp)) ?_
  refine qq rfl rfl (qr_not rfl) ?_
  refine qq rfl rfl (qr_assign rfl) ?_
  refine aops_nil (thn_n ?_)
  refine aw_ret ?_
  exact retq (.cons _ _ _ _ (.tmp _ _ rfl) .nil) (.refl _ _) ⟨rfl, rfl⟩
theorem allInt {full : Bool} (l : List Int) (fv : AV) (p : Int → Bool) (G : List Res) (hone : fv.cellsOf = some [fv]) (hp : ∀ a ∈ l, FCall Tryd.prog fv [iv a] G (fun r h' => h' = G ∧ r = bv (p a))) (hlen : l.length ≤ 4611686018427387904) : ACall Tryd.prog 34 [.list full 1 (l.map intR), fv] G (fun r h' => h' = G ∧ r = bv (l.all p)) := by
  refine acall_of_aw Tryd.func34 rfl rfl rfl ?_
  refine aw_seq (aw_region ?_)
  refine aops_e rfl (oe_box rfl hone rfl fun b3 => ?_)
  refine qq rfl rfl (qr_assign rfl) ?_
  refine aops_nil (thn_n ?_)
  refine aw_seq (aw_region ?_)
  refine qq rfl rfl (qr_move rfl) ?_
  refine qq rfl rfl (qr_makeFunc rfl rfl) ?_
  refine qv rfl rfl (qv_call rfl rfl (FCall.of_fun (containsFuncInt l _ (fun a => !p a) (.box b3 86 [fv] :: G) (fun a ha => FCall.of_acall (fs := []) (cs := [.v (.pointer (some ⟨b3, 0, none⟩))]) (allNotInt a fv (p a) b3 G (hp a ha))) hlen))) ?_
  refine qq rfl rfl (qr_not rfl) ?_
  refine qq rfl rfl (qr_assign rfl) ?_
  refine aops_nil (thn_n ?_)
  refine aw_ret ?_
  exact retq (.cons _ _ _ _ (.tmp _ _ rfl) .nil) (.drop1 _ _ _) ⟨rfl, by simp only [← any_not p l]; rfl⟩
theorem indexFuncEv {full : Bool} (l : List Ev) (fv : AV) (p : Ev → Bool) (G : List Res) (hp : ∀ a ∈ l, FCall Tryd.prog fv [.agg (evR a)] G (fun r h' => h' = G ∧ r = bv (p a))) (hlen : l.length ≤ 4611686018427387904) : ACall Tryd.prog 78 [.list full 9 (l.map evR), fv] G (fun r h' => h' = G ∧ r = iv (fidx p 0 l)) := by
  refine acall_of_aw Tryd.func78 rfl rfl rfl ?_
  refine aw_seq (aw_region ?_)
  refine qq rfl rfl (qr_assign rfl) ?_
  refine aops_nil (thn_n ?_)
  refine aw_seq ?_
  refine aw_seq (aw_region ?_)
  refine qq rfl rfl (qr_move rfl) ?_
  refine qq rfl rfl (qr_len_list rfl) ?_
  refine qq rfl rfl (qr_move rfl) ?_
  refine aops_nil (thn_n ?_)
  refine aw_block ?_
  refine aw_loop' (fun k : Nat => k ≤ l.length ∧ fidx p 0 l = fidx p k (l.drop k)) (fun k => ⟨[(8, iv k), (7, iv (l.map evR).length), (0, .list full 9 (l.map evR)), (1, fv)], G, []⟩) (fun k => l.length - k) 0 ⟨Nat.zero_le _, by simp⟩
    (ent_sub (.cons _ _ _ rfl (.cons _ _ _ rfl (.cons _ _ _ rfl (.cons _ _ _ rfl (.nil)))))) ?_
  rintro k ⟨hk, hnot⟩
  refine aw_seq (aw_region ?_)
  refine qq rfl rfl (qr_cmp rfl rfl rfl) ?_
  refine aops_nil (thn_n ?_)
  refine aw_seq ?_
  refine aw_cond rfl (fun hc9 => ?_) (fun hc9 => ?_)
  · have hk2 : k < l.length := by simpa using hc9
    have hrow : (l.map evR)[k]? = some (evR l[k]) := by simp [hk2]
    have hd := List.drop_eq_getElem_cons hk2
    refine aw_skip ?_
    refine thn_n ?_
    refine aw_seq ?_
    refine aw_block ?_
    refine aw_seq (aw_region ?_)
    refine qq rfl rfl (qr_move rfl) ?_
    refine qq rfl rfl (qr_assign rfl) ?_
    refine aops_nil (thn_n ?_)
    refine aw_seq (aw_region ?_)
    refine qq rfl rfl (qr_move rfl) ?_
    refine qq rfl rfl (qr_move rfl) ?_
    refine qq rfl rfl (qr_move rfl) ?_
    refine qq rfl rfl (qr_index_list rfl rfl (by assumption)) ?_
    first | refine qq rfl rfl (qr_load_all rfl rfl) ?_ | refine qq rfl rfl (qr_load_pp_all rfl rfl) ?_ | refine qq rfl rfl (qr_load_agg rfl (Nat.le_of_ble_eq_true rfl)) ?_ | refine qq rfl rfl (qr_load_pp_agg rfl (Nat.le_of_ble_eq_true rfl)) ?_
    refine qv rfl rfl (qv_call rfl rfl (hp l[k] (by simp))) ?_
    refine aops_nil (thn_n ?_)
    refine aw_cond rfl (fun hc16 => ?_) (fun hc16 => ?_)
    · refine aw_seq (aw_region ?_)
      refine qq rfl rfl (qr_move rfl) ?_
      refine qq rfl rfl (qr_assign rfl) ?_
      refine aops_nil (thn_n ?_)
      refine aw_ret ?_
      refine inBlk_r ?_
      refine thn_r ?_
      refine thn_r ?_
      refine inBlk_r ?_
      refine thn_r ?_
      exact retq (.cons _ _ _ _ (.tmp _ _ rfl) .nil) (.refl _ _) ⟨rfl, by rw [hnot, hd, fidx, if_pos hc16]; rfl⟩
    · refine aw_skip ?_
      refine inBlk_n ?_
      refine thn_n ?_
      refine aw_region ?_
      refine qq rfl rfl (qr_ari rfl rfl rfl (by omega)) ?_
      refine qq rfl rfl (qr_move rfl) ?_
      refine aops_nil (thn_n ?_)
      exact ⟨k + 1, ⟨by omega, by rw [hnot, hd, fidx, if_neg (by simp [hc16])]⟩, (ent_sub (.cons _ _ _ rfl (.cons _ _ _ rfl (.cons _ _ _ rfl (.cons _ _ _ rfl (.nil)))))), by omega⟩
  · have hk3 : k = l.length := by
      have : l.length ≤ k := by simpa using hc9
      omega
    refine aw_exit ?_
    refine thn_e ?_
    refine thn_e ?_
    refine inBlk_hit ?_
    refine thn_n ?_
    refine aw_seq (aw_region ?_)
    refine qq rfl rfl (qr_assign rfl) ?_
    refine aops_nil (thn_n ?_)
    refine aw_ret ?_
    exact retq (.cons _ _ _ _ (.tmp _ _ rfl) .nil) (.refl _ _) ⟨rfl, by rw [hnot, hk3, List.drop_length, fidx]; rfl⟩
theorem containsFuncEv {full : Bool} (l : List Ev) (fv : AV) (p : Ev → Bool) (G : List Res) (hp : ∀ a ∈ l, FCall Tryd.prog fv [.agg (evR a)] G (fun r h' => h' = G ∧ r = bv (p a))) (hlen : l.length ≤ 4611686018427387904) : ACall Tryd.prog 57 [.list full 9 (l.map evR), fv] G (fun r h' => h' = G ∧ r = bv (l.any p)) := by
  refine acall_of_aw Tryd.func57 rfl rfl rfl ?_
  refine aw_seq (aw_region ?_)
  refine qq rfl rfl (qr_assign rfl) ?_
  refine aops_nil (thn_n ?_)
  refine aw_seq (aw_region ?_)
  refine qq rfl rfl (qr_move rfl) ?_
  refine qq rfl rfl (qr_move rfl) ?_
  refine qv rfl rfl (qv_call rfl rfl (FCall.of_fun (indexFuncEv l _ p G hp hlen))) ?_
  refine qq rfl rfl (qr_cmp rfl rfl rfl) ?_
  refine qq rfl rfl (qr_assign rfl) ?_
  refine aops_nil (thn_n ?_)
  refine aw_ret ?_
  exact retq (.cons _ _ _ _ (.tmp _ _ rfl) .nil) (.refl _ _) ⟨rfl, by simp only [← fidx_ge p l 0]; rfl⟩
theorem allNotEv (a : Ev) (fv : AV) (v : Bool) (b : Nat) (G : List Res) (hp : FCall Tryd.prog fv [.agg (evR a)] G (fun r h' => h' = G ∧ r = bv v)) : ACall Tryd.prog 58 [.agg (evR a), .v (.pointer (some ⟨b, 0, none⟩))] (.box b 90 [fv] :: G) (fun r h' => h' = .box b 90 [fv] :: G ∧ r = bv (!v)) := by
  refine acall_of_aw Tryd.func58 rfl rfl rfl ?_
  refine aw_seq (aw_region ?_)
  refine aops_e rfl (oe_box rfl rfl rfl fun b2 => ?_)
  refine qq rfl rfl (qr_assign rfl) ?_
  refine aops_nil (thn_n ?_)
  refine aw_seq (aw_region ?_)
  first | refine qq rfl rfl (qr_load_one rfl rfl) ?_ | refine qq rfl rfl (qr_load_pp_one rfl rfl) ?_
  first | refine qq rfl rfl (qr_load_all rfl rfl) ?_ | refine qq rfl rfl (qr_load_pp_all rfl rfl) ?_ | refine qq rfl rfl (qr_load_agg rfl (Nat.le_of_ble_eq_true rfl)) ?_ | refine qq rfl rfl (qr_load_pp_agg rfl (Nat.le_of_ble_eq_true rfl)) ?_
  refine qv rfl rfl (qv_call rfl rfl (FCall.quiet (R := fun x => x = bv v) (h2 := [_, _]) (List.perm_append_comm (l₁ := [_, _])) hp)) ?_
  refine qq rfl rfl (qr_not rfl) ?_
  refine qq rfl rfl (qr_assign rfl) ?_
  refine aops_nil (thn_n ?_)
  refine aw_ret ?_
  exact retq (.cons _ _ _ _ (.tmp _ _ rfl) .nil) (.drop1 _ _ _) ⟨rfl, rfl⟩
theorem allEv {full : Bool} (l : List Ev) (fv : AV) (p : Ev → Bool) (G : List Res) (hone : fv.cellsOf = some [fv]) (hp : ∀ a ∈ l, FCall Tryd.prog fv [.agg (evR a)] G (fun r h' => h' = G ∧ r = bv (p a))) (hlen : l.length ≤ 4611686018427387904) : ACall Tryd.prog 37 [.list full 9 (l.map evR), fv] G (fun r h' => h' = G ∧ r = bv (l.all p)) := by
  refine acall_of_aw Tryd.func37 rfl rfl rfl ?_
  refine aw_seq (aw_region ?_)
  refine aops_e rfl (oe_box rfl hone rfl fun b3 => ?_)
  refine qq rfl rfl (qr_assign rfl) ?_
  refine aops_nil (thn_n ?_)
  refine aw_seq (aw_region ?_)
  refine qq rfl rfl (qr_move rfl) ?_
  refine qq rfl rfl (qr_makeFunc rfl rfl) ?_
  refine qv rfl rfl (qv_call rfl rfl (FCall.of_fun (containsFuncEv l _ (fun a => !p a) (.box b3 90 [fv] :: G) (fun a ha => FCall.of_acall (fs := []) (cs := [.v (.pointer (some ⟨b3, 0, none⟩))]) (allNotEv a fv (p a) b3 G (hp a ha))) hlen))) ?_
  refine qq rfl rfl (qr_not rfl) ?_
  refine qq rfl rfl (qr_assign rfl) ?_
  refine aops_nil (thn_n ?_)
  refine aw_ret ?_
  exact retq (.cons _ _ _ _ (.tmp _ _ rfl) .nil) (.drop1 _ _ _) ⟨rfl, by simp only [← any_not p l]; rfl⟩
theorem indexFuncOrd {full : Bool} (l : List Ord) (fv : AV) (p : Ord → Bool) (G : List Res) (hp : ∀ a ∈ l, FCall Tryd.prog fv [.agg (ordR a)] G (fun r h' => h' = G ∧ r = bv (p a))) (hlen : l.length ≤ 4611686018427387904) : ACall Tryd.prog 81 [.list full 2 (l.map ordR), fv] G (fun r h' => h' = G ∧ r = iv (fidx p 0 l)) := by
  refine acall_of_aw Tryd.func81 rfl rfl rfl ?_
  refine aw_seq (aw_region ?_)
  refine qq rfl rfl (qr_assign rfl) ?_
  refine aops_nil (thn_n ?_)
  refine aw_seq ?_
  refine aw_seq (aw_region ?_)
  refine qq rfl rfl (qr_move rfl) ?_
  refine qq rfl rfl (qr_len_list rfl) ?_
  refine qq rfl rfl (qr_move rfl) ?_
  refine aops_nil (thn_n ?_)
  refine aw_block ?_
  refine aw_loop' (fun k : Nat => k ≤ l.length ∧ fidx p 0 l = fidx p k (l.drop k)) (fun k => ⟨[(8, iv k), (7, iv (l.map ordR).length), (0, .list full 2 (l.map ordR)), (1, fv)], G, []⟩) (fun k => l.length - k) 0 ⟨Nat.zero_le _, by simp⟩
    (ent_sub (.cons _ _ _ rfl (.cons _ _ _ rfl (.cons _ _ _ rfl (.cons _ _ _ rfl (.nil)))))) ?_
  rintro k ⟨hk, hnot⟩
  refine aw_seq (aw_region ?_)
  refine qq rfl rfl (qr_cmp rfl rfl rfl) ?_
  refine aops_nil (thn_n ?_)
  refine aw_seq ?_
  refine aw_cond rfl (fun hc9 => ?_) (fun hc9 => ?_)
  · have hk2 : k < l.length := by simpa using hc9
    have hrow : (l.map ordR)[k]? = some (ordR l[k]) := by simp [hk2]
    have hd := List.drop_eq_getElem_cons hk2
    refine aw_skip ?_
    refine thn_n ?_
    refine aw_seq ?_
    refine aw_block ?_
    refine aw_seq (aw_region ?_)
    refine qq rfl rfl (qr_move rfl) ?_
    refine qq rfl rfl (qr_assign rfl) ?_
    refine aops_nil (thn_n ?_)
    refine aw_seq (aw_region ?_)
    refine qq rfl rfl (qr_move rfl) ?_
    refine qq rfl rfl (qr_move rfl) ?_
    refine qq rfl rfl (qr_move rfl) ?_
    refine qq rfl rfl (qr_index_list rfl rfl (by assumption)) ?_
    first | refine qq rfl rfl (qr_load_all rfl rfl) ?_ | refine qq rfl rfl (qr_load_pp_all rfl rfl) ?_ | refine qq rfl rfl (qr_load_agg rfl (Nat.le_of_ble_eq_true rfl)) ?_ | refine qq rfl rfl (qr_load_pp_agg rfl (Nat.le_of_ble_eq_true rfl)) ?_
    refine qv rfl rfl (qv_call rfl rfl (hp l[k] (by simp))) ?_
    refine aops_nil (thn_n ?_)
    refine aw_cond rfl (fun hc16 => ?_) (fun hc16 => ?_)
    · refine aw_seq (aw_region ?_)
      refine qq rfl rfl (qr_move rfl) ?_
      refine qq rfl rfl (qr_assign rfl) ?_
      refine aops_nil (thn_n ?_)
      refine aw_ret ?_
      refine inBlk_r ?_
      refine thn_r ?_
      refine thn_r ?_
      refine inBlk_r ?_
      refine thn_r ?_
      exact retq (.cons _ _ _ _ (.tmp _ _ rfl) .nil) (.refl _ _) ⟨rfl, by rw [hnot, hd, fidx, if_pos hc16]; rfl⟩
    · refine aw_skip ?_
      refine inBlk_n ?_
      refine thn_n ?_
      refine aw_region ?_
      refine qq rfl rfl (qr_ari rfl rfl rfl (by omega)) ?_
      refine qq rfl rfl (qr_move rfl) ?_
      refine aops_nil (thn_n ?_)
      exact ⟨k + 1, ⟨by omega, by rw [hnot, hd, fidx, if_neg (by simp [hc16])]⟩, (ent_sub (.cons _ _ _ rfl (.cons _ _ _ rfl (.cons _ _ _ rfl (.cons _ _ _ rfl (.nil)))))), by omega⟩
  · have hk3 : k = l.length := by
      have : l.length ≤ k := by simpa using hc9
      omega
    refine aw_exit ?_
    refine thn_e ?_
    refine thn_e ?_
    refine inBlk_hit ?_
    refine thn_n ?_
    refine aw_seq (aw_region ?_)
    refine qq rfl rfl (qr_assign rfl) ?_
    refine aops_nil (thn_n ?_)
    refine aw_ret ?_
    exact retq (.cons _ _ _ _ (.tmp _ _ rfl) .nil) (.refl _ _) ⟨rfl, by rw [hnot, hk3, List.drop_length, fidx]; rfl⟩
theorem containsFuncOrd {full : Bool} (l : List Ord) (fv : AV) (p : Ord → Bool) (G : List Res) (hp : ∀ a ∈ l, FCall Tryd.prog fv [.agg (ordR a)] G (fun r h' => h' = G ∧ r = bv (p a))) (hlen : l.length ≤ 4611686018427387904) : ACall Tryd.prog 69 [.list full 2 (l.map ordR), fv] G (fun r h' => h' = G ∧ r = bv (l.any p)) := by
  refine acall_of_aw Tryd.func69 rfl rfl rfl ?_
  refine aw_seq (aw_region ?_)
  refine qq rfl rfl (qr_assign rfl) ?_
  refine aops_nil (thn_n ?_)
  refine aw_seq (aw_region ?_)
  refine qq rfl rfl (qr_move rfl) ?_
  refine qq rfl rfl (qr_move rfl) ?_
  refine qv rfl rfl (qv_call rfl rfl (FCall.of_fun (indexFuncOrd l _ p G hp hlen))) ?_
  refine qq rfl rfl (qr_cmp rfl rfl rfl) ?_
  refine qq rfl rfl (qr_assign rfl) ?_
  refine aops_nil (thn_n ?_)
  refine aw_ret ?_
  exact retq (.cons _ _ _ _ (.tmp _ _ rfl) .nil) (.refl _ _) ⟨rfl, by simp only [← fidx_ge p l 0]; rfl⟩
theorem allNotOrd (a : Ord) (fv : AV) (v : Bool) (b : Nat) (G : List Res) (hp : FCall Tryd.prog fv [.agg (ordR a)] G (fun r h' => h' = G ∧ r = bv v)) : ACall Tryd.prog 70 [.agg (ordR a), .v (.pointer (some ⟨b, 0, none⟩))] (.box b 92 [fv] :: G) (fun r h' => h' = .box b 92 [fv] :: G ∧ r = bv (!v)) := by
  refine acall_of_aw Tryd.func70 rfl rfl rfl ?_
  refine aw_seq (aw_region ?_)
  refine aops_e rfl (oe_box rfl rfl rfl fun b2 => ?_)
  refine qq rfl rfl (qr_assign rfl) ?_
  refine aops_nil (thn_n ?_)
  refine aw_seq (aw_region ?_)
  first | refine qq rfl rfl (qr_load_one rfl rfl) ?_ | refine qq rfl rfl (qr_load_pp_one rfl rfl) ?_
  first | refine qq rfl rfl (qr_load_all rfl rfl) ?_ | refine qq rfl rfl (qr_load_pp_all rfl rfl) ?_ | refine qq rfl rfl (qr_load_agg rfl (Nat.le_of_ble_eq_true rfl)) ?_ | refine qq rfl rfl (qr_load_pp_agg rfl (Nat.le_of_ble_eq_true rfl)) ?_
  refine qv rfl rfl (qv_call rfl rfl (FCall.quiet (R := fun x => x = bv v) (h2 := [_, _]) (List.perm_append_comm (l₁ := [_, _])) hp)) ?_
  refine qq rfl rfl (qr_not rfl) ?_
  refine qq rfl rfl (qr_assign rfl) ?_
  refine aops_nil (thn_n ?_)
  refine aw_ret ?_
  exact retq (.cons _ _ _ _ (.tmp _ _ rfl) .nil) (.drop1 _ _ _) ⟨rfl, rfl⟩
theorem allOrd {full : Bool} (l : List Ord) (fv : AV) (p : Ord → Bool) (G : List Res) (hone : fv.cellsOf = some [fv]) (hp : ∀ a ∈ l, FCall Tryd.prog fv [.agg (ordR a)] G (fun r h' => h' = G ∧ r = bv (p a))) (hlen : l.length ≤ 4611686018427387904) : ACall Tryd.prog 40 [.list full 2 (l.map ordR), fv] G (fun r h' => h' = G ∧ r = bv (l.all p)) := by
  refine acall_of_aw Tryd.func40 rfl rfl rfl ?_
  refine aw_seq (aw_region ?_)
  refine aops_e rfl (oe_box rfl hone rfl fun b3 => ?_)
  refine qq rfl rfl (qr_assign rfl) ?_
  refine aops_nil (thn_n ?_)
  refine aw_seq (aw_region ?_)
  refine qq rfl rfl (qr_move rfl) ?_
  refine qq rfl rfl (qr_makeFunc rfl rfl) ?_
  refine qv rfl rfl (qv_call rfl rfl (FCall.of_fun (containsFuncOrd l _ (fun a => !p a) (.box b3 92 [fv] :: G) (fun a ha => FCall.of_acall (fs := []) (cs := [.v (.pointer (some ⟨b3, 0, none⟩))]) (allNotOrd a fv (p a) b3 G (hp a ha))) hlen))) ?_
  refine qq rfl rfl (qr_not rfl) ?_
  refine qq rfl rfl (qr_assign rfl) ?_
  refine aops_nil (thn_n ?_)
  refine aw_ret ?_
  exact retq (.cons _ _ _ _ (.tmp _ _ rfl) .nil) (.drop1 _ _ _) ⟨rfl, by simp only [← any_not p l]; rfl⟩
theorem indexFuncMat {full : Bool} (l : List Mat) (fv : AV) (p : Mat → Bool) (G : List Res) (hp : ∀ a ∈ l, FCall Tryd.prog fv [.agg (matR a)] G (fun r h' => h' = G ∧ r = bv (p a))) (hlen : l.length ≤ 4611686018427387904) : ACall Tryd.prog 82 [.list full 4 (l.map matR), fv] G (fun r h' => h' = G ∧ r = iv (fidx p 0 l)) := by
  refine acall_of_aw Tryd.func82 rfl rfl rfl ?_
  refine aw_seq (aw_region ?_)
  refine qq rfl rfl (qr_assign rfl) ?_
  refine aops_nil (thn_n ?_)
  refine aw_seq ?_
  refine aw_seq (aw_region ?_)
  refine qq rfl rfl (qr_move rfl) ?_
  refine qq rfl rfl (qr_len_list rfl) ?_
  refine qq rfl rfl (qr_move rfl) ?_
  refine aops_nil (thn_n ?_)
  refine aw_block ?_
  refine aw_loop' (fun k : Nat => k ≤ l.length ∧ fidx p 0 l = fidx p k (l.drop k)) (fun k => ⟨[(8, iv k), (7, iv (l.map matR).length), (0, .list full 4 (l.map matR)), (1, fv)], G, []⟩) (fun k => l.length - k) 0 ⟨Nat.zero_le _, by simp⟩
    (ent_sub (.cons _ _ _ rfl (.cons _ _ _ rfl (.cons _ _ _ rfl (.cons _ _ _ rfl (.nil)))))) ?_
  rintro k ⟨hk, hnot⟩
  refine aw_seq (aw_region ?_)
  refine qq rfl rfl (qr_cmp rfl rfl rfl) ?_
  refine aops_nil (thn_n ?_)
  refine aw_seq ?_
  refine aw_cond rfl (fun hc9 => ?_) (fun hc9 => ?_)
  · have hk2 : k < l.length := by simpa using hc9
    have hrow : (l.map matR)[k]? = some (matR l[k]) := by simp [hk2]
    have hd := List.drop_eq_getElem_cons hk2
    refine aw_skip ?_
    refine thn_n ?_
    refine aw_seq ?_
    refine aw_block ?_
    refine aw_seq (aw_region ?_)
    refine qq rfl rfl (qr_move rfl) ?_
    refine qq rfl rfl (qr_assign rfl) ?_
    refine aops_nil (thn_n ?_)
    refine aw_seq (aw_region ?_)
    refine qq rfl rfl (qr_move rfl) ?_
    refine qq rfl rfl (qr_move rfl) ?_
    refine qq rfl rfl (qr_move rfl) ?_
    refine qq rfl rfl (qr_index_list rfl rfl (by assumption)) ?_
    first | refine qq rfl rfl (qr_load_all rfl rfl) ?_ | refine qq rfl rfl (qr_load_pp_all rfl rfl) ?_ | refine qq rfl rfl (qr_load_agg rfl (Nat.le_of_ble_eq_true rfl)) ?_ | refine qq rfl rfl (qr_load_pp_agg rfl (Nat.le_of_ble_eq_true rfl)) ?_
    refine qv rfl rfl (qv_call rfl rfl (hp l[k] (by simp))) ?_
    refine aops_nil (thn_n ?_)
    refine aw_cond rfl (fun hc16 => ?_) (fun hc16 => ?_)
    · refine aw_seq (aw_region ?_)
      refine qq rfl rfl (qr_move rfl) ?_
      refine qq rfl rfl (qr_assign rfl) ?_
      refine aops_nil (thn_n ?_)
      refine aw_ret ?_
      refine inBlk_r ?_
      refine thn_r ?_
      refine thn_r ?_
      refine inBlk_r ?_
      refine thn_r ?_
      exact retq (.cons _ _ _ _ (.tmp _ _ rfl) .nil) (.refl _ _) ⟨rfl, by rw [hnot, hd, fidx, if_pos hc16]; rfl⟩
    · refine aw_skip ?_
      refine inBlk_n ?_
      refine thn_n ?_
      refine aw_region ?_
      refine qq rfl rfl (qr_ari rfl rfl rfl (by omega)) ?_
      refine qq rfl rfl (qr_move rfl) ?_
      refine aops_nil (thn_n ?_)
      exact ⟨k + 1, ⟨by omega, by rw [hnot, hd, fidx, if_neg (by simp [hc16])]⟩, (ent_sub (.cons _ _ _ rfl (.cons _ _ _ rfl (.cons _ _ _ rfl (.cons _ _ _ rfl (.nil)))))), by omega⟩
  · have hk3 : k = l.length := by
      have : l.length ≤ k := by simpa using hc9
      omega
    refine aw_exit ?_
    refine thn_e ?_
    refine thn_e ?_
    refine inBlk_hit ?_
    refine thn_n ?_
    refine aw_seq (aw_region ?_)
    refine qq rfl rfl (qr_assign rfl) ?_
    refine aops_nil (thn_n ?_)
    refine aw_ret ?_
    exact retq (.cons _ _ _ _ (.tmp _ _ rfl) .nil) (.refl _ _) ⟨rfl, by rw [hnot, hk3, List.drop_length, fidx]; rfl⟩
theorem containsFuncMat {full : Bool} (l : List Mat) (fv : AV) (p : Mat → Bool) (G : List Res) (hp : ∀ a ∈ l, FCall Tryd.prog fv [.agg (matR a)] G (fun r h' => h' = G ∧ r = bv (p a))) (hlen : l.length ≤ 4611686018427387904) : ACall Tryd.prog 71 [.list full 4 (l.map matR), fv] G (fun r h' => h' = G ∧ r = bv (l.any p)) := by
  refine acall_of_aw Tryd.func71 rfl rfl rfl ?_
  refine aw_seq (aw_region ?_)
  refine qq rfl rfl (qr_assign rfl) ?_
  refine aops_nil (thn_n ?_)
  refine aw_seq (aw_region ?_)
  refine qq rfl rfl (qr_move rfl) ?_
  refine qq rfl rfl (qr_move rfl) ?_
  refine qv rfl rfl (qv_call rfl rfl (FCall.of_fun (indexFuncMat l _ p G hp hlen))) ?_
  refine qq rfl rfl (qr_cmp rfl rfl rfl) ?_
  refine qq rfl rfl (qr_assign rfl) ?_
  refine aops_nil (thn_n ?_)
  refine aw_ret ?_
  exact retq (.cons _ _ _ _ (.tmp _ _ rfl) .nil) (.refl _ _) ⟨rfl, by simp only [← fidx_ge p l 0]; rfl⟩
theorem allNotMat (a : Mat) (fv : AV) (v : Bool) (b : Nat) (G : List Res) (hp : FCall Tryd.prog fv [.agg (matR a)] G (fun r h' => h' = G ∧ r = bv v)) : ACall Tryd.prog 72 [.agg (matR a), .v (.pointer (some ⟨b, 0, none⟩))] (.box b 94 [fv] :: G) (fun r h' => h' = .box b 94 [fv] :: G ∧ r = bv (!v)) := by
  refine acall_of_aw Tryd.func72 rfl rfl rfl ?_
  refine aw_seq (aw_region ?_)
  refine aops_e rfl (oe_box rfl rfl rfl fun b2 => ?_)
  refine qq rfl rfl (qr_assign rfl) ?_
  refine aops_nil (thn_n ?_)
  refine aw_seq (aw_region ?_)
  first | refine qq rfl rfl (qr_load_one rfl rfl) ?_ | refine qq rfl rfl (qr_load_pp_one rfl rfl) ?_
  first | refine qq rfl rfl (qr_load_all rfl rfl) ?_ | refine qq rfl rfl (qr_load_pp_all rfl rfl) ?_ | refine qq rfl rfl (qr_load_agg rfl (Nat.le_of_ble_eq_true rfl)) ?_ | refine qq rfl rfl (qr_load_pp_agg rfl (Nat.le_of_ble_eq_true rfl)) ?_
  refine qv rfl rfl (qv_call rfl rfl (FCall.quiet (R := fun x => x = bv v) (h2 := [_, _]) (List.perm_append_comm (l₁ := [_, _])) hp)) ?_
  refine qq rfl rfl (qr_not rfl) ?_
  refine qq rfl rfl (qr_assign rfl) ?_
  refine aops_nil (thn_n ?_)
  refine aw_ret ?_
  exact retq (.cons _ _ _ _ (.tmp _ _ rfl) .nil) (.drop1 _ _ _) ⟨rfl, rfl⟩
theorem allMat {full : Bool} (l : List Mat) (fv : AV) (p : Mat → Bool) (G : List Res) (hone : fv.cellsOf = some [fv]) (hp : ∀ a ∈ l, FCall Tryd.prog fv [.agg (matR a)] G (fun r h' => h' = G ∧ r = bv (p a))) (hlen : l.length ≤ 4611686018427387904) : ACall Tryd.prog 42 [.list full 4 (l.map matR), fv] G (fun r h' => h' = G ∧ r = bv (l.all p)) := by
  refine acall_of_aw Tryd.func42 rfl rfl rfl ?_
  refine aw_seq (aw_region ?_)
  refine aops_e rfl (oe_box rfl hone rfl fun b3 => ?_)
  refine qq rfl rfl (qr_assign rfl) ?_
  refine aops_nil (thn_n ?_)
  refine aw_seq (aw_region ?_)
  refine qq rfl rfl (qr_move rfl) ?_
  refine qq rfl rfl (qr_makeFunc rfl rfl) ?_
  refine qv rfl rfl (qv_call rfl rfl (FCall.of_fun (containsFuncMat l _ (fun a => !p a) (.box b3 94 [fv] :: G) (fun a ha => FCall.of_acall (fs := []) (cs := [.v (.pointer (some ⟨b3, 0, none⟩))]) (allNotMat a fv (p a) b3 G (hp a ha))) hlen))) ?_
  refine qq rfl rfl (qr_not rfl) ?_
  refine qq rfl rfl (qr_assign rfl) ?_
  refine aops_nil (thn_n ?_)
  refine aw_ret ?_
  exact retq (.cons _ _ _ _ (.tmp _ _ rfl) .nil) (.drop1 _ _ _) ⟨rfl, by simp only [← any_not p l]; rfl⟩
theorem indexFuncWan {full : Bool} (l : List Wan) (fv : AV) (p : Wan → Bool) (G : List Res) (hp : ∀ a ∈ l, FCall Tryd.prog fv [.agg (wanR a)] G (fun r h' => h' = G ∧ r = bv (p a))) (hlen : l.length ≤ 4611686018427387904) : ACall Tryd.prog 83 [.list full 2 (l.map wanR), fv] G (fun r h' => h' = G ∧ r = iv (fidx p 0 l)) := by
  refine acall_of_aw Tryd.func83 rfl rfl rfl ?_
  refine aw_seq (aw_region ?_)
  refine qq rfl rfl (qr_assign rfl) ?_
  refine aops_nil (thn_n ?_)
  refine aw_seq ?_
  refine aw_seq (aw_region ?_)
  refine qq rfl rfl (qr_move rfl) ?_
  refine qq rfl rfl (qr_len_list rfl) ?_
  refine qq rfl rfl (qr_move rfl) ?_
  refine aops_nil (thn_n ?_)
  refine aw_block ?_
  refine aw_loop' (fun k : Nat => k ≤ l.length ∧ fidx p 0 l = fidx p k (l.drop k)) (fun k => ⟨[(8, iv k), (7, iv (l.map wanR).length), (0, .list full 2 (l.map wanR)), (1, fv)], G, []⟩) (fun k => l.length - k) 0 ⟨Nat.zero_le _, by simp⟩
    (ent_sub (.cons _ _ _ rfl (.cons _ _ _ rfl (.cons _ _ _ rfl (.cons _ _ _ rfl (.nil)))))) ?_
  rintro k ⟨hk, hnot⟩
  refine aw_seq (aw_region ?_)
  refine qq rfl rfl (qr_cmp rfl rfl rfl) ?_
  refine aops_nil (thn_n ?_)
  refine aw_seq ?_
  refine aw_cond rfl (fun hc9 => ?_) (fun hc9 => ?_)
  · have hk2 : k < l.length := by simpa using hc9
    have hrow : (l.map wanR)[k]? = some (wanR l[k]) := by simp [hk2]
    have hd := List.drop_eq_getElem_cons hk2
    refine aw_skip ?_
    refine thn_n ?_
    refine aw_seq ?_
    refine aw_block ?_
    refine aw_seq (aw_region ?_)
    refine qq rfl rfl (qr_move rfl) ?_
    refine qq rfl rfl (qr_assign rfl) ?_
    refine aops_nil (thn_n ?_)
    refine aw_seq (aw_region ?_)
    refine qq rfl rfl (qr_move rfl) ?_
    refine qq rfl rfl (qr_move rfl) ?_
    refine qq rfl rfl (qr_move rfl) ?_
    refine qq rfl rfl (qr_index_list rfl rfl (by assumption)) ?_
    first | refine qq rfl rfl (qr_load_all rfl rfl) ?_ | refine qq rfl rfl (qr_load_pp_all rfl rfl) ?_ | refine qq rfl rfl (qr_load_agg rfl (Nat.le_of_ble_eq_true rfl)) ?_ | refine qq rfl rfl (qr_load_pp_agg rfl (Nat.le_of_ble_eq_true rfl)) ?_
    refine qv rfl rfl (qv_call rfl rfl (hp l[k] (by simp))) ?_
    refine aops_nil (thn_n ?_)
    refine aw_cond rfl (fun hc16 => ?_) (fun hc16 => ?_)
    · refine aw_seq (aw_region ?_)
      refine qq rfl rfl (qr_move rfl) ?_
      refine qq rfl rfl (qr_assign rfl) ?_
      refine aops_nil (thn_n ?_)
      refine aw_ret ?_
      refine inBlk_r ?_
      refine thn_r ?_
      refine thn_r ?_
      refine inBlk_r ?_
      refine thn_r ?_
      exact retq (.cons _ _ _ _ (.tmp _ _ rfl) .nil) (.refl _ _) ⟨rfl, by rw [hnot, hd, fidx, if_pos hc16]; rfl⟩
    · refine aw_skip ?_
      refine inBlk_n ?_
      refine thn_n ?_
      refine aw_region ?_
      refine qq rfl rfl (qr_ari rfl rfl rfl (by omega)) ?_
      refine qq rfl rfl (qr_move rfl) ?_
      refine aops_nil (thn_n ?_)
      exact ⟨k + 1, ⟨by omega, by rw [hnot, hd, fidx, if_neg (by simp [hc16])]⟩, (ent_sub (.cons _ _ _ rfl (.cons _ _ _ rfl (.cons _ _ _ rfl (.cons _ _ _ rfl (.nil)))))), by omega⟩
  · have hk3 : k = l.length := by
      have : l.length ≤ k := by simpa using hc9
      omega
    refine aw_exit ?_
    refine thn_e ?_
    refine thn_e ?_
    refine inBlk_hit ?_
    refine thn_n ?_
    refine aw_seq (aw_region ?_)
    refine qq rfl rfl (qr_assign rfl) ?_
    refine aops_nil (thn_n ?_)
    refine aw_ret ?_
    exact retq (.cons _ _ _ _ (.tmp _ _ rfl) .nil) (.refl _ _) ⟨rfl, by rw [hnot, hk3, List.drop_length, fidx]; rfl⟩
theorem containsFuncWan {full : Bool} (l : List Wan) (fv : AV) (p : Wan → Bool) (G : List Res) (hp : ∀ a ∈ l, FCall Tryd.prog fv [.agg (wanR a)] G (fun r h' => h' = G ∧ r = bv (p a))) (hlen : l.length ≤ 4611686018427387904) : ACall Tryd.prog 73 [.list full 2 (l.map wanR), fv] G (fun r h' => h' = G ∧ r = bv (l.any p)) := by
  refine acall_of_aw Tryd.func73 rfl rfl rfl ?_
  refine aw_seq (aw_region ?_)
  refine qq rfl rfl (qr_assign rfl) ?_
  refine aops_nil (thn_n ?_)
  refine aw_seq (aw_region ?_)
  refine qq rfl rfl (qr_move rfl) ?_
  refine qq rfl rfl (qr_move rfl) ?_
  refine qv rfl rfl (qv_call rfl rfl (FCall.of_fun (indexFuncWan l _ p G hp hlen))) ?_
  refine qq rfl rfl (qr_cmp rfl rfl rfl) ?_
  refine qq rfl rfl (qr_assign rfl) ?_
  refine aops_nil (thn_n ?_)
  refine aw_ret ?_
  exact retq (.cons _ _ _ _ (.tmp _ _ rfl) .nil) (.refl _ _) ⟨rfl, by simp only [← fidx_ge p l 0]; rfl⟩
theorem allNotWan (a : Wan) (fv : AV) (v : Bool) (b : Nat) (G : List Res) (hp : FCall Tryd.prog fv [.agg (wanR a)] G (fun r h' => h' = G ∧ r = bv v)) : ACall Tryd.prog 74 [.agg (wanR a), .v (.pointer (some ⟨b, 0, none⟩))] (.box b 96 [fv] :: G) (fun r h' => h' = .box b 96 [fv] :: G ∧ r = bv (!v)) := by
  refine acall_of_aw Tryd.func74 rfl rfl rfl ?_
  refine aw_seq (aw_region ?_)
  refine aops_e rfl (oe_box rfl rfl rfl fun b2 => ?_)
  refine qq rfl rfl (qr_assign rfl) ?_
  refine aops_nil (thn_n ?_)
  refine aw_seq (aw_region ?_)
  first | refine qq rfl rfl (qr_load_one rfl rfl) ?_ | refine qq rfl rfl (qr_load_pp_one rfl rfl) ?_
  first | refine qq rfl rfl (qr_load_all rfl rfl) ?_ | refine qq rfl rfl (qr_load_pp_all rfl rfl) ?_ | refine qq rfl rfl (qr_load_agg rfl (Nat.le_of_ble_eq_true rfl)) ?_ | refine qq rfl rfl (qr_load_pp_agg rfl (Nat.le_of_ble_eq_true rfl)) ?_
  refine qv rfl rfl (qv_call rfl rfl (FCall.quiet (R := fun x => x = bv v) (h2 := [_, _]) (List.perm_append_comm (l₁ := [_, _])) hp)) ?_
  refine qq rfl rfl (qr_not rfl) ?_
  refine qq rfl rfl (qr_assign rfl) ?_
  refine aops_nil (thn_n ?_)
  refine aw_ret ?_
  exact retq (.cons _ _ _ _ (.tmp _ _ rfl) .nil) (.drop1 _ _ _) ⟨rfl, rfl⟩
theorem allWan {full : Bool} (l : List Wan) (fv : AV) (p : Wan → Bool) (G : List Res) (hone : fv.cellsOf = some [fv]) (hp : ∀ a ∈ l, FCall Tryd.prog fv [.agg (wanR a)] G (fun r h' => h' = G ∧ r = bv (p a))) (hlen : l.length ≤ 4611686018427387904) : ACall Tryd.prog 44 [.list full 2 (l.map wanR), fv] G (fun r h' => h' = G ∧ r = bv (l.all p)) := by
  refine acall_of_aw Tryd.func44 rfl rfl rfl ?_
  refine aw_seq (aw_region ?_)
  refine aops_e rfl (oe_box rfl hone rfl fun b3 => ?_)
  refine qq rfl rfl (qr_assign rfl) ?_
  refine aops_nil (thn_n ?_)
  refine aw_seq (aw_region ?_)
  refine qq rfl rfl (qr_move rfl) ?_
  refine qq rfl rfl (qr_makeFunc rfl rfl) ?_
  refine qv rfl rfl (qv_call rfl rfl (FCall.of_fun (containsFuncWan l _ (fun a => !p a) (.box b3 96 [fv] :: G) (fun a ha => FCall.of_acall (fs := []) (cs := [.v (.pointer (some ⟨b3, 0, none⟩))]) (allNotWan a fv (p a) b3 G (hp a ha))) hlen))) ?_
  refine qq rfl rfl (qr_not rfl) ?_
  refine qq rfl rfl (qr_assign rfl) ?_
  refine aops_nil (thn_n ?_)
  refine aw_ret ?_
  exact retq (.cons _ _ _ _ (.tmp _ _ rfl) .nil) (.drop1 _ _ _) ⟨rfl, by simp only [← any_not p l]; rfl⟩
theorem indexFuncSeen {full : Bool} (l : List Seen) (fv : AV) (p : Seen → Bool) (G : List Res) (hp : ∀ a ∈ l, FCall Tryd.prog fv [.agg (seenR a)] G (fun r h' => h' = G ∧ r = bv (p a))) (hlen : l.length ≤ 4611686018427387904) : ACall Tryd.prog 87 [.list full 3 (l.map seenR), fv] G (fun r h' => h' = G ∧ r = iv (fidx p 0 l)) := by
  refine acall_of_aw Tryd.func87 rfl rfl rfl ?_
  refine aw_seq (aw_region ?_)
  refine qq rfl rfl (qr_assign rfl) ?_
  refine aops_nil (thn_n ?_)
  refine aw_seq ?_
  refine aw_seq (aw_region ?_)
  refine qq rfl rfl (qr_move rfl) ?_
  refine qq rfl rfl (qr_len_list rfl) ?_
  refine qq rfl rfl (qr_move rfl) ?_
  refine aops_nil (thn_n ?_)
  refine aw_block ?_
  refine aw_loop' (fun k : Nat => k ≤ l.length ∧ fidx p 0 l = fidx p k (l.drop k)) (fun k => ⟨[(8, iv k), (7, iv (l.map seenR).length), (0, .list full 3 (l.map seenR)), (1, fv)], G, []⟩) (fun k => l.length - k) 0 ⟨Nat.zero_le _, by simp⟩
    (ent_sub (.cons _ _ _ rfl (.cons _ _ _ rfl (.cons _ _ _ rfl (.cons _ _ _ rfl (.nil)))))) ?_
  rintro k ⟨hk, hnot⟩
  refine aw_seq (aw_region ?_)
  refine qq rfl rfl (qr_cmp rfl rfl rfl) ?_
  refine aops_nil (thn_n ?_)
  refine aw_seq ?_
  refine aw_cond rfl (fun hc9 => ?_) (fun hc9 => ?_)
  · have hk2 : k < l.length := by simpa using hc9
    have hrow : (l.map seenR)[k]? = some (seenR l[k]) := by simp [hk2]
    have hd := List.drop_eq_getElem_cons hk2
    refine aw_skip ?_
    refine thn_n ?_
    refine aw_seq ?_
    refine aw_block ?_
    refine aw_seq (aw_region ?_)
    refine qq rfl rfl (qr_move rfl) ?_
    refine qq rfl rfl (qr_assign rfl) ?_
    refine aops_nil (thn_n ?_)
    refine aw_seq (aw_region ?_)
    refine qq rfl rfl (qr_move rfl) ?_
    refine qq rfl rfl (qr_move rfl) ?_
    refine qq rfl rfl (qr_move rfl) ?_
    refine qq rfl rfl (qr_index_list rfl rfl (by assumption)) ?_
    first | refine qq rfl rfl (qr_load_all rfl rfl) ?_ | refine qq rfl rfl (qr_load_pp_all rfl rfl) ?_ | refine qq rfl rfl (qr_load_agg rfl (Nat.le_of_ble_eq_true rfl)) ?_ | refine qq rfl rfl (qr_load_pp_agg rfl (Nat.le_of_ble_eq_true rfl)) ?_
    refine qv rfl rfl (qv_call rfl rfl (hp l[k] (by simp))) ?_
    refine aops_nil (thn_n ?_)
    refine aw_cond rfl (fun hc16 => ?_) (fun hc16 => ?_)
    · refine aw_seq (aw_region ?_)
      refine qq rfl rfl (qr_move rfl) ?_
      refine qq rfl rfl (qr_assign rfl) ?_
      refine aops_nil (thn_n ?_)
      refine aw_ret ?_
      refine inBlk_r ?_
      refine thn_r ?_
      refine thn_r ?_
      refine inBlk_r ?_
      refine thn_r ?_
      exact retq (.cons _ _ _ _ (.tmp _ _ rfl) .nil) (.refl _ _) ⟨rfl, by rw [hnot, hd, fidx, if_pos hc16]; rfl⟩
    · refine aw_skip ?_
      refine inBlk_n ?_
      refine thn_n ?_
      refine aw_region ?_
      refine qq rfl rfl (qr_ari rfl rfl rfl (by omega)) ?_
      refine qq rfl rfl (qr_move rfl) ?_
      refine aops_nil (thn_n ?_)
      exact ⟨k + 1, ⟨by omega, by rw [hnot, hd, fidx, if_neg (by simp [hc16])]⟩, (ent_sub (.cons _ _ _ rfl (.cons _ _ _ rfl (.cons _ _ _ rfl (.cons _ _ _ rfl (.nil)))))), by omega⟩
  · have hk3 : k = l.length := by
      have : l.length ≤ k := by simpa using hc9
      omega
    refine aw_exit ?_
    refine thn_e ?_
    refine thn_e ?_
    refine inBlk_hit ?_
    refine thn_n ?_
    refine aw_seq (aw_region ?_)
    refine qq rfl rfl (qr_assign rfl) ?_
    refine aops_nil (thn_n ?_)
    refine aw_ret ?_
    exact retq (.cons _ _ _ _ (.tmp _ _ rfl) .nil) (.refl _ _) ⟨rfl, by rw [hnot, hk3, List.drop_length, fidx]; rfl⟩
theorem containsFuncSeen {full : Bool} (l : List Seen) (fv : AV) (p : Seen → Bool) (G : List Res) (hp : ∀ a ∈ l, FCall Tryd.prog fv [.agg (seenR a)] G (fun r h' => h' = G ∧ r = bv (p a))) (hlen : l.length ≤ 4611686018427387904) : ACall Tryd.prog 79 [.list full 3 (l.map seenR), fv] G (fun r h' => h' = G ∧ r = bv (l.any p)) := by
  refine acall_of_aw Tryd.func79 rfl rfl rfl ?_
  refine aw_seq (aw_region ?_)
  refine qq rfl rfl (qr_assign rfl) ?_
  refine aops_nil (thn_n ?_)
  refine aw_seq (aw_region ?_)
  refine qq rfl rfl (qr_move rfl) ?_
  refine qq rfl rfl (qr_move rfl) ?_
  refine qv rfl rfl (qv_call rfl rfl (FCall.of_fun (indexFuncSeen l _ p G hp hlen))) ?_
  refine qq rfl rfl (qr_cmp rfl rfl rfl) ?_
  refine qq rfl rfl (qr_assign rfl) ?_
  refine aops_nil (thn_n ?_)
  refine aw_ret ?_
  exact retq (.cons _ _ _ _ (.tmp _ _ rfl) .nil) (.refl _ _) ⟨rfl, by simp only [← fidx_ge p l 0]; rfl⟩
theorem allNotSeen (a : Seen) (fv : AV) (v : Bool) (b : Nat) (G : List Res) (hp : FCall Tryd.prog fv [.agg (seenR a)] G (fun r h' => h' = G ∧ r = bv v)) : ACall Tryd.prog 80 [.agg (seenR a), .v (.pointer (some ⟨b, 0, none⟩))] (.box b 111 [fv] :: G) (fun r h' => h' = .box b 111 [fv] :: G ∧ r = bv (!v)) := by
  refine acall_of_aw Tryd.func80 rfl rfl rfl ?_
  refine aw_seq (aw_region ?_)
  refine aops_e rfl (oe_box rfl rfl rfl fun b2 => ?_)
  refine qq rfl rfl (qr_assign rfl) ?_
  refine aops_nil (thn_n ?_)
  refine aw_seq (aw_region ?_)
  first | refine qq rfl rfl (qr_load_one rfl rfl) ?_ | refine qq rfl rfl (qr_load_pp_one rfl rfl) ?_
  first | refine qq rfl rfl (qr_load_all rfl rfl) ?_ | refine qq rfl rfl (qr_load_pp_all rfl rfl) ?_ | refine qq rfl rfl (qr_load_agg rfl (Nat.le_of_ble_eq_true rfl)) ?_ | refine qq rfl rfl (qr_load_pp_agg rfl (Nat.le_of_ble_eq_true rfl)) ?_
  refine qv rfl rfl (qv_call rfl rfl (FCall.quiet (R := fun x => x = bv v) (h2 := [_, _]) (List.perm_append_comm (l₁ := [_, _])) hp)) ?_
  refine qq rfl rfl (qr_not rfl) ?_
  refine qq rfl rfl (qr_assign rfl) ?_
  refine aops_nil (thn_n ?_)
  refine aw_ret ?_
  exact retq (.cons _ _ _ _ (.tmp _ _ rfl) .nil) (.drop1 _ _ _) ⟨rfl, rfl⟩
theorem allSeen {full : Bool} (l : List Seen) (fv : AV) (p : Seen → Bool) (G : List Res) (hone : fv.cellsOf = some [fv]) (hp : ∀ a ∈ l, FCall Tryd.prog fv [.agg (seenR a)] G (fun r h' => h' = G ∧ r = bv (p a))) (hlen : l.length ≤ 4611686018427387904) : ACall Tryd.prog 66 [.list full 3 (l.map seenR), fv] G (fun r h' => h' = G ∧ r = bv (l.all p)) := by
  refine acall_of_aw Tryd.func66 rfl rfl rfl ?_
  refine aw_seq (aw_region ?_)
  refine aops_e rfl (oe_box rfl hone rfl fun b3 => ?_)
  refine qq rfl rfl (qr_assign rfl) ?_
  refine aops_nil (thn_n ?_)
  refine aw_seq (aw_region ?_)
  refine qq rfl rfl (qr_move rfl) ?_
  refine qq rfl rfl (qr_makeFunc rfl rfl) ?_
  refine qv rfl rfl (qv_call rfl rfl (FCall.of_fun (containsFuncSeen l _ (fun a => !p a) (.box b3 111 [fv] :: G) (fun a ha => FCall.of_acall (fs := []) (cs := [.v (.pointer (some ⟨b3, 0, none⟩))]) (allNotSeen a fv (p a) b3 G (hp a ha))) hlen))) ?_
  refine qq rfl rfl (qr_not rfl) ?_
  refine qq rfl rfl (qr_assign rfl) ?_
  refine aops_nil (thn_n ?_)
  refine aw_ret ?_
  exact retq (.cons _ _ _ _ (.tmp _ _ rfl) .nil) (.drop1 _ _ _) ⟨rfl, by simp only [← any_not p l]; rfl⟩
end Go.Proofs
/- The walks of the closures of history.event. Conditions: none. -/
set_option linter.unusedVariables false
set_option linter.unusedSimpArgs false
set_option maxRecDepth 10000
namespace Go.Proofs
open Go Go.Ab
open Go.H
theorem event1 (e : Ev) (h : Hist) (be bh : Nat) : ACall Tryd.prog 59 [.v (.pointer (some ⟨be, 0, none⟩)), .v (.pointer (some ⟨bh, 0, none⟩))] [.box be 40 (evR e), .box bh 28 (histC h)] (fun r h' => h' = [.box be 40 (evR e), .box bh 28 (histC h)] ∧ r = .tup [.agg (evR ⟨0, 0, e.s, e.l, 0, ⟨0, 0⟩, 0, []⟩), bv (mayBegin h e)]) := by
  refine acall_of_aw Tryd.func59 rfl rfl rfl ?_
  refine aw_seq (aw_region ?_)
  refine aops_e rfl (oe_alloc rfl fun b2 => ?_)
  refine qq rfl rfl (qr_assign rfl) ?_
  refine aops_nil (thn_n ?_)
  refine aw_seq ?_
  refine aw_drawS 16 [(b2, 40, _)] rfl (List.perm_append_comm (l₁ := [_])) ?_
  first | refine dq rfl rfl (qr_fieldAddr rfl (Nat.succ_ne_zero _)) ?_ | refine dq rfl rfl (qr_fieldAddr_pp rfl (Nat.succ_ne_zero _)) ?_ | refine dq rfl rfl (qr_fieldAddr_rp rfl (Nat.succ_ne_zero _)) ?_
  first | refine dq rfl rfl (qr_load_one rfl rfl) ?_ | refine dq rfl rfl (qr_load_pp_one rfl rfl) ?_
  first | refine dq rfl rfl (qr_fieldAddr rfl (Nat.succ_ne_zero _)) ?_ | refine dq rfl rfl (qr_fieldAddr_pp rfl (Nat.succ_ne_zero _)) ?_ | refine dq rfl rfl (qr_fieldAddr_rp rfl (Nat.succ_ne_zero _)) ?_
  first | refine dq rfl rfl (qr_load_one rfl rfl) ?_ | refine dq rfl rfl (qr_load_pp_one rfl rfl) ?_
  refine dq rfl rfl (qr_build rfl (by rfl)) ?_
  first | refine dq rfl rfl (qr_load_all rfl rfl) ?_ | refine dq rfl rfl (qr_load_pp_all rfl rfl) ?_ | refine dq rfl rfl (qr_load_agg rfl (Nat.le_of_ble_eq_true rfl)) ?_ | refine dq rfl rfl (qr_load_pp_agg rfl (Nat.le_of_ble_eq_true rfl)) ?_
  first | refine dq rfl rfl (qr_fieldAddr rfl (Nat.succ_ne_zero _)) ?_ | refine dq rfl rfl (qr_fieldAddr_pp rfl (Nat.succ_ne_zero _)) ?_ | refine dq rfl rfl (qr_fieldAddr_rp rfl (Nat.succ_ne_zero _)) ?_
  first | refine dq rfl rfl (qr_load_one rfl rfl) ?_ | refine dq rfl rfl (qr_load_pp_one rfl rfl) ?_
  refine dv rfl rfl (by exact qv_call rfl rfl (pcall (told _ 1 _ _ rfl (by decide)) (Sbs.refl _))) ?_
  refine dq rfl rfl (qr_move rfl) ?_
  refine dsplit (fun hg1_9 => ?_) (fun hg1_9 => ?_)
  · first | refine dq rfl rfl (qr_fieldAddr rfl (Nat.succ_ne_zero _)) ?_ | refine dq rfl rfl (qr_fieldAddr_pp rfl (Nat.succ_ne_zero _)) ?_ | refine dq rfl rfl (qr_fieldAddr_rp rfl (Nat.succ_ne_zero _)) ?_
    first | refine dq rfl rfl (qr_load_one rfl rfl) ?_ | refine dq rfl rfl (qr_load_pp_one rfl rfl) ?_
    refine dv rfl rfl (by exact qv_call rfl rfl (pcall (levelCheck _) (Sbs.refl _))) ?_
    refine dq rfl rfl (qr_cmp rfl rfl rfl) ?_
    first | refine dq rfl rfl (qr_pick_t rfl rfl) ?_ | refine dq rfl rfl (qr_pick_f rfl rfl) ?_ | refine dq rfl rfl (qr_pick_b rfl rfl rfl) ?_
    refine dw 0 rfl rfl rfl rfl rfl (Nat.le_of_ble_eq_true rfl) ?_
    refine dnil ⟨rfl, ?_⟩
    refine dalloc_s rfl ?_
    refine dalloc_s rfl ?_
    refine dalloc_s rfl ?_
    refine dalloc_s rfl ?_
    refine dalloc_s rfl ?_
    refine dalloc_s rfl ?_
    refine dalloc_s rfl ?_
    refine dalloc_s rfl ?_
    refine dalloc_s rfl ?_
    refine dalloc_s rfl ?_
    refine dalloc_s rfl ?_
    refine dalloc_s rfl ?_
    refine dalloc_s rfl ?_
    refine dalloc_s rfl ?_
    refine dalloc_s rfl ?_
    refine dalloc_s rfl ?_
    refine dalloc_nil ?_
    show aops _ _ _ _ _ _ ⟨_, .box b2 40 _ :: _, _⟩
    refine qq rfl rfl (qr_assign rfl) ?_
    refine aops_nil (thn_n ?_)
    refine aw_ret ?_
    exact retq (.cons _ _ _ _ (.agg _ _ _ _ _ _ _ rfl inferInstance inferInstance inferInstance rfl) (.cons _ _ _ _ (.tmp _ _ rfl) .nil)) (.trans (.drop1 _ _ _) (vent_tup2 (by exact Sb.aggs (by exact ⟨.refl _, .refl _, .refl _, .refl _, .refl _, .refl _, .refl _, .refl _, .nil _ _, trivial⟩)) (by exact .refl _))) ⟨rfl, congrArg (fun b => AV.tup [.agg (evR ⟨0, 0, e.s, e.l, 0, ⟨0, 0⟩, 0, []⟩), bv b]) (by first | (simp only [mayBegin, *, Bool.true_and, Bool.false_and, Bool.and_false, Bool.and_true, Bool.true_or, Bool.or_false, Bool.false_or, Bool.or_true, if_true, if_false, Bool.false_eq_true, Bool.not_true, Bool.not_false]; done) | (simp_all [mayBegin]; done) | (simp_all [mayBegin] <;> omega))⟩
  · refine ds rfl rfl ?_
    refine ds rfl rfl ?_
    refine ds rfl rfl ?_
    refine ds rfl rfl ?_
    first | refine dq rfl rfl (qr_pick_t rfl rfl) ?_ | refine dq rfl rfl (qr_pick_f rfl rfl) ?_ | refine dq rfl rfl (qr_pick_b rfl rfl rfl) ?_
    refine dw 0 rfl rfl rfl rfl rfl (Nat.le_of_ble_eq_true rfl) ?_
    refine dnil ⟨rfl, ?_⟩
    refine dalloc_s rfl ?_
    refine dalloc_s rfl ?_
    refine dalloc_s rfl ?_
    refine dalloc_s rfl ?_
    refine dalloc_s rfl ?_
    refine dalloc_s rfl ?_
    refine dalloc_s rfl ?_
    refine dalloc_s rfl ?_
    refine dalloc_s rfl ?_
    refine dalloc_s rfl ?_
    refine dalloc_s rfl ?_
    refine dalloc_s rfl ?_
    refine dalloc_s rfl ?_
    refine dalloc_s rfl ?_
    refine dalloc_s rfl ?_
    refine dalloc_s rfl ?_
    refine dalloc_nil ?_
    show aops _ _ _ _ _ _ ⟨_, .box b2 40 _ :: _, _⟩
    refine qq rfl rfl (qr_assign rfl) ?_
    refine aops_nil (thn_n ?_)
    refine aw_ret ?_
    exact retq (.cons _ _ _ _ (.agg _ _ _ _ _ _ _ rfl inferInstance inferInstance inferInstance rfl) (.cons _ _ _ _ (.tmp _ _ rfl) .nil)) (.trans (.drop1 _ _ _) (vent_tup2 (by exact Sb.aggs (by exact ⟨.refl _, .refl _, .refl _, .refl _, .refl _, .refl _, .refl _, .refl _, .nil _ _, trivial⟩)) (by exact .refl _))) ⟨rfl, congrArg (fun b => AV.tup [.agg (evR ⟨0, 0, e.s, e.l, 0, ⟨0, 0⟩, 0, []⟩), bv b]) (by first | (simp only [mayBegin, *, Bool.true_and, Bool.false_and, Bool.and_false, Bool.and_true, Bool.true_or, Bool.or_false, Bool.false_or, Bool.or_true, if_true, if_false, Bool.false_eq_true, Bool.not_true, Bool.not_false]; done) | (simp_all [mayBegin]; done) | (simp_all [mayBegin] <;> omega))⟩
theorem event2 (e : Ev) (h : Hist) (be bh : Nat) : ACall Tryd.prog 61 [.v (.pointer (some ⟨be, 0, none⟩)), .v (.pointer (some ⟨bh, 0, none⟩))] [.box be 40 (evR e), .box bh 28 (histC h)] (fun r h' => h' = [.box be 40 (evR e), .box bh 28 (histC h)] ∧ r = .tup [.agg (evR ⟨0, 0, 0, 0, e.o, e.v, 0, []⟩), bv (mayWrite h e)]) := by
  refine acall_of_aw Tryd.func61 rfl rfl rfl ?_
  refine aw_seq (aw_region ?_)
  refine aops_e rfl (oe_alloc rfl fun b2 => ?_)
  refine qq rfl rfl (qr_assign rfl) ?_
  refine aops_nil (thn_n ?_)
  refine aw_seq ?_
  refine aw_drawS 30 [(b2, 40, _)] rfl (List.perm_append_comm (l₁ := [_])) ?_
  first | refine dq rfl rfl (qr_fieldAddr rfl (Nat.succ_ne_zero _)) ?_ | refine dq rfl rfl (qr_fieldAddr_pp rfl (Nat.succ_ne_zero _)) ?_ | refine dq rfl rfl (qr_fieldAddr_rp rfl (Nat.succ_ne_zero _)) ?_
  first | refine dq rfl rfl (qr_load_one rfl rfl) ?_ | refine dq rfl rfl (qr_load_pp_one rfl rfl) ?_
  first | refine dq rfl rfl (qr_fieldAddr rfl (Nat.succ_ne_zero _)) ?_ | refine dq rfl rfl (qr_fieldAddr_pp rfl (Nat.succ_ne_zero _)) ?_ | refine dq rfl rfl (qr_fieldAddr_rp rfl (Nat.succ_ne_zero _)) ?_
  first | refine dq rfl rfl (qr_load_all rfl rfl) ?_ | refine dq rfl rfl (qr_load_pp_all rfl rfl) ?_ | refine dq rfl rfl (qr_load_agg rfl (Nat.le_of_ble_eq_true rfl)) ?_ | refine dq rfl rfl (qr_load_pp_agg rfl (Nat.le_of_ble_eq_true rfl)) ?_
  refine dq rfl rfl (qr_build rfl (by rfl)) ?_
  first | refine dq rfl rfl (qr_load_all rfl rfl) ?_ | refine dq rfl rfl (qr_load_pp_all rfl rfl) ?_ | refine dq rfl rfl (qr_load_agg rfl (Nat.le_of_ble_eq_true rfl)) ?_ | refine dq rfl rfl (qr_load_pp_agg rfl (Nat.le_of_ble_eq_true rfl)) ?_
  first | refine dq rfl rfl (qr_fieldAddr rfl (Nat.succ_ne_zero _)) ?_ | refine dq rfl rfl (qr_fieldAddr_pp rfl (Nat.succ_ne_zero _)) ?_ | refine dq rfl rfl (qr_fieldAddr_rp rfl (Nat.succ_ne_zero _)) ?_
  first | refine dq rfl rfl (qr_load_one rfl rfl) ?_ | refine dq rfl rfl (qr_load_pp_one rfl rfl) ?_
  refine dv rfl rfl (by exact qv_call rfl rfl (pcall (told _ 2 _ _ rfl (by decide)) (Sbs.refl _))) ?_
  refine dq rfl rfl (qr_move rfl) ?_
  refine dsplit (fun hg1_9 => ?_) (fun hg1_9 => ?_)
  · first | refine dq rfl rfl (qr_load_all rfl rfl) ?_ | refine dq rfl rfl (qr_load_pp_all rfl rfl) ?_ | refine dq rfl rfl (qr_load_agg rfl (Nat.le_of_ble_eq_true rfl)) ?_ | refine dq rfl rfl (qr_load_pp_agg rfl (Nat.le_of_ble_eq_true rfl)) ?_
    first | refine dq rfl rfl (qr_fieldAddr rfl (Nat.succ_ne_zero _)) ?_ | refine dq rfl rfl (qr_fieldAddr_pp rfl (Nat.succ_ne_zero _)) ?_ | refine dq rfl rfl (qr_fieldAddr_rp rfl (Nat.succ_ne_zero _)) ?_
    first | refine dq rfl rfl (qr_load_all rfl rfl) ?_ | refine dq rfl rfl (qr_load_pp_all rfl rfl) ?_ | refine dq rfl rfl (qr_load_agg rfl (Nat.le_of_ble_eq_true rfl)) ?_ | refine dq rfl rfl (qr_load_pp_agg rfl (Nat.le_of_ble_eq_true rfl)) ?_
    refine dv rfl rfl (by exact qv_call rfl rfl (pcall (version h e.v) (Sbs.refl _))) ?_
    first | refine dq rfl rfl (qr_pick_t rfl rfl) ?_ | refine dq rfl rfl (qr_pick_f rfl rfl) ?_ | refine dq rfl rfl (qr_pick_b rfl rfl rfl) ?_
    refine dq rfl rfl (qr_move rfl) ?_
    refine dsplit (fun hg1_15 => ?_) (fun hg1_15 => ?_)
    · first | refine dq rfl rfl (qr_fieldAddr rfl (Nat.succ_ne_zero _)) ?_ | refine dq rfl rfl (qr_fieldAddr_pp rfl (Nat.succ_ne_zero _)) ?_ | refine dq rfl rfl (qr_fieldAddr_rp rfl (Nat.succ_ne_zero _)) ?_
      first | refine dq rfl rfl (qr_fieldAddr rfl (Nat.succ_ne_zero _)) ?_ | refine dq rfl rfl (qr_fieldAddr_pp rfl (Nat.succ_ne_zero _)) ?_ | refine dq rfl rfl (qr_fieldAddr_rp rfl (Nat.succ_ne_zero _)) ?_
      first | refine dq rfl rfl (qr_load_one rfl rfl) ?_ | refine dq rfl rfl (qr_load_pp_one rfl rfl) ?_
      first | refine dq rfl rfl (qr_fieldAddr rfl (Nat.succ_ne_zero _)) ?_ | refine dq rfl rfl (qr_fieldAddr_pp rfl (Nat.succ_ne_zero _)) ?_ | refine dq rfl rfl (qr_fieldAddr_rp rfl (Nat.succ_ne_zero _)) ?_
      first | refine dq rfl rfl (qr_load_one rfl rfl) ?_ | refine dq rfl rfl (qr_load_pp_one rfl rfl) ?_
      refine dq rfl rfl (qr_cmp rfl rfl rfl) ?_
      first | refine dq rfl rfl (qr_pick_t rfl rfl) ?_ | refine dq rfl rfl (qr_pick_f rfl rfl) ?_ | refine dq rfl rfl (qr_pick_b rfl rfl rfl) ?_
      refine dq rfl rfl (qr_move rfl) ?_
      refine dsplit (fun hg1_23 => ?_) (fun hg1_23 => ?_)
      · first | refine dq rfl rfl (qr_fieldAddr rfl (Nat.succ_ne_zero _)) ?_ | refine dq rfl rfl (qr_fieldAddr_pp rfl (Nat.succ_ne_zero _)) ?_ | refine dq rfl rfl (qr_fieldAddr_rp rfl (Nat.succ_ne_zero _)) ?_
        first | refine dq rfl rfl (qr_fieldAddr rfl (Nat.succ_ne_zero _)) ?_ | refine dq rfl rfl (qr_fieldAddr_pp rfl (Nat.succ_ne_zero _)) ?_ | refine dq rfl rfl (qr_fieldAddr_rp rfl (Nat.succ_ne_zero _)) ?_
        first | refine dq rfl rfl (qr_load_one rfl rfl) ?_ | refine dq rfl rfl (qr_load_pp_one rfl rfl) ?_
        refine dq rfl rfl (qr_cmp rfl rfl rfl) ?_
        first | refine dq rfl rfl (qr_pick_t rfl rfl) ?_ | refine dq rfl rfl (qr_pick_f rfl rfl) ?_ | refine dq rfl rfl (qr_pick_b rfl rfl rfl) ?_
        refine dw 0 rfl rfl rfl rfl rfl (Nat.le_of_ble_eq_true rfl) ?_
        refine dnil ⟨rfl, ?_⟩
        refine dalloc_s rfl ?_
        refine dalloc_s rfl ?_
        refine dalloc_s rfl ?_
        refine dalloc_s rfl ?_
        refine dalloc_s rfl ?_
        refine dalloc_s rfl ?_
        refine dalloc_s rfl ?_
        refine dalloc_s rfl ?_
        refine dalloc_s rfl ?_
        refine dalloc_s rfl ?_
        refine dalloc_s rfl ?_
        refine dalloc_s rfl ?_
        refine dalloc_s rfl ?_
        refine dalloc_s rfl ?_
        refine dalloc_s rfl ?_
        refine dalloc_s rfl ?_
        refine dalloc_s rfl ?_
        refine dalloc_s rfl ?_
        refine dalloc_s rfl ?_
        refine dalloc_s rfl ?_
        refine dalloc_s rfl ?_
        refine dalloc_s rfl ?_
        refine dalloc_s rfl ?_
        refine dalloc_s rfl ?_
        refine dalloc_s rfl ?_
        refine dalloc_s rfl ?_
        refine dalloc_s rfl ?_
        refine dalloc_s rfl ?_
        refine dalloc_s rfl ?_
        refine dalloc_s rfl ?_
        refine dalloc_nil ?_
        show aops _ _ _ _ _ _ ⟨_, .box b2 40 _ :: _, _⟩
        refine qq rfl rfl (qr_assign rfl) ?_
        refine aops_nil (thn_n ?_)
        refine aw_ret ?_
        exact retq (.cons _ _ _ _ (.agg _ _ _ _ _ _ _ rfl inferInstance inferInstance inferInstance rfl) (.cons _ _ _ _ (.tmp _ _ rfl) .nil)) (.trans (.drop1 _ _ _) (vent_tup2 (by exact Sb.aggs (by exact ⟨.refl _, .refl _, .refl _, .refl _, .refl _, .refl _, .refl _, .refl _, .nil _ _, trivial⟩)) (by exact .refl _))) ⟨rfl, congrArg (fun b => AV.tup [.agg (evR ⟨0, 0, 0, 0, e.o, e.v, 0, []⟩), bv b]) (by first | (simp only [mayWrite, *, Bool.true_and, Bool.false_and, Bool.and_false, Bool.and_true, Bool.true_or, Bool.or_false, Bool.false_or, Bool.or_true, if_true, if_false, Bool.false_eq_true, Bool.not_true, Bool.not_false]; done) | (simp_all [mayWrite]; done) | (simp_all [mayWrite] <;> omega))⟩
      · refine ds rfl rfl ?_
        refine ds rfl rfl ?_
        refine ds rfl rfl ?_
        refine ds rfl rfl ?_
        first | refine dq rfl rfl (qr_pick_t rfl rfl) ?_ | refine dq rfl rfl (qr_pick_f rfl rfl) ?_ | refine dq rfl rfl (qr_pick_b rfl rfl rfl) ?_
        refine dw 0 rfl rfl rfl rfl rfl (Nat.le_of_ble_eq_true rfl) ?_
        refine dnil ⟨rfl, ?_⟩
        refine dalloc_s rfl ?_
        refine dalloc_s rfl ?_
        refine dalloc_s rfl ?_
        refine dalloc_s rfl ?_
        refine dalloc_s rfl ?_
        refine dalloc_s rfl ?_
        refine dalloc_s rfl ?_
        refine dalloc_s rfl ?_
        refine dalloc_s rfl ?_
        refine dalloc_s rfl ?_
        refine dalloc_s rfl ?_
        refine dalloc_s rfl ?_
        refine dalloc_s rfl ?_
        refine dalloc_s rfl ?_
        refine dalloc_s rfl ?_
        refine dalloc_s rfl ?_
        refine dalloc_s rfl ?_
        refine dalloc_s rfl ?_
        refine dalloc_s rfl ?_
        refine dalloc_s rfl ?_
        refine dalloc_s rfl ?_
        refine dalloc_s rfl ?_
        refine dalloc_s rfl ?_
        refine dalloc_s rfl ?_
        refine dalloc_s rfl ?_
        refine dalloc_s rfl ?_
        refine dalloc_s rfl ?_
        refine dalloc_s rfl ?_
        refine dalloc_s rfl ?_
        refine dalloc_s rfl ?_
        refine dalloc_nil ?_
        show aops _ _ _ _ _ _ ⟨_, .box b2 40 _ :: _, _⟩
        refine qq rfl rfl (qr_assign rfl) ?_
        refine aops_nil (thn_n ?_)
        refine aw_ret ?_
        exact retq (.cons _ _ _ _ (.agg _ _ _ _ _ _ _ rfl inferInstance inferInstance inferInstance rfl) (.cons _ _ _ _ (.tmp _ _ rfl) .nil)) (.trans (.drop1 _ _ _) (vent_tup2 (by exact Sb.aggs (by exact ⟨.refl _, .refl _, .refl _, .refl _, .refl _, .refl _, .refl _, .refl _, .nil _ _, trivial⟩)) (by exact .refl _))) ⟨rfl, congrArg (fun b => AV.tup [.agg (evR ⟨0, 0, 0, 0, e.o, e.v, 0, []⟩), bv b]) (by first | (simp only [mayWrite, *, Bool.true_and, Bool.false_and, Bool.and_false, Bool.and_true, Bool.true_or, Bool.or_false, Bool.false_or, Bool.or_true, if_true, if_false, Bool.false_eq_true, Bool.not_true, Bool.not_false]; done) | (simp_all [mayWrite]; done) | (simp_all [mayWrite] <;> omega))⟩
    · refine ds rfl rfl ?_
      refine ds rfl rfl ?_
      refine ds rfl rfl ?_
      refine ds rfl rfl ?_
      refine ds rfl rfl ?_
      refine ds rfl rfl ?_
      first | refine dq rfl rfl (qr_pick_t rfl rfl) ?_ | refine dq rfl rfl (qr_pick_f rfl rfl) ?_ | refine dq rfl rfl (qr_pick_b rfl rfl rfl) ?_
      refine dq rfl rfl (qr_move rfl) ?_
      refine ds rfl rfl ?_
      refine ds rfl rfl ?_
      refine ds rfl rfl ?_
      refine ds rfl rfl ?_
      first | refine dq rfl rfl (qr_pick_t rfl rfl) ?_ | refine dq rfl rfl (qr_pick_f rfl rfl) ?_ | refine dq rfl rfl (qr_pick_b rfl rfl rfl) ?_
      refine dw 0 rfl rfl rfl rfl rfl (Nat.le_of_ble_eq_true rfl) ?_
      refine dnil ⟨rfl, ?_⟩
      refine dalloc_s rfl ?_
      refine dalloc_s rfl ?_
      refine dalloc_s rfl ?_
      refine dalloc_s rfl ?_
      refine dalloc_s rfl ?_
      refine dalloc_s rfl ?_
      refine dalloc_s rfl ?_
      refine dalloc_s rfl ?_
      refine dalloc_s rfl ?_
      refine dalloc_s rfl ?_
      refine dalloc_s rfl ?_
      refine dalloc_s rfl ?_
      refine dalloc_s rfl ?_
      refine dalloc_s rfl ?_
      refine dalloc_s rfl ?_
      refine dalloc_s rfl ?_
      refine dalloc_s rfl ?_
      refine dalloc_s rfl ?_
      refine dalloc_s rfl ?_
      refine dalloc_s rfl ?_
      refine dalloc_s rfl ?_
      refine dalloc_s rfl ?_
      refine dalloc_s rfl ?_
      refine dalloc_s rfl ?_
      refine dalloc_s rfl ?_
      refine dalloc_s rfl ?_
      refine dalloc_s rfl ?_
      refine dalloc_s rfl ?_
      refine dalloc_s rfl ?_
      refine dalloc_s rfl ?_
      refine dalloc_nil ?_
      show aops _ _ _ _ _ _ ⟨_, .box b2 40 _ :: _, _⟩
      refine qq rfl rfl (qr_assign rfl) ?_
      refine aops_nil (thn_n ?_)
      refine aw_ret ?_
      exact retq (.cons _ _ _ _ (.agg _ _ _ _ _ _ _ rfl inferInstance inferInstance inferInstance rfl) (.cons _ _ _ _ (.tmp _ _ rfl) .nil)) (.trans (.drop1 _ _ _) (vent_tup2 (by exact Sb.aggs (by exact ⟨.refl _, .refl _, .refl _, .refl _, .refl _, .refl _, .refl _, .refl _, .nil _ _, trivial⟩)) (by exact .refl _))) ⟨rfl, congrArg (fun b => AV.tup [.agg (evR ⟨0, 0, 0, 0, e.o, e.v, 0, []⟩), bv b]) (by first | (simp only [mayWrite, *, Bool.true_and, Bool.false_and, Bool.and_false, Bool.and_true, Bool.true_or, Bool.or_false, Bool.false_or, Bool.or_true, if_true, if_false, Bool.false_eq_true, Bool.not_true, Bool.not_false]; done) | (simp_all [mayWrite]; done) | (simp_all [mayWrite] <;> omega))⟩
  · refine ds rfl rfl ?_
    refine ds rfl rfl ?_
    refine ds rfl rfl ?_
    refine ds rfl rfl ?_
    first | refine dq rfl rfl (qr_pick_t rfl rfl) ?_ | refine dq rfl rfl (qr_pick_f rfl rfl) ?_ | refine dq rfl rfl (qr_pick_b rfl rfl rfl) ?_
    refine dq rfl rfl (qr_move rfl) ?_
    refine ds rfl rfl ?_
    refine ds rfl rfl ?_
    refine ds rfl rfl ?_
    refine ds rfl rfl ?_
    refine ds rfl rfl ?_
    refine ds rfl rfl ?_
    first | refine dq rfl rfl (qr_pick_t rfl rfl) ?_ | refine dq rfl rfl (qr_pick_f rfl rfl) ?_ | refine dq rfl rfl (qr_pick_b rfl rfl rfl) ?_
    refine dq rfl rfl (qr_move rfl) ?_
    refine ds rfl rfl ?_
    refine ds rfl rfl ?_
    refine ds rfl rfl ?_
    refine ds rfl rfl ?_
    first | refine dq rfl rfl (qr_pick_t rfl rfl) ?_ | refine dq rfl rfl (qr_pick_f rfl rfl) ?_ | refine dq rfl rfl (qr_pick_b rfl rfl rfl) ?_
    refine dw 0 rfl rfl rfl rfl rfl (Nat.le_of_ble_eq_true rfl) ?_
    refine dnil ⟨rfl, ?_⟩
    refine dalloc_s rfl ?_
    refine dalloc_s rfl ?_
    refine dalloc_s rfl ?_
    refine dalloc_s rfl ?_
    refine dalloc_s rfl ?_
    refine dalloc_s rfl ?_
    refine dalloc_s rfl ?_
    refine dalloc_s rfl ?_
    refine dalloc_s rfl ?_
    refine dalloc_s rfl ?_
    refine dalloc_s rfl ?_
    refine dalloc_s rfl ?_
    refine dalloc_s rfl ?_
    refine dalloc_s rfl ?_
    refine dalloc_s rfl ?_
    refine dalloc_s rfl ?_
    refine dalloc_s rfl ?_
    refine dalloc_s rfl ?_
    refine dalloc_s rfl ?_
    refine dalloc_s rfl ?_
    refine dalloc_s rfl ?_
    refine dalloc_s rfl ?_
    refine dalloc_s rfl ?_
    refine dalloc_s rfl ?_
    refine dalloc_s rfl ?_
    refine dalloc_s rfl ?_
    refine dalloc_s rfl ?_
    refine dalloc_s rfl ?_
    refine dalloc_s rfl ?_
    refine dalloc_s rfl ?_
    refine dalloc_nil ?_
    show aops _ _ _ _ _ _ ⟨_, .box b2 40 _ :: _, _⟩
    refine qq rfl rfl (qr_assign rfl) ?_
    refine aops_nil (thn_n ?_)
    refine aw_ret ?_
    exact retq (.cons _ _ _ _ (.agg _ _ _ _ _ _ _ rfl inferInstance inferInstance inferInstance rfl) (.cons _ _ _ _ (.tmp _ _ rfl) .nil)) (.trans (.drop1 _ _ _) (vent_tup2 (by exact Sb.aggs (by exact ⟨.refl _, .refl _, .refl _, .refl _, .refl _, .refl _, .refl _, .refl _, .nil _ _, trivial⟩)) (by exact .refl _))) ⟨rfl, congrArg (fun b => AV.tup [.agg (evR ⟨0, 0, 0, 0, e.o, e.v, 0, []⟩), bv b]) (by first | (simp only [mayWrite, *, Bool.true_and, Bool.false_and, Bool.and_false, Bool.and_true, Bool.true_or, Bool.or_false, Bool.false_or, Bool.or_true, if_true, if_false, Bool.false_eq_true, Bool.not_true, Bool.not_false]; done) | (simp_all [mayWrite]; done) | (simp_all [mayWrite] <;> omega))⟩
theorem event3 (e : Ev) (h : Hist) (be bh : Nat) : ACall Tryd.prog 63 [.v (.pointer (some ⟨be, 0, none⟩)), .v (.pointer (some ⟨bh, 0, none⟩))] [.box be 40 (evR e), .box bh 28 (histC h)] (fun r h' => h' = [.box be 40 (evR e), .box bh 28 (histC h)] ∧ r = .tup [.agg (evR ⟨0, 0, 0, 0, e.o, e.v, 0, []⟩), bv (mayRead h e)]) := by
  refine acall_of_aw Tryd.func63 rfl rfl rfl ?_
  refine aw_seq (aw_region ?_)
  refine aops_e rfl (oe_alloc rfl fun b2 => ?_)
  refine qq rfl rfl (qr_assign rfl) ?_
  refine aops_nil (thn_n ?_)
  refine aw_seq ?_
  refine aw_drawS 16 [(b2, 40, _)] rfl (List.perm_append_comm (l₁ := [_])) ?_
  first | refine dq rfl rfl (qr_fieldAddr rfl (Nat.succ_ne_zero _)) ?_ | refine dq rfl rfl (qr_fieldAddr_pp rfl (Nat.succ_ne_zero _)) ?_ | refine dq rfl rfl (qr_fieldAddr_rp rfl (Nat.succ_ne_zero _)) ?_
  first | refine dq rfl rfl (qr_load_one rfl rfl) ?_ | refine dq rfl rfl (qr_load_pp_one rfl rfl) ?_
  first | refine dq rfl rfl (qr_fieldAddr rfl (Nat.succ_ne_zero _)) ?_ | refine dq rfl rfl (qr_fieldAddr_pp rfl (Nat.succ_ne_zero _)) ?_ | refine dq rfl rfl (qr_fieldAddr_rp rfl (Nat.succ_ne_zero _)) ?_
  first | refine dq rfl rfl (qr_load_all rfl rfl) ?_ | refine dq rfl rfl (qr_load_pp_all rfl rfl) ?_ | refine dq rfl rfl (qr_load_agg rfl (Nat.le_of_ble_eq_true rfl)) ?_ | refine dq rfl rfl (qr_load_pp_agg rfl (Nat.le_of_ble_eq_true rfl)) ?_
  refine dq rfl rfl (qr_build rfl (by rfl)) ?_
  first | refine dq rfl rfl (qr_load_all rfl rfl) ?_ | refine dq rfl rfl (qr_load_pp_all rfl rfl) ?_ | refine dq rfl rfl (qr_load_agg rfl (Nat.le_of_ble_eq_true rfl)) ?_ | refine dq rfl rfl (qr_load_pp_agg rfl (Nat.le_of_ble_eq_true rfl)) ?_
  first | refine dq rfl rfl (qr_fieldAddr rfl (Nat.succ_ne_zero _)) ?_ | refine dq rfl rfl (qr_fieldAddr_pp rfl (Nat.succ_ne_zero _)) ?_ | refine dq rfl rfl (qr_fieldAddr_rp rfl (Nat.succ_ne_zero _)) ?_
  first | refine dq rfl rfl (qr_load_one rfl rfl) ?_ | refine dq rfl rfl (qr_load_pp_one rfl rfl) ?_
  refine dv rfl rfl (by exact qv_call rfl rfl (pcall (told _ 2 _ _ rfl (by decide)) (Sbs.refl _))) ?_
  refine dq rfl rfl (qr_move rfl) ?_
  refine dsplit (fun hg1_9 => ?_) (fun hg1_9 => ?_)
  · first | refine dq rfl rfl (qr_load_all rfl rfl) ?_ | refine dq rfl rfl (qr_load_pp_all rfl rfl) ?_ | refine dq rfl rfl (qr_load_agg rfl (Nat.le_of_ble_eq_true rfl)) ?_ | refine dq rfl rfl (qr_load_pp_agg rfl (Nat.le_of_ble_eq_true rfl)) ?_
    first | refine dq rfl rfl (qr_fieldAddr rfl (Nat.succ_ne_zero _)) ?_ | refine dq rfl rfl (qr_fieldAddr_pp rfl (Nat.succ_ne_zero _)) ?_ | refine dq rfl rfl (qr_fieldAddr_rp rfl (Nat.succ_ne_zero _)) ?_
    first | refine dq rfl rfl (qr_load_all rfl rfl) ?_ | refine dq rfl rfl (qr_load_pp_all rfl rfl) ?_ | refine dq rfl rfl (qr_load_agg rfl (Nat.le_of_ble_eq_true rfl)) ?_ | refine dq rfl rfl (qr_load_pp_agg rfl (Nat.le_of_ble_eq_true rfl)) ?_
    refine dv rfl rfl (by exact qv_call rfl rfl (pcall (version h e.v) (Sbs.refl _))) ?_
    first | refine dq rfl rfl (qr_pick_t rfl rfl) ?_ | refine dq rfl rfl (qr_pick_f rfl rfl) ?_ | refine dq rfl rfl (qr_pick_b rfl rfl rfl) ?_
    refine dw 0 rfl rfl rfl rfl rfl (Nat.le_of_ble_eq_true rfl) ?_
    refine dnil ⟨rfl, ?_⟩
    refine dalloc_s rfl ?_
    refine dalloc_s rfl ?_
    refine dalloc_s rfl ?_
    refine dalloc_s rfl ?_
    refine dalloc_s rfl ?_
    refine dalloc_s rfl ?_
    refine dalloc_s rfl ?_
    refine dalloc_s rfl ?_
    refine dalloc_s rfl ?_
    refine dalloc_s rfl ?_
    refine dalloc_s rfl ?_
    refine dalloc_s rfl ?_
    refine dalloc_s rfl ?_
    refine dalloc_s rfl ?_
    refine dalloc_s rfl ?_
    refine dalloc_s rfl ?_
    refine dalloc_nil ?_
    show aops _ _ _ _ _ _ ⟨_, .box b2 40 _ :: _, _⟩
    refine qq rfl rfl (qr_assign rfl) ?_
    refine aops_nil (thn_n ?_)
    refine aw_ret ?_
    exact retq (.cons _ _ _ _ (.agg _ _ _ _ _ _ _ rfl inferInstance inferInstance inferInstance rfl) (.cons _ _ _ _ (.tmp _ _ rfl) .nil)) (.trans (.drop1 _ _ _) (vent_tup2 (by exact Sb.aggs (by exact ⟨.refl _, .refl _, .refl _, .refl _, .refl _, .refl _, .refl _, .refl _, .nil _ _, trivial⟩)) (by exact .refl _))) ⟨rfl, congrArg (fun b => AV.tup [.agg (evR ⟨0, 0, 0, 0, e.o, e.v, 0, []⟩), bv b]) (by first | (simp only [mayRead, *, Bool.true_and, Bool.false_and, Bool.and_false, Bool.and_true, Bool.true_or, Bool.or_false, Bool.false_or, Bool.or_true, if_true, if_false, Bool.false_eq_true, Bool.not_true, Bool.not_false]; done) | (simp_all [mayRead]; done) | (simp_all [mayRead] <;> omega))⟩
  · refine ds rfl rfl ?_
    refine ds rfl rfl ?_
    refine ds rfl rfl ?_
    refine ds rfl rfl ?_
    first | refine dq rfl rfl (qr_pick_t rfl rfl) ?_ | refine dq rfl rfl (qr_pick_f rfl rfl) ?_ | refine dq rfl rfl (qr_pick_b rfl rfl rfl) ?_
    refine dw 0 rfl rfl rfl rfl rfl (Nat.le_of_ble_eq_true rfl) ?_
    refine dnil ⟨rfl, ?_⟩
    refine dalloc_s rfl ?_
    refine dalloc_s rfl ?_
    refine dalloc_s rfl ?_
    refine dalloc_s rfl ?_
    refine dalloc_s rfl ?_
    refine dalloc_s rfl ?_
    refine dalloc_s rfl ?_
    refine dalloc_s rfl ?_
    refine dalloc_s rfl ?_
    refine dalloc_s rfl ?_
    refine dalloc_s rfl ?_
    refine dalloc_s rfl ?_
    refine dalloc_s rfl ?_
    refine dalloc_s rfl ?_
    refine dalloc_s rfl ?_
    refine dalloc_s rfl ?_
    refine dalloc_nil ?_
    show aops _ _ _ _ _ _ ⟨_, .box b2 40 _ :: _, _⟩
    refine qq rfl rfl (qr_assign rfl) ?_
    refine aops_nil (thn_n ?_)
    refine aw_ret ?_
    exact retq (.cons _ _ _ _ (.agg _ _ _ _ _ _ _ rfl inferInstance inferInstance inferInstance rfl) (.cons _ _ _ _ (.tmp _ _ rfl) .nil)) (.trans (.drop1 _ _ _) (vent_tup2 (by exact Sb.aggs (by exact ⟨.refl _, .refl _, .refl _, .refl _, .refl _, .refl _, .refl _, .refl _, .nil _ _, trivial⟩)) (by exact .refl _))) ⟨rfl, congrArg (fun b => AV.tup [.agg (evR ⟨0, 0, 0, 0, e.o, e.v, 0, []⟩), bv b]) (by first | (simp only [mayRead, *, Bool.true_and, Bool.false_and, Bool.and_false, Bool.and_true, Bool.true_or, Bool.or_false, Bool.false_or, Bool.or_true, if_true, if_false, Bool.false_eq_true, Bool.not_true, Bool.not_false]; done) | (simp_all [mayRead]; done) | (simp_all [mayRead] <;> omega))⟩
theorem event41 (s : Seen) (h : Hist) (bh : Nat) : ACall Tryd.prog 65 [.agg (seenR s), .v (.pointer (some ⟨bh, 0, none⟩))] [.box bh 28 (histC h)] (fun r h' => h' = [.box bh 28 (histC h)] ∧ r = bv (seenB h s)) := by
  refine acall_of_aw Tryd.func65 rfl rfl rfl ?_
  refine aw_seq (aw_region ?_)
  refine aops_e rfl (oe_box rfl rfl rfl fun b2 => ?_)
  refine qq rfl rfl (qr_assign rfl) ?_
  refine aops_nil (thn_n ?_)
  refine aw_seq (aw_region ?_)
  first | refine qq rfl rfl (qr_load_all rfl rfl) ?_ | refine qq rfl rfl (qr_load_pp_all rfl rfl) ?_ | refine qq rfl rfl (qr_load_agg rfl (Nat.le_of_ble_eq_true rfl)) ?_ | refine qq rfl rfl (qr_load_pp_agg rfl (Nat.le_of_ble_eq_true rfl)) ?_
  first | refine qq rfl rfl (qr_fieldAddr rfl (Nat.succ_ne_zero _)) ?_ | refine qq rfl rfl (qr_fieldAddr_pp rfl (Nat.succ_ne_zero _)) ?_ | refine qq rfl rfl (qr_fieldAddr_rp rfl (Nat.succ_ne_zero _)) ?_
  first | refine qq rfl rfl (qr_load_one rfl rfl) ?_ | refine qq rfl rfl (qr_load_pp_one rfl rfl) ?_
  refine qv rfl rfl (qv_call rfl rfl (pcall (told _ 2 _ _ rfl (by decide)) (Sbs.refl _))) ?_
  refine qq rfl rfl (qr_move rfl) ?_
  refine asplit (fun hg1_4 => ?_) (fun hg1_4 => ?_)
  · first | refine qq rfl rfl (qr_load_all rfl rfl) ?_ | refine qq rfl rfl (qr_load_pp_all rfl rfl) ?_ | refine qq rfl rfl (qr_load_agg rfl (Nat.le_of_ble_eq_true rfl)) ?_ | refine qq rfl rfl (qr_load_pp_agg rfl (Nat.le_of_ble_eq_true rfl)) ?_
    first | refine qq rfl rfl (qr_fieldAddr rfl (Nat.succ_ne_zero _)) ?_ | refine qq rfl rfl (qr_fieldAddr_pp rfl (Nat.succ_ne_zero _)) ?_ | refine qq rfl rfl (qr_fieldAddr_rp rfl (Nat.succ_ne_zero _)) ?_
    first | refine qq rfl rfl (qr_load_all rfl rfl) ?_ | refine qq rfl rfl (qr_load_pp_all rfl rfl) ?_ | refine qq rfl rfl (qr_load_agg rfl (Nat.le_of_ble_eq_true rfl)) ?_ | refine qq rfl rfl (qr_load_pp_agg rfl (Nat.le_of_ble_eq_true rfl)) ?_
    refine qv rfl rfl (qv_call rfl rfl (pcall (version h s.v) (Sbs.refl _))) ?_
    first | refine qq rfl rfl (qr_pick_t rfl rfl) ?_ | refine qq rfl rfl (qr_pick_f rfl rfl) ?_ | refine qq rfl rfl (qr_pick_b rfl rfl rfl) ?_
    refine qq rfl rfl (qr_assign rfl) ?_
    refine aops_nil (thn_n ?_)
    refine aw_ret ?_
    exact retq (.cons _ _ _ _ (.tmp _ _ rfl) .nil) (.drop1 _ _ _) ⟨rfl, congrArg bv (by first | (simp only [seenB, *, Bool.true_and, Bool.false_and, Bool.and_false, Bool.and_true, Bool.true_or, Bool.or_false, Bool.false_or, Bool.or_true, if_true, if_false, Bool.false_eq_true, Bool.not_true, Bool.not_false]; done) | (simp_all [seenB]; done) | (simp_all [seenB] <;> omega))⟩
  · refine qs rfl rfl ?_
    refine qs rfl rfl ?_
    refine qs rfl rfl ?_
    refine qs rfl rfl ?_
    first | refine qq rfl rfl (qr_pick_t rfl rfl) ?_ | refine qq rfl rfl (qr_pick_f rfl rfl) ?_ | refine qq rfl rfl (qr_pick_b rfl rfl rfl) ?_
    refine qq rfl rfl (qr_assign rfl) ?_
    refine aops_nil (thn_n ?_)
    refine aw_ret ?_
    exact retq (.cons _ _ _ _ (.tmp _ _ rfl) .nil) (.drop1 _ _ _) ⟨rfl, congrArg bv (by first | (simp only [seenB, *, Bool.true_and, Bool.false_and, Bool.and_false, Bool.and_true, Bool.true_or, Bool.or_false, Bool.false_or, Bool.or_true, if_true, if_false, Bool.false_eq_true, Bool.not_true, Bool.not_false]; done) | (simp_all [seenB]; done) | (simp_all [seenB] <;> omega))⟩
theorem event4 (e : Ev) (h : Hist) (be bh : Nat) (hl : e.scan.length ≤ 4611686018427387904) : ACall Tryd.prog 64 [.v (.pointer (some ⟨bh, 0, none⟩)), .v (.pointer (some ⟨be, 0, none⟩))] [.box be 40 (evR e), .box bh 28 (histC h)] (fun r h' => h' = [.box be 40 (evR e), .box bh 28 (histC h)] ∧ r = .tup [.agg (evR ⟨0, 0, 0, 0, 0, ⟨0, 0⟩, e.p, e.scan⟩), bv (mayScan h e)]) := by
  refine acall_of_aw Tryd.func64 rfl rfl rfl ?_
  refine aw_seq (aw_region ?_)
  refine aops_e rfl (oe_alloc rfl fun b2 => ?_)
  refine qq rfl rfl (qr_assign rfl) ?_
  refine aops_nil (thn_n ?_)
  refine aw_seq (aw_region ?_)
  refine qq rfl rfl (qr_makeFunc rfl rfl) ?_
  refine qq rfl rfl (qr_assign rfl) ?_
  refine aops_nil (thn_n ?_)
  refine aw_seq ?_
  refine aw_drawS 22 [(b2, 40, _)] rfl (List.perm_append_comm (l₁ := [_])) ?_
  first | refine dq rfl rfl (qr_fieldAddr rfl (Nat.succ_ne_zero _)) ?_ | refine dq rfl rfl (qr_fieldAddr_pp rfl (Nat.succ_ne_zero _)) ?_ | refine dq rfl rfl (qr_fieldAddr_rp rfl (Nat.succ_ne_zero _)) ?_
  first | refine dq rfl rfl (qr_load_one rfl rfl) ?_ | refine dq rfl rfl (qr_load_pp_one rfl rfl) ?_
  first | refine dq rfl rfl (qr_fieldAddr rfl (Nat.succ_ne_zero _)) ?_ | refine dq rfl rfl (qr_fieldAddr_pp rfl (Nat.succ_ne_zero _)) ?_ | refine dq rfl rfl (qr_fieldAddr_rp rfl (Nat.succ_ne_zero _)) ?_
  first | refine dq rfl rfl (qr_load_one rfl rfl) ?_ | refine dq rfl rfl (qr_load_pp_one rfl rfl) ?_
  refine dq rfl rfl (qr_build rfl (by rfl)) ?_
  first | refine dq rfl rfl (qr_load_all rfl rfl) ?_ | refine dq rfl rfl (qr_load_pp_all rfl rfl) ?_ | refine dq rfl rfl (qr_load_agg rfl (Nat.le_of_ble_eq_true rfl)) ?_ | refine dq rfl rfl (qr_load_pp_agg rfl (Nat.le_of_ble_eq_true rfl)) ?_
  first | refine dq rfl rfl (qr_fieldAddr rfl (Nat.succ_ne_zero _)) ?_ | refine dq rfl rfl (qr_fieldAddr_pp rfl (Nat.succ_ne_zero _)) ?_ | refine dq rfl rfl (qr_fieldAddr_rp rfl (Nat.succ_ne_zero _)) ?_
  first | refine dq rfl rfl (qr_load_one rfl rfl) ?_ | refine dq rfl rfl (qr_load_pp_one rfl rfl) ?_
  refine dv rfl rfl (by exact qv_call rfl rfl (pcall (told _ 3 _ _ rfl (by decide)) (Sbs.refl _))) ?_
  refine dq rfl rfl (qr_move rfl) ?_
  refine dsplit (fun hg2_9 => ?_) (fun hg2_9 => ?_)
  · first | refine dq rfl rfl (qr_fieldAddr rfl (Nat.succ_ne_zero _)) ?_ | refine dq rfl rfl (qr_fieldAddr_pp rfl (Nat.succ_ne_zero _)) ?_ | refine dq rfl rfl (qr_fieldAddr_rp rfl (Nat.succ_ne_zero _)) ?_
    first | refine dq rfl rfl (qr_load_one rfl rfl) ?_ | refine dq rfl rfl (qr_load_pp_one rfl rfl) ?_
    refine dq rfl rfl (qr_len_list rfl) ?_
    refine dq rfl rfl (qr_cmp rfl rfl rfl) ?_
    first | refine dq rfl rfl (qr_pick_t rfl rfl) ?_ | refine dq rfl rfl (qr_pick_f rfl rfl) ?_ | refine dq rfl rfl (qr_pick_b rfl rfl rfl) ?_
    refine dq rfl rfl (qr_move rfl) ?_
    refine dsplit (fun hg2_15 => ?_) (fun hg2_15 => ?_)
    · first | refine dq rfl rfl (qr_fieldAddr rfl (Nat.succ_ne_zero _)) ?_ | refine dq rfl rfl (qr_fieldAddr_pp rfl (Nat.succ_ne_zero _)) ?_ | refine dq rfl rfl (qr_fieldAddr_rp rfl (Nat.succ_ne_zero _)) ?_
      first | refine dq rfl rfl (qr_load_one rfl rfl) ?_ | refine dq rfl rfl (qr_load_pp_one rfl rfl) ?_
      refine dq rfl rfl (qr_move rfl) ?_
      refine dv rfl rfl (by exact qv_call rfl rfl (FCall.of_fun (allSeen e.scan (.fn (.func 65) [] [.v (.pointer (some ⟨bh, 0, none⟩))]) (seenB h) [.box be 40 (evR e), .box bh 28 (histC h)] rfl (fun s hs => FCall.quiet (R := fun x => x = bv (seenB h s)) (h2 := [_]) (List.perm_append_comm (l₁ := [_])) (FCall.of_acall (fs := []) (cs := [.v (.pointer (some ⟨bh, 0, none⟩))]) (event41 s h bh))) hl))) ?_
      first | refine dq rfl rfl (qr_pick_t rfl rfl) ?_ | refine dq rfl rfl (qr_pick_f rfl rfl) ?_ | refine dq rfl rfl (qr_pick_b rfl rfl rfl) ?_
      refine dw 0 rfl rfl rfl rfl rfl (Nat.le_of_ble_eq_true rfl) ?_
      refine dnil ⟨rfl, ?_⟩
      refine dalloc_s rfl ?_
      refine dalloc_s rfl ?_
      refine dalloc_s rfl ?_
      refine dalloc_s rfl ?_
      refine dalloc_s rfl ?_
      refine dalloc_s rfl ?_
      refine dalloc_s rfl ?_
      refine dalloc_s rfl ?_
      refine dalloc_s rfl ?_
      refine dalloc_s rfl ?_
      refine dalloc_s rfl ?_
      refine dalloc_s rfl ?_
      refine dalloc_s rfl ?_
      refine dalloc_s rfl ?_
      refine dalloc_s rfl ?_
      refine dalloc_s rfl ?_
      refine dalloc_s rfl ?_
      refine dalloc_s rfl ?_
      refine dalloc_s rfl ?_
      refine dalloc_s rfl ?_
      refine dalloc_s rfl ?_
      refine dalloc_s rfl ?_
      refine dalloc_nil ?_
      show aops _ _ _ _ _ _ ⟨_, .box b2 40 _ :: _, _⟩
      refine qq rfl rfl (qr_assign rfl) ?_
      refine aops_nil (thn_n ?_)
      refine aw_ret ?_
      exact retq (.cons _ _ _ _ (.agg _ _ _ _ _ _ _ rfl inferInstance inferInstance inferInstance rfl) (.cons _ _ _ _ (.tmp _ _ rfl) .nil)) (.trans (.drop1 _ _ _) (vent_tup2 (by exact Sb.aggs (by exact ⟨.refl _, .refl _, .refl _, .refl _, .refl _, .refl _, .refl _, .refl _, .refl _, trivial⟩)) (by exact .refl _))) ⟨rfl, congrArg (fun b => AV.tup [.agg (evR ⟨0, 0, 0, 0, 0, ⟨0, 0⟩, e.p, e.scan⟩), bv b]) (by first | (simp only [mayScan, *, Bool.true_and, Bool.false_and, Bool.and_false, Bool.and_true, Bool.true_or, Bool.or_false, Bool.false_or, Bool.or_true, if_true, if_false, Bool.false_eq_true, Bool.not_true, Bool.not_false]; done) | (simp_all [mayScan]; done) | (simp_all [mayScan] <;> omega))⟩
    · refine ds rfl rfl ?_
      refine ds rfl rfl ?_
      refine ds rfl rfl ?_
      refine ds rfl rfl ?_
      first | refine dq rfl rfl (qr_pick_t rfl rfl) ?_ | refine dq rfl rfl (qr_pick_f rfl rfl) ?_ | refine dq rfl rfl (qr_pick_b rfl rfl rfl) ?_
      refine dw 0 rfl rfl rfl rfl rfl (Nat.le_of_ble_eq_true rfl) ?_
      refine dnil ⟨rfl, ?_⟩
      refine dalloc_s rfl ?_
      refine dalloc_s rfl ?_
      refine dalloc_s rfl ?_
      refine dalloc_s rfl ?_
      refine dalloc_s rfl ?_
      refine dalloc_s rfl ?_
      refine dalloc_s rfl ?_
      refine dalloc_s rfl ?_
      refine dalloc_s rfl ?_
      refine dalloc_s rfl ?_
      refine dalloc_s rfl ?_
      refine dalloc_s rfl ?_
      refine dalloc_s rfl ?_
      refine dalloc_s rfl ?_
      refine dalloc_s rfl ?_
      refine dalloc_s rfl ?_
      refine dalloc_s rfl ?_
      refine dalloc_s rfl ?_
      refine dalloc_s rfl ?_
      refine dalloc_s rfl ?_
      refine dalloc_s rfl ?_
      refine dalloc_s rfl ?_
      refine dalloc_nil ?_
      show aops _ _ _ _ _ _ ⟨_, .box b2 40 _ :: _, _⟩
      refine qq rfl rfl (qr_assign rfl) ?_
      refine aops_nil (thn_n ?_)
      refine aw_ret ?_
      exact retq (.cons _ _ _ _ (.agg _ _ _ _ _ _ _ rfl inferInstance inferInstance inferInstance rfl) (.cons _ _ _ _ (.tmp _ _ rfl) .nil)) (.trans (.drop1 _ _ _) (vent_tup2 (by exact Sb.aggs (by exact ⟨.refl _, .refl _, .refl _, .refl _, .refl _, .refl _, .refl _, .refl _, .refl _, trivial⟩)) (by exact .refl _))) ⟨rfl, congrArg (fun b => AV.tup [.agg (evR ⟨0, 0, 0, 0, 0, ⟨0, 0⟩, e.p, e.scan⟩), bv b]) (by first | (simp only [mayScan, *, Bool.true_and, Bool.false_and, Bool.and_false, Bool.and_true, Bool.true_or, Bool.or_false, Bool.false_or, Bool.or_true, if_true, if_false, Bool.false_eq_true, Bool.not_true, Bool.not_false]; done) | (simp_all [mayScan]; done) | (simp_all [mayScan] <;> omega))⟩
  · refine ds rfl rfl ?_
    refine ds rfl rfl ?_
    refine ds rfl rfl ?_
    refine ds rfl rfl ?_
    first | refine dq rfl rfl (qr_pick_t rfl rfl) ?_ | refine dq rfl rfl (qr_pick_f rfl rfl) ?_ | refine dq rfl rfl (qr_pick_b rfl rfl rfl) ?_
    refine dq rfl rfl (qr_move rfl) ?_
    refine ds rfl rfl ?_
    refine ds rfl rfl ?_
    refine ds rfl rfl ?_
    refine ds rfl rfl ?_
    first | refine dq rfl rfl (qr_pick_t rfl rfl) ?_ | refine dq rfl rfl (qr_pick_f rfl rfl) ?_ | refine dq rfl rfl (qr_pick_b rfl rfl rfl) ?_
    refine dw 0 rfl rfl rfl rfl rfl (Nat.le_of_ble_eq_true rfl) ?_
    refine dnil ⟨rfl, ?_⟩
    refine dalloc_s rfl ?_
    refine dalloc_s rfl ?_
    refine dalloc_s rfl ?_
    refine dalloc_s rfl ?_
    refine dalloc_s rfl ?_
    refine dalloc_s rfl ?_
    refine dalloc_s rfl ?_
    refine dalloc_s rfl ?_
    refine dalloc_s rfl ?_
    refine dalloc_s rfl ?_
    refine dalloc_s rfl ?_
    refine dalloc_s rfl ?_
    refine dalloc_s rfl ?_
    refine dalloc_s rfl ?_
    refine dalloc_s rfl ?_
    refine dalloc_s rfl ?_
    refine dalloc_s rfl ?_
    refine dalloc_s rfl ?_
    refine dalloc_s rfl ?_
    refine dalloc_s rfl ?_
    refine dalloc_s rfl ?_
    refine dalloc_s rfl ?_
    refine dalloc_nil ?_
    show aops _ _ _ _ _ _ ⟨_, .box b2 40 _ :: _, _⟩
    refine qq rfl rfl (qr_assign rfl) ?_
    refine aops_nil (thn_n ?_)
    refine aw_ret ?_
    exact retq (.cons _ _ _ _ (.agg _ _ _ _ _ _ _ rfl inferInstance inferInstance inferInstance rfl) (.cons _ _ _ _ (.tmp _ _ rfl) .nil)) (.trans (.drop1 _ _ _) (vent_tup2 (by exact Sb.aggs (by exact ⟨.refl _, .refl _, .refl _, .refl _, .refl _, .refl _, .refl _, .refl _, .refl _, trivial⟩)) (by exact .refl _))) ⟨rfl, congrArg (fun b => AV.tup [.agg (evR ⟨0, 0, 0, 0, 0, ⟨0, 0⟩, e.p, e.scan⟩), bv b]) (by first | (simp only [mayScan, *, Bool.true_and, Bool.false_and, Bool.and_false, Bool.and_true, Bool.true_or, Bool.or_false, Bool.false_or, Bool.or_true, if_true, if_false, Bool.false_eq_true, Bool.not_true, Bool.not_false]; done) | (simp_all [mayScan]; done) | (simp_all [mayScan] <;> omega))⟩
theorem event5  : ACall Tryd.prog 67 [] [] (fun r h' => h' = [] ∧ r = .tup [.agg (evR ⟨0, 0, 0, 0, 0, ⟨0, 0⟩, 0, []⟩), bv true]) := by
  refine acall_of_aw Tryd.func67 rfl rfl rfl ?_
  refine aw_seq (aw_region ?_)
  refine aops_e rfl (oe_alloc rfl fun b0 => ?_)
  refine qq rfl rfl (qr_assign rfl) ?_
  refine aops_nil (thn_n ?_)
  refine aw_seq (aw_region ?_)
  refine qq rfl rfl (qr_build rfl (by rfl)) ?_
  first | refine aops_e rfl (oe_store_all rfl rfl rfl ?_) | refine aops_e rfl (oe_store rfl rfl rfl rfl (Nat.le_of_ble_eq_true rfl) ?_)
  refine qq rfl rfl (qr_assign rfl) ?_
  refine aops_nil (thn_n ?_)
  refine aw_ret ?_
  exact retq (.cons _ _ _ _ (.agg _ _ _ _ _ _ _ rfl inferInstance inferInstance inferInstance rfl) (.cons _ _ _ _ (.tmp _ _ rfl) .nil)) (.trans (.drop1 _ _ _) (vent_tup2 (by exact Sb.aggs (by exact ⟨.refl _, .refl _, .refl _, .refl _, .refl _, .refl _, .refl _, .refl _, .nil _ _, trivial⟩)) (by exact .refl _))) ⟨rfl, congrArg (fun b => AV.tup [.agg (evR ⟨0, 0, 0, 0, 0, ⟨0, 0⟩, 0, []⟩), bv b]) (by rfl)⟩
theorem event6  : ACall Tryd.prog 68 [] [] (fun r h' => h' = [] ∧ r = .tup [.agg (evR ⟨0, 0, 0, 0, 0, ⟨0, 0⟩, 0, []⟩), bv true]) := by
  refine acall_of_aw Tryd.func68 rfl rfl rfl ?_
  refine aw_seq (aw_region ?_)
  refine aops_e rfl (oe_alloc rfl fun b0 => ?_)
  refine qq rfl rfl (qr_assign rfl) ?_
  refine aops_nil (thn_n ?_)
  refine aw_seq (aw_region ?_)
  refine qq rfl rfl (qr_build rfl (by rfl)) ?_
  first | refine aops_e rfl (oe_store_all rfl rfl rfl ?_) | refine aops_e rfl (oe_store rfl rfl rfl rfl (Nat.le_of_ble_eq_true rfl) ?_)
  refine qq rfl rfl (qr_assign rfl) ?_
  refine aops_nil (thn_n ?_)
  refine aw_ret ?_
  exact retq (.cons _ _ _ _ (.agg _ _ _ _ _ _ _ rfl inferInstance inferInstance inferInstance rfl) (.cons _ _ _ _ (.tmp _ _ rfl) .nil)) (.trans (.drop1 _ _ _) (vent_tup2 (by exact Sb.aggs (by exact ⟨.refl _, .refl _, .refl _, .refl _, .refl _, .refl _, .refl _, .refl _, .nil _ _, trivial⟩)) (by exact .refl _))) ⟨rfl, congrArg (fun b => AV.tup [.agg (evR ⟨0, 0, 0, 0, 0, ⟨0, 0⟩, 0, []⟩), bv b]) (by rfl)⟩
end Go.Proofs
/- The walk of history.event. Conditions: none. -/
set_option linter.unusedVariables false
set_option linter.unusedSimpArgs false
set_option maxRecDepth 10000
namespace Go.Proofs
open Go Go.Ab
open Go.H
theorem eventTab (h : Hist) (e : Ev) (b2 b3 k : Nat) (hl : e.scan.length ≤ 4611686018427387904) (hk : e.kind = k) (h1 : 1 ≤ k) (h7 : k < 7) :
    ∃ av, (([.v .nilFunc, .fn (.func 59) [] [.v (.pointer (some ⟨b3, 0, none⟩)), .v (.pointer (some ⟨b2, 0, none⟩))], .fn (.func 61) [] [.v (.pointer (some ⟨b3, 0, none⟩)), .v (.pointer (some ⟨b2, 0, none⟩))], .fn (.func 63) [] [.v (.pointer (some ⟨b3, 0, none⟩)), .v (.pointer (some ⟨b2, 0, none⟩))], .fn (.func 64) [] [.v (.pointer (some ⟨b2, 0, none⟩)), .v (.pointer (some ⟨b3, 0, none⟩))], .fn (.func 67) [] [], .fn (.func 68) [] []]) : List AV)[k * 1]? = some av ∧ FCall Tryd.prog av [] [.box b3 40 (evR e), .box b2 28 (histC h)] (fun r h' => h' = [.box b3 40 (evR e), .box b2 28 (histC h)] ∧ r = .tup [.agg (evR (cand h e).1), bv (cand h e).2]) := by
  rcases (by omega : k = 1 ∨ k = 2 ∨ k = 3 ∨ k = 4 ∨ k = 5 ∨ k = 6) with rfl | rfl | rfl | rfl | rfl | rfl
  · refine ⟨_, rfl, ?_⟩
    have hc : cand h e = (⟨0, 0, e.s, e.l, 0, ⟨0, 0⟩, 0, []⟩, mayBegin h e) := by unfold cand; rw [hk]; rfl
    rw [hc]
    exact FCall.of_acall (fs := []) (cs := [.v (.pointer (some ⟨b3, 0, none⟩)), .v (.pointer (some ⟨b2, 0, none⟩))]) (event1 e h b3 b2)
  · refine ⟨_, rfl, ?_⟩
    have hc : cand h e = (⟨0, 0, 0, 0, e.o, e.v, 0, []⟩, mayWrite h e) := by unfold cand; rw [hk]; rfl
    rw [hc]
    exact FCall.of_acall (fs := []) (cs := [.v (.pointer (some ⟨b3, 0, none⟩)), .v (.pointer (some ⟨b2, 0, none⟩))]) (event2 e h b3 b2)
  · refine ⟨_, rfl, ?_⟩
    have hc : cand h e = (⟨0, 0, 0, 0, e.o, e.v, 0, []⟩, mayRead h e) := by unfold cand; rw [hk]; rfl
    rw [hc]
    exact FCall.of_acall (fs := []) (cs := [.v (.pointer (some ⟨b3, 0, none⟩)), .v (.pointer (some ⟨b2, 0, none⟩))]) (event3 e h b3 b2)
  · refine ⟨_, rfl, ?_⟩
    have hc : cand h e = (⟨0, 0, 0, 0, 0, ⟨0, 0⟩, e.p, e.scan⟩, mayScan h e) := by unfold cand; rw [hk]; rfl
    rw [hc]
    exact FCall.of_acall (fs := []) (cs := [.v (.pointer (some ⟨b2, 0, none⟩)), .v (.pointer (some ⟨b3, 0, none⟩))]) (event4 e h b3 b2 hl)
  · refine ⟨_, rfl, ?_⟩
    have hc : cand h e = (⟨0, 0, 0, 0, 0, ⟨0, 0⟩, 0, []⟩, true) := by unfold cand; rw [hk]; rfl
    rw [hc]
    exact FCall.pure (R := fun x => x = _) (FCall.of_acall (fs := []) (cs := []) event5)
  · refine ⟨_, rfl, ?_⟩
    have hc : cand h e = (⟨0, 0, 0, 0, 0, ⟨0, 0⟩, 0, []⟩, true) := by unfold cand; rw [hk]; rfl
    rw [hc]
    exact FCall.pure (R := fun x => x = _) (FCall.of_acall (fs := []) (cs := []) event6)
theorem event (h : Hist) (e : Ev) (hl : e.scan.length ≤ 4611686018427387904) : ACall Tryd.prog 39 [.agg (histC h), .agg (evR e)] [] (fun r h' => h' = [] ∧ r = bv (eventB h e)) := by
  refine acall_of_aw Tryd.func39 rfl rfl rfl ?_
  refine aw_seq (aw_region ?_)
  refine aops_e rfl (oe_box rfl rfl rfl fun b2 => ?_)
  refine aops_e rfl (oe_box rfl rfl rfl fun b3 => ?_)
  refine qq rfl rfl (qr_assign rfl) ?_
  refine aops_nil (thn_n ?_)
  refine aw_seq (aw_region ?_)
  refine qq rfl rfl (qr_makeFunc rfl rfl) ?_
  refine qq rfl rfl (qr_makeFunc rfl rfl) ?_
  refine qq rfl rfl (qr_makeFunc rfl rfl) ?_
  refine qq rfl rfl (qr_makeFunc rfl rfl) ?_
  refine qq rfl rfl (qr_buildArr rfl (by rfl)) ?_
  refine aops_e rfl (oe_alloc rfl fun b5 => ?_)
  first | refine aops_e rfl (oe_store_all rfl rfl rfl ?_) | refine aops_e rfl (oe_store rfl rfl rfl rfl (Nat.le_of_ble_eq_true rfl) ?_)
  refine aops_nil (thn_n ?_)
  refine aw_seq ?_
  refine aw_seq (aw_region ?_)
  first | refine qq rfl rfl (qr_fieldAddr rfl (Nat.succ_ne_zero _)) ?_ | refine qq rfl rfl (qr_fieldAddr_pp rfl (Nat.succ_ne_zero _)) ?_ | refine qq rfl rfl (qr_fieldAddr_rp rfl (Nat.succ_ne_zero _)) ?_
  first | refine qq rfl rfl (qr_load_one rfl rfl) ?_ | refine qq rfl rfl (qr_load_pp_one rfl rfl) ?_
  refine qq rfl rfl (qr_cmp rfl rfl rfl) ?_
  refine qq rfl rfl (qr_move rfl) ?_
  refine asplit (fun hg2_3 => ?_) (fun hg2_3 => ?_)
  · refine qs rfl rfl ?_
    refine qs rfl rfl ?_
    refine qs rfl rfl ?_
    first | refine qq rfl rfl (qr_pick_t rfl rfl) ?_ | refine qq rfl rfl (qr_pick_f rfl rfl) ?_ | refine qq rfl rfl (qr_pick_b rfl rfl rfl) ?_
    refine qq rfl rfl (qr_move rfl) ?_
    refine qs rfl rfl ?_
    refine qs rfl rfl ?_
    refine qs rfl rfl ?_
    refine qs rfl rfl ?_
    refine qs rfl rfl ?_
    first | refine qq rfl rfl (qr_pick_t rfl rfl) ?_ | refine qq rfl rfl (qr_pick_f rfl rfl) ?_ | refine qq rfl rfl (qr_pick_b rfl rfl rfl) ?_
    refine aops_nil (thn_n ?_)
    refine aw_cond rfl (fun hc27 => ?_) (fun hc27 => ?_)
    · refine aw_seq (aw_region ?_)
      refine qq rfl rfl (qr_assign rfl) ?_
      refine aops_nil (thn_n ?_)
      refine aw_ret ?_
      refine thn_r ?_
      exact retq (.cons _ _ _ _ (.tmp _ _ rfl) .nil) (.drop [_, _, _] _ _) ⟨rfl, congrArg bv (by first | (simp only [eventB, *, Bool.true_and, Bool.false_and, Bool.and_false, Bool.and_true, Bool.true_or, Bool.or_false, Bool.false_or, Bool.or_true, if_true, if_false, Bool.false_eq_true, Bool.not_true, Bool.not_false]; done) | (simp_all [eventB]; done) | (simp_all [eventB] <;> omega))⟩
    · cases hc27
  · first | refine qq rfl rfl (qr_fieldAddr rfl (Nat.succ_ne_zero _)) ?_ | refine qq rfl rfl (qr_fieldAddr_pp rfl (Nat.succ_ne_zero _)) ?_ | refine qq rfl rfl (qr_fieldAddr_rp rfl (Nat.succ_ne_zero _)) ?_
    first | refine qq rfl rfl (qr_load_one rfl rfl) ?_ | refine qq rfl rfl (qr_load_pp_one rfl rfl) ?_
    refine qq rfl rfl (qr_cmp rfl rfl rfl) ?_
    first | refine qq rfl rfl (qr_pick_t rfl rfl) ?_ | refine qq rfl rfl (qr_pick_f rfl rfl) ?_ | refine qq rfl rfl (qr_pick_b rfl rfl rfl) ?_
    refine qq rfl rfl (qr_move rfl) ?_
    refine asplit (fun hg2_8 => ?_) (fun hg2_8 => ?_)
    · refine qs rfl rfl ?_
      refine qs rfl rfl ?_
      refine qs rfl rfl ?_
      refine qs rfl rfl ?_
      refine qs rfl rfl ?_
      first | refine qq rfl rfl (qr_pick_t rfl rfl) ?_ | refine qq rfl rfl (qr_pick_f rfl rfl) ?_ | refine qq rfl rfl (qr_pick_b rfl rfl rfl) ?_
      refine aops_nil (thn_n ?_)
      refine aw_cond rfl (fun hc27 => ?_) (fun hc27 => ?_)
      · refine aw_seq (aw_region ?_)
        refine qq rfl rfl (qr_assign rfl) ?_
        refine aops_nil (thn_n ?_)
        refine aw_ret ?_
        refine thn_r ?_
        exact retq (.cons _ _ _ _ (.tmp _ _ rfl) .nil) (.drop [_, _, _] _ _) ⟨rfl, congrArg bv (by first | (simp only [eventB, *, Bool.true_and, Bool.false_and, Bool.and_false, Bool.and_true, Bool.true_or, Bool.or_false, Bool.false_or, Bool.or_true, if_true, if_false, Bool.false_eq_true, Bool.not_true, Bool.not_false]; done) | (simp_all [eventB]; done) | (simp_all [eventB] <;> omega))⟩
      · cases hc27
    · first | refine qq rfl rfl (qr_load_all rfl rfl) ?_ | refine qq rfl rfl (qr_load_pp_all rfl rfl) ?_ | refine qq rfl rfl (qr_load_agg rfl (Nat.le_of_ble_eq_true rfl)) ?_ | refine qq rfl rfl (qr_load_pp_agg rfl (Nat.le_of_ble_eq_true rfl)) ?_
      first | refine qq rfl rfl (qr_fieldAddr rfl (Nat.succ_ne_zero _)) ?_ | refine qq rfl rfl (qr_fieldAddr_pp rfl (Nat.succ_ne_zero _)) ?_ | refine qq rfl rfl (qr_fieldAddr_rp rfl (Nat.succ_ne_zero _)) ?_
      first | refine qq rfl rfl (qr_load_one rfl rfl) ?_ | refine qq rfl rfl (qr_load_pp_one rfl rfl) ?_
      refine qv rfl rfl (qv_call rfl rfl (pcall (told h 0 e.t _ rfl (by decide)) (Sbs.refl _))) ?_
      refine qq rfl rfl (qr_not rfl) ?_
      first | refine qq rfl rfl (qr_pick_t rfl rfl) ?_ | refine qq rfl rfl (qr_pick_f rfl rfl) ?_ | refine qq rfl rfl (qr_pick_b rfl rfl rfl) ?_
      refine aops_nil (thn_n ?_)
      refine aw_cond rfl (fun hc27 => ?_) (fun hc27 => ?_)
      · refine aw_seq (aw_region ?_)
        refine qq rfl rfl (qr_assign rfl) ?_
        refine aops_nil (thn_n ?_)
        refine aw_ret ?_
        refine thn_r ?_
        exact retq (.cons _ _ _ _ (.tmp _ _ rfl) .nil) (.drop [_, _, _] _ _) ⟨rfl, congrArg bv (by first | (simp only [eventB, *, Bool.true_and, Bool.false_and, Bool.and_false, Bool.and_true, Bool.true_or, Bool.or_false, Bool.false_or, Bool.or_true, if_true, if_false, Bool.false_eq_true, Bool.not_true, Bool.not_false]; done) | (simp_all [eventB]; done) | (simp_all [eventB] <;> omega))⟩
      · have hlo : 1 ≤ e.kind := by simpa using hg2_3
        have hhi : e.kind < 7 := by simpa using hg2_8
        obtain ⟨k, hk⟩ := Int.eq_ofNat_of_zero_le (show 0 ≤ e.kind by omega)
        obtain ⟨av, hav, hfc⟩ := eventTab h e b2 b3 k hl hk (by omega) (by omega)
        refine aw_skip ?_
        refine thn_n ?_
        refine aw_seq (aw_region ?_)
        first | refine qq rfl rfl (qr_fieldAddr rfl (Nat.succ_ne_zero _)) ?_ | refine qq rfl rfl (qr_fieldAddr_pp rfl (Nat.succ_ne_zero _)) ?_ | refine qq rfl rfl (qr_fieldAddr_rp rfl (Nat.succ_ne_zero _)) ?_
        first | refine qq rfl rfl (qr_load_one rfl rfl) ?_ | refine qq rfl rfl (qr_load_pp_one rfl rfl) ?_
        refine qq rfl rfl (qr_indexAddr_arr rfl (by rw [← hk]; rfl) (by omega)) ?_
        refine qq rfl rfl (qr_load_one rfl (by simpa using hav)) ?_
        refine qv rfl rfl (qv_call rfl rfl (FCall.quiet (R := fun x => x = _) (h2 := [_]) (List.perm_append_comm (l₁ := [_])) hfc)) ?_
        refine qq rfl rfl (qr_move rfl) ?_
        refine qq rfl rfl (qr_extract rfl rfl) ?_
        refine qq rfl rfl (qr_extract rfl rfl) ?_
        refine aops_e rfl (oe_alloc rfl fun b6 => ?_)
        first | refine aops_e rfl (oe_store_all rfl rfl rfl ?_) | refine aops_e rfl (oe_store rfl rfl rfl rfl (Nat.le_of_ble_eq_true rfl) ?_)
        refine qq rfl rfl (qr_assign rfl) ?_
        refine aops_nil (thn_n ?_)
        refine aw_seq ?_
        refine aw_drawS 6 [(b6, 40, _)] rfl (List.perm_append_comm (l₁ := [_])) ?_
        first | refine dq rfl rfl (qr_fieldAddr rfl (Nat.succ_ne_zero _)) ?_ | refine dq rfl rfl (qr_fieldAddr_pp rfl (Nat.succ_ne_zero _)) ?_ | refine dq rfl rfl (qr_fieldAddr_rp rfl (Nat.succ_ne_zero _)) ?_
        first | refine dq rfl rfl (qr_load_one rfl rfl) ?_ | refine dq rfl rfl (qr_load_pp_one rfl rfl) ?_
        first | refine dq rfl rfl (qr_fieldAddr rfl (Nat.succ_ne_zero _)) ?_ | refine dq rfl rfl (qr_fieldAddr_pp rfl (Nat.succ_ne_zero _)) ?_ | refine dq rfl rfl (qr_fieldAddr_rp rfl (Nat.succ_ne_zero _)) ?_
        first | refine dq rfl rfl (qr_load_one rfl rfl) ?_ | refine dq rfl rfl (qr_load_pp_one rfl rfl) ?_
        first | refine dq rfl rfl (qr_fieldAddr rfl (Nat.succ_ne_zero _)) ?_ | refine dq rfl rfl (qr_fieldAddr_pp rfl (Nat.succ_ne_zero _)) ?_ | refine dq rfl rfl (qr_fieldAddr_rp rfl (Nat.succ_ne_zero _)) ?_
        refine dw 0 rfl rfl rfl rfl rfl (Nat.le_of_ble_eq_true rfl) ?_
        refine dnil ⟨rfl, ?_⟩
        refine dalloc_s rfl ?_
        refine dalloc_s rfl ?_
        refine dalloc_s rfl ?_
        refine dalloc_s rfl ?_
        refine dalloc_s rfl ?_
        refine dalloc_s rfl ?_
        refine dalloc_nil ?_
        show aops _ _ _ _ _ _ ⟨_, [.box b6 40 _, .box b5 _ _, .box b3 40 (evR e), .box b2 28 (histC h)], _⟩
        first | refine qq rfl rfl (qr_fieldAddr rfl (Nat.succ_ne_zero _)) ?_ | refine qq rfl rfl (qr_fieldAddr_pp rfl (Nat.succ_ne_zero _)) ?_ | refine qq rfl rfl (qr_fieldAddr_rp rfl (Nat.succ_ne_zero _)) ?_
        first | refine aops_e rfl (oe_store_all rfl rfl rfl ?_) | refine aops_e rfl (oe_store rfl rfl rfl rfl (Nat.le_of_ble_eq_true rfl) ?_)
        refine aops_nil (thn_n ?_)
        refine aw_seq (aw_region ?_)
        refine qq rfl rfl (qr_move rfl) ?_
        refine qq rfl rfl (qr_move rfl) ?_
        refine asplit (fun hg6_1 => ?_) (fun hg6_1 => ?_)
        · first | refine qq rfl rfl (qr_load_all rfl rfl) ?_ | refine qq rfl rfl (qr_load_pp_all rfl rfl) ?_ | refine qq rfl rfl (qr_load_agg rfl (Nat.le_of_ble_eq_true rfl)) ?_ | refine qq rfl rfl (qr_load_pp_agg rfl (Nat.le_of_ble_eq_true rfl)) ?_
          first | refine qq rfl rfl (qr_load_all rfl rfl) ?_ | refine qq rfl rfl (qr_load_pp_all rfl rfl) ?_ | refine qq rfl rfl (qr_load_agg rfl (Nat.le_of_ble_eq_true rfl)) ?_ | refine qq rfl rfl (qr_load_pp_agg rfl (Nat.le_of_ble_eq_true rfl)) ?_
          refine qv rfl rfl (qv_call rfl rfl (pcall (sameEvent { (cand h e).1 with kind := e.kind, t := e.t } e (cand_scan h e hl) hl) (by exact Sbs.refl _))) ?_
          first | refine qq rfl rfl (qr_pick_t rfl rfl) ?_ | refine qq rfl rfl (qr_pick_f rfl rfl) ?_ | refine qq rfl rfl (qr_pick_b rfl rfl rfl) ?_
          refine qq rfl rfl (qr_assign rfl) ?_
          refine aops_nil (thn_n ?_)
          refine aw_ret ?_
          exact retq (.cons _ _ _ _ (.tmp _ _ rfl) .nil) (.drop [_, _, _, _] _ _) ⟨rfl, congrArg bv (by first | (simp only [eventB, *, Bool.true_and, Bool.false_and, Bool.and_false, Bool.and_true, Bool.true_or, Bool.or_false, Bool.false_or, Bool.or_true, if_true, if_false, Bool.false_eq_true, Bool.not_true, Bool.not_false]; done) | (simp_all [eventB]; done) | (simp_all [eventB] <;> omega))⟩
        · refine qs rfl rfl ?_
          refine qs rfl rfl ?_
          refine qs rfl rfl ?_
          first | refine qq rfl rfl (qr_pick_t rfl rfl) ?_ | refine qq rfl rfl (qr_pick_f rfl rfl) ?_ | refine qq rfl rfl (qr_pick_b rfl rfl rfl) ?_
          refine qq rfl rfl (qr_assign rfl) ?_
          refine aops_nil (thn_n ?_)
          refine aw_ret ?_
          exact retq (.cons _ _ _ _ (.tmp _ _ rfl) .nil) (.drop [_, _, _, _] _ _) ⟨rfl, congrArg bv (by first | (simp only [eventB, *, Bool.true_and, Bool.false_and, Bool.and_false, Bool.and_true, Bool.true_or, Bool.or_false, Bool.false_or, Bool.or_true, if_true, if_false, Bool.false_eq_true, Bool.not_true, Bool.not_false]; done) | (simp_all [eventB]; done) | (simp_all [eventB] <;> omega))⟩
end Go.Proofs
/- The walks of the closures of history.shaped. Conditions: none. -/
set_option linter.unusedVariables false
set_option linter.unusedSimpArgs false
set_option maxRecDepth 10000
namespace Go.Proofs
open Go Go.Ab
open Go.H
theorem shaped11 (h : Hist) (b : Nat) (t : Int) : ACall Tryd.prog 35 [iv t, .v (.pointer (some ⟨b, 0, none⟩))] [.box b 28 (histC h)] (fun r h' => h' = [.box b 28 (histC h)] ∧ r = bv (toldB h.ts t)) := by
  refine acall_of_aw Tryd.func35 rfl rfl rfl ?_
  refine aw_seq (aw_region ?_)
  refine qq rfl rfl (qr_assign rfl) ?_
  refine aops_nil (thn_n ?_)
  refine aw_seq (aw_region ?_)
  first | refine qq rfl rfl (qr_load_all rfl rfl) ?_ | refine qq rfl rfl (qr_load_pp_all rfl rfl) ?_ | refine qq rfl rfl (qr_load_agg rfl (Nat.le_of_ble_eq_true rfl)) ?_ | refine qq rfl rfl (qr_load_pp_agg rfl (Nat.le_of_ble_eq_true rfl)) ?_
  refine qq rfl rfl (qr_move rfl) ?_
  refine qv rfl rfl (qv_call rfl rfl (pcall (told h 0 _ _ rfl (by decide)) (Sbs.refl _))) ?_
  refine qq rfl rfl (qr_assign rfl) ?_
  refine aops_nil (thn_n ?_)
  refine aw_ret ?_
  exact retq (.cons _ _ _ _ (.tmp _ _ rfl) .nil) (.refl _ _) ⟨rfl, congrArg bv (by rfl)⟩
theorem shaped1 {full : Bool} (h : Hist) (b : Nat) (ts : List Int) (hl : ts.length ≤ 4611686018427387904) : ACall Tryd.prog 33 [.list full 1 (ts.map intR), .v (.pointer (some ⟨b, 0, none⟩))] [.box b 28 (histC h)] (fun r h' => h' = [.box b 28 (histC h)] ∧ r = bv (tsB h ts)) := by
  refine acall_of_aw Tryd.func33 rfl rfl rfl ?_
  refine aw_seq (aw_region ?_)
  refine qq rfl rfl (qr_assign rfl) ?_
  refine aops_nil (thn_n ?_)
  refine aw_seq (aw_region ?_)
  refine qq rfl rfl (qr_move rfl) ?_
  refine qq rfl rfl (qr_len_list rfl) ?_
  refine qq rfl rfl (qr_cmp rfl rfl rfl) ?_
  refine qq rfl rfl (qr_move rfl) ?_
  refine asplit (fun hg1_3 => ?_) (fun hg1_3 => ?_)
  · refine qq rfl rfl (qr_move rfl) ?_
    refine qq rfl rfl (qr_makeFunc rfl rfl) ?_
    refine qv rfl rfl (qv_call rfl rfl (FCall.of_fun (allInt ts (.fn (.func 35) [] [.v (.pointer (some ⟨b, 0, none⟩))]) (toldB h.ts) [.box b 28 (histC h)] rfl (fun t _ => FCall.of_acall (fs := []) (cs := [.v (.pointer (some ⟨b, 0, none⟩))]) (shaped11 h b t)) hl))) ?_
    first | refine qq rfl rfl (qr_pick_t rfl rfl) ?_ | refine qq rfl rfl (qr_pick_f rfl rfl) ?_ | refine qq rfl rfl (qr_pick_b rfl rfl rfl) ?_
    refine qq rfl rfl (qr_assign rfl) ?_
    refine aops_nil (thn_n ?_)
    refine aw_ret ?_
    exact retq (.cons _ _ _ _ (.tmp _ _ rfl) .nil) (.refl _ _) ⟨rfl, congrArg bv (by first | (simp only [tsB, *, Bool.true_and, Bool.false_and, Bool.and_false, Bool.and_true, Bool.true_or, Bool.or_false, Bool.false_or, Bool.or_true, if_true, if_false, Bool.false_eq_true, Bool.not_true, Bool.not_false]; done) | (simp_all [tsB]; done) | (simp_all [tsB] <;> omega))⟩
  · refine qs rfl rfl ?_
    refine qs rfl rfl ?_
    refine qs rfl rfl ?_
    first | refine qq rfl rfl (qr_pick_t rfl rfl) ?_ | refine qq rfl rfl (qr_pick_f rfl rfl) ?_ | refine qq rfl rfl (qr_pick_b rfl rfl rfl) ?_
    refine qq rfl rfl (qr_assign rfl) ?_
    refine aops_nil (thn_n ?_)
    refine aw_ret ?_
    exact retq (.cons _ _ _ _ (.tmp _ _ rfl) .nil) (.refl _ _) ⟨rfl, congrArg bv (by first | (simp only [tsB, *, Bool.true_and, Bool.false_and, Bool.and_false, Bool.and_true, Bool.true_or, Bool.or_false, Bool.false_or, Bool.or_true, if_true, if_false, Bool.false_eq_true, Bool.not_true, Bool.not_false]; done) | (simp_all [tsB]; done) | (simp_all [tsB] <;> omega))⟩
theorem shaped2 (h : Hist) (b : Nat) (e : Ev) (hl : e.scan.length ≤ 4611686018427387904) : ACall Tryd.prog 38 [.agg (evR e), .v (.pointer (some ⟨b, 0, none⟩))] [.box b 28 (histC h)] (fun r h' => h' = [.box b 28 (histC h)] ∧ r = bv (eventB h e)) := by
  refine acall_of_aw Tryd.func38 rfl rfl rfl ?_
  refine aw_seq (aw_region ?_)
  refine aops_e rfl (oe_box rfl rfl rfl fun b2 => ?_)
  refine qq rfl rfl (qr_assign rfl) ?_
  refine aops_nil (thn_n ?_)
  refine aw_seq (aw_region ?_)
  first | refine qq rfl rfl (qr_load_all rfl rfl) ?_ | refine qq rfl rfl (qr_load_pp_all rfl rfl) ?_ | refine qq rfl rfl (qr_load_agg rfl (Nat.le_of_ble_eq_true rfl)) ?_ | refine qq rfl rfl (qr_load_pp_agg rfl (Nat.le_of_ble_eq_true rfl)) ?_
  first | refine qq rfl rfl (qr_load_all rfl rfl) ?_ | refine qq rfl rfl (qr_load_pp_all rfl rfl) ?_ | refine qq rfl rfl (qr_load_agg rfl (Nat.le_of_ble_eq_true rfl)) ?_ | refine qq rfl rfl (qr_load_pp_agg rfl (Nat.le_of_ble_eq_true rfl)) ?_
  refine qv rfl rfl (qv_call rfl rfl (pcall (event h e hl) (Sbs.refl _))) ?_
  refine qq rfl rfl (qr_assign rfl) ?_
  refine aops_nil (thn_n ?_)
  refine aw_ret ?_
  exact retq (.cons _ _ _ _ (.tmp _ _ rfl) .nil) (.drop1 _ _ _) ⟨rfl, congrArg bv (by rfl)⟩
theorem shaped3 (h : Hist) (b c : Nat) (m : H.Ord) (hl : m.ts.length ≤ 4611686018427387904) : ACall Tryd.prog 41 [.agg (ordR m), .v (.pointer (some ⟨b, 0, none⟩)), .v (.pointer (some ⟨c, 0, none⟩))] [.box b 28 (histC h), .box c 87 [.fn (.func 33) [] [.v (.pointer (some ⟨b, 0, none⟩))]]] (fun r h' => h' = [.box b 28 (histC h), .box c 87 [.fn (.func 33) [] [.v (.pointer (some ⟨b, 0, none⟩))]]] ∧ r = bv (ordB h m)) := by
  refine acall_of_aw Tryd.func41 rfl rfl rfl ?_
  refine aw_seq (aw_region ?_)
  refine aops_e rfl (oe_box rfl rfl rfl fun b3 => ?_)
  refine qq rfl rfl (qr_assign rfl) ?_
  refine aops_nil (thn_n ?_)
  refine aw_seq (aw_region ?_)
  first | refine qq rfl rfl (qr_load_all rfl rfl) ?_ | refine qq rfl rfl (qr_load_pp_all rfl rfl) ?_ | refine qq rfl rfl (qr_load_agg rfl (Nat.le_of_ble_eq_true rfl)) ?_ | refine qq rfl rfl (qr_load_pp_agg rfl (Nat.le_of_ble_eq_true rfl)) ?_
  first | refine qq rfl rfl (qr_fieldAddr rfl (Nat.succ_ne_zero _)) ?_ | refine qq rfl rfl (qr_fieldAddr_pp rfl (Nat.succ_ne_zero _)) ?_ | refine qq rfl rfl (qr_fieldAddr_rp rfl (Nat.succ_ne_zero _)) ?_
  first | refine qq rfl rfl (qr_load_one rfl rfl) ?_ | refine qq rfl rfl (qr_load_pp_one rfl rfl) ?_
  refine qv rfl rfl (qv_call rfl rfl (pcall (told h 2 _ _ rfl (by decide)) (Sbs.refl _))) ?_
  refine qq rfl rfl (qr_move rfl) ?_
  refine asplit (fun hg1_4 => ?_) (fun hg1_4 => ?_)
  · first | refine qq rfl rfl (qr_load_one rfl rfl) ?_ | refine qq rfl rfl (qr_load_pp_one rfl rfl) ?_
    first | refine qq rfl rfl (qr_fieldAddr rfl (Nat.succ_ne_zero _)) ?_ | refine qq rfl rfl (qr_fieldAddr_pp rfl (Nat.succ_ne_zero _)) ?_ | refine qq rfl rfl (qr_fieldAddr_rp rfl (Nat.succ_ne_zero _)) ?_
    first | refine qq rfl rfl (qr_load_one rfl rfl) ?_ | refine qq rfl rfl (qr_load_pp_one rfl rfl) ?_
    refine qv rfl rfl (qv_call rfl rfl (FCall.quiet (R := fun x => x = bv (tsB h m.ts)) (h2 := [_, _]) (List.Perm.swap _ _ _) (FCall.of_acall (fs := []) (cs := [.v (.pointer (some ⟨b, 0, none⟩))]) (shaped1 h b m.ts hl)))) ?_
    first | refine qq rfl rfl (qr_pick_t rfl rfl) ?_ | refine qq rfl rfl (qr_pick_f rfl rfl) ?_ | refine qq rfl rfl (qr_pick_b rfl rfl rfl) ?_
    refine qq rfl rfl (qr_assign rfl) ?_
    refine aops_nil (thn_n ?_)
    refine aw_ret ?_
    exact retq (.cons _ _ _ _ (.tmp _ _ rfl) .nil) (.drop1 _ _ _) ⟨rfl, congrArg bv (by first | (simp only [ordB, *, Bool.true_and, Bool.false_and, Bool.and_false, Bool.and_true, Bool.true_or, Bool.or_false, Bool.false_or, Bool.or_true, if_true, if_false, Bool.false_eq_true, Bool.not_true, Bool.not_false]; done) | (simp_all [ordB]; done) | (simp_all [ordB] <;> omega))⟩
  · refine qs rfl rfl ?_
    refine qs rfl rfl ?_
    refine qs rfl rfl ?_
    refine qs rfl rfl ?_
    first | refine qq rfl rfl (qr_pick_t rfl rfl) ?_ | refine qq rfl rfl (qr_pick_f rfl rfl) ?_ | refine qq rfl rfl (qr_pick_b rfl rfl rfl) ?_
    refine qq rfl rfl (qr_assign rfl) ?_
    refine aops_nil (thn_n ?_)
    refine aw_ret ?_
    exact retq (.cons _ _ _ _ (.tmp _ _ rfl) .nil) (.drop1 _ _ _) ⟨rfl, congrArg bv (by first | (simp only [ordB, *, Bool.true_and, Bool.false_and, Bool.and_false, Bool.and_true, Bool.true_or, Bool.or_false, Bool.false_or, Bool.or_true, if_true, if_false, Bool.false_eq_true, Bool.not_true, Bool.not_false]; done) | (simp_all [ordB]; done) | (simp_all [ordB] <;> omega))⟩
theorem shaped4 (h : Hist) (b c : Nat) (m : Mat) (hl : m.ts.length ≤ 4611686018427387904) : ACall Tryd.prog 43 [.agg (matR m), .v (.pointer (some ⟨b, 0, none⟩)), .v (.pointer (some ⟨c, 0, none⟩))] [.box b 28 (histC h), .box c 87 [.fn (.func 33) [] [.v (.pointer (some ⟨b, 0, none⟩))]]] (fun r h' => h' = [.box b 28 (histC h), .box c 87 [.fn (.func 33) [] [.v (.pointer (some ⟨b, 0, none⟩))]]] ∧ r = bv (matB h m)) := by
  refine acall_of_aw Tryd.func43 rfl rfl rfl ?_
  refine aw_seq (aw_region ?_)
  refine aops_e rfl (oe_box rfl rfl rfl fun b3 => ?_)
  refine qq rfl rfl (qr_assign rfl) ?_
  refine aops_nil (thn_n ?_)
  refine aw_seq (aw_region ?_)
  first | refine qq rfl rfl (qr_load_all rfl rfl) ?_ | refine qq rfl rfl (qr_load_pp_all rfl rfl) ?_ | refine qq rfl rfl (qr_load_agg rfl (Nat.le_of_ble_eq_true rfl)) ?_ | refine qq rfl rfl (qr_load_pp_agg rfl (Nat.le_of_ble_eq_true rfl)) ?_
  first | refine qq rfl rfl (qr_fieldAddr rfl (Nat.succ_ne_zero _)) ?_ | refine qq rfl rfl (qr_fieldAddr_pp rfl (Nat.succ_ne_zero _)) ?_ | refine qq rfl rfl (qr_fieldAddr_rp rfl (Nat.succ_ne_zero _)) ?_
  first | refine qq rfl rfl (qr_load_one rfl rfl) ?_ | refine qq rfl rfl (qr_load_pp_one rfl rfl) ?_
  refine qv rfl rfl (qv_call rfl rfl (pcall (told h 3 _ _ rfl (by decide)) (Sbs.refl _))) ?_
  refine qq rfl rfl (qr_move rfl) ?_
  refine asplit (fun hg1_4 => ?_) (fun hg1_4 => ?_)
  · first | refine qq rfl rfl (qr_load_all rfl rfl) ?_ | refine qq rfl rfl (qr_load_pp_all rfl rfl) ?_ | refine qq rfl rfl (qr_load_agg rfl (Nat.le_of_ble_eq_true rfl)) ?_ | refine qq rfl rfl (qr_load_pp_agg rfl (Nat.le_of_ble_eq_true rfl)) ?_
    first | refine qq rfl rfl (qr_fieldAddr rfl (Nat.succ_ne_zero _)) ?_ | refine qq rfl rfl (qr_fieldAddr_pp rfl (Nat.succ_ne_zero _)) ?_ | refine qq rfl rfl (qr_fieldAddr_rp rfl (Nat.succ_ne_zero _)) ?_
    first | refine qq rfl rfl (qr_load_one rfl rfl) ?_ | refine qq rfl rfl (qr_load_pp_one rfl rfl) ?_
    refine qv rfl rfl (qv_call rfl rfl (pcall (told h 2 _ _ rfl (by decide)) (Sbs.refl _))) ?_
    first | refine qq rfl rfl (qr_pick_t rfl rfl) ?_ | refine qq rfl rfl (qr_pick_f rfl rfl) ?_ | refine qq rfl rfl (qr_pick_b rfl rfl rfl) ?_
    refine qq rfl rfl (qr_move rfl) ?_
    refine asplit (fun hg1_10 => ?_) (fun hg1_10 => ?_)
    · first | refine qq rfl rfl (qr_load_one rfl rfl) ?_ | refine qq rfl rfl (qr_load_pp_one rfl rfl) ?_
      first | refine qq rfl rfl (qr_fieldAddr rfl (Nat.succ_ne_zero _)) ?_ | refine qq rfl rfl (qr_fieldAddr_pp rfl (Nat.succ_ne_zero _)) ?_ | refine qq rfl rfl (qr_fieldAddr_rp rfl (Nat.succ_ne_zero _)) ?_
      first | refine qq rfl rfl (qr_load_one rfl rfl) ?_ | refine qq rfl rfl (qr_load_pp_one rfl rfl) ?_
      refine qv rfl rfl (qv_call rfl rfl (FCall.quiet (R := fun x => x = bv (tsB h m.ts)) (h2 := [_, _]) (List.Perm.swap _ _ _) (FCall.of_acall (fs := []) (cs := [.v (.pointer (some ⟨b, 0, none⟩))]) (shaped1 h b m.ts hl)))) ?_
      first | refine qq rfl rfl (qr_pick_t rfl rfl) ?_ | refine qq rfl rfl (qr_pick_f rfl rfl) ?_ | refine qq rfl rfl (qr_pick_b rfl rfl rfl) ?_
      refine qq rfl rfl (qr_assign rfl) ?_
      refine aops_nil (thn_n ?_)
      refine aw_ret ?_
      exact retq (.cons _ _ _ _ (.tmp _ _ rfl) .nil) (.drop1 _ _ _) ⟨rfl, congrArg bv (by first | (simp only [matB, *, Bool.true_and, Bool.false_and, Bool.and_false, Bool.and_true, Bool.true_or, Bool.or_false, Bool.false_or, Bool.or_true, if_true, if_false, Bool.false_eq_true, Bool.not_true, Bool.not_false]; done) | (simp_all [matB]; done) | (simp_all [matB] <;> omega))⟩
    · refine qs rfl rfl ?_
      refine qs rfl rfl ?_
      refine qs rfl rfl ?_
      refine qs rfl rfl ?_
      first | refine qq rfl rfl (qr_pick_t rfl rfl) ?_ | refine qq rfl rfl (qr_pick_f rfl rfl) ?_ | refine qq rfl rfl (qr_pick_b rfl rfl rfl) ?_
      refine qq rfl rfl (qr_assign rfl) ?_
      refine aops_nil (thn_n ?_)
      refine aw_ret ?_
      exact retq (.cons _ _ _ _ (.tmp _ _ rfl) .nil) (.drop1 _ _ _) ⟨rfl, congrArg bv (by first | (simp only [matB, *, Bool.true_and, Bool.false_and, Bool.and_false, Bool.and_true, Bool.true_or, Bool.or_false, Bool.false_or, Bool.or_true, if_true, if_false, Bool.false_eq_true, Bool.not_true, Bool.not_false]; done) | (simp_all [matB]; done) | (simp_all [matB] <;> omega))⟩
  · refine qs rfl rfl ?_
    refine qs rfl rfl ?_
    refine qs rfl rfl ?_
    refine qs rfl rfl ?_
    first | refine qq rfl rfl (qr_pick_t rfl rfl) ?_ | refine qq rfl rfl (qr_pick_f rfl rfl) ?_ | refine qq rfl rfl (qr_pick_b rfl rfl rfl) ?_
    refine qq rfl rfl (qr_move rfl) ?_
    refine qs rfl rfl ?_
    refine qs rfl rfl ?_
    refine qs rfl rfl ?_
    refine qs rfl rfl ?_
    first | refine qq rfl rfl (qr_pick_t rfl rfl) ?_ | refine qq rfl rfl (qr_pick_f rfl rfl) ?_ | refine qq rfl rfl (qr_pick_b rfl rfl rfl) ?_
    refine qq rfl rfl (qr_assign rfl) ?_
    refine aops_nil (thn_n ?_)
    refine aw_ret ?_
    exact retq (.cons _ _ _ _ (.tmp _ _ rfl) .nil) (.drop1 _ _ _) ⟨rfl, congrArg bv (by first | (simp only [matB, *, Bool.true_and, Bool.false_and, Bool.and_false, Bool.and_true, Bool.true_or, Bool.or_false, Bool.false_or, Bool.or_true, if_true, if_false, Bool.false_eq_true, Bool.not_true, Bool.not_false]; done) | (simp_all [matB]; done) | (simp_all [matB] <;> omega))⟩
theorem shaped5 (h : Hist) (b : Nat) (w : Wan) : ACall Tryd.prog 45 [.agg (wanR w), .v (.pointer (some ⟨b, 0, none⟩))] [.box b 28 (histC h)] (fun r h' => h' = [.box b 28 (histC h)] ∧ r = bv (wanB h w)) := by
  refine acall_of_aw Tryd.func45 rfl rfl rfl ?_
  refine aw_seq (aw_region ?_)
  refine aops_e rfl (oe_box rfl rfl rfl fun b2 => ?_)
  refine qq rfl rfl (qr_assign rfl) ?_
  refine aops_nil (thn_n ?_)
  refine aw_seq (aw_region ?_)
  first | refine qq rfl rfl (qr_load_all rfl rfl) ?_ | refine qq rfl rfl (qr_load_pp_all rfl rfl) ?_ | refine qq rfl rfl (qr_load_agg rfl (Nat.le_of_ble_eq_true rfl)) ?_ | refine qq rfl rfl (qr_load_pp_agg rfl (Nat.le_of_ble_eq_true rfl)) ?_
  first | refine qq rfl rfl (qr_fieldAddr rfl (Nat.succ_ne_zero _)) ?_ | refine qq rfl rfl (qr_fieldAddr_pp rfl (Nat.succ_ne_zero _)) ?_ | refine qq rfl rfl (qr_fieldAddr_rp rfl (Nat.succ_ne_zero _)) ?_
  first | refine qq rfl rfl (qr_load_one rfl rfl) ?_ | refine qq rfl rfl (qr_load_pp_one rfl rfl) ?_
  refine qv rfl rfl (qv_call rfl rfl (pcall (told h 1 _ _ rfl (by decide)) (Sbs.refl _))) ?_
  refine qq rfl rfl (qr_move rfl) ?_
  refine asplit (fun hg1_4 => ?_) (fun hg1_4 => ?_)
  · first | refine qq rfl rfl (qr_fieldAddr rfl (Nat.succ_ne_zero _)) ?_ | refine qq rfl rfl (qr_fieldAddr_pp rfl (Nat.succ_ne_zero _)) ?_ | refine qq rfl rfl (qr_fieldAddr_rp rfl (Nat.succ_ne_zero _)) ?_
    first | refine qq rfl rfl (qr_load_one rfl rfl) ?_ | refine qq rfl rfl (qr_load_pp_one rfl rfl) ?_
    refine qq rfl rfl (qr_cmp rfl rfl rfl) ?_
    first | refine qq rfl rfl (qr_pick_t rfl rfl) ?_ | refine qq rfl rfl (qr_pick_f rfl rfl) ?_ | refine qq rfl rfl (qr_pick_b rfl rfl rfl) ?_
    refine qq rfl rfl (qr_move rfl) ?_
    refine asplit (fun hg1_9 => ?_) (fun hg1_9 => ?_)
    · first | refine qq rfl rfl (qr_fieldAddr rfl (Nat.succ_ne_zero _)) ?_ | refine qq rfl rfl (qr_fieldAddr_pp rfl (Nat.succ_ne_zero _)) ?_ | refine qq rfl rfl (qr_fieldAddr_rp rfl (Nat.succ_ne_zero _)) ?_
      first | refine qq rfl rfl (qr_load_one rfl rfl) ?_ | refine qq rfl rfl (qr_load_pp_one rfl rfl) ?_
      refine qq rfl rfl (qr_cmp rfl rfl rfl) ?_
      first | refine qq rfl rfl (qr_pick_t rfl rfl) ?_ | refine qq rfl rfl (qr_pick_f rfl rfl) ?_ | refine qq rfl rfl (qr_pick_b rfl rfl rfl) ?_
      refine qq rfl rfl (qr_assign rfl) ?_
      refine aops_nil (thn_n ?_)
      refine aw_ret ?_
      exact retq (.cons _ _ _ _ (.tmp _ _ rfl) .nil) (.drop1 _ _ _) ⟨rfl, congrArg bv (by first | (simp only [wanB, *, Bool.true_and, Bool.false_and, Bool.and_false, Bool.and_true, Bool.true_or, Bool.or_false, Bool.false_or, Bool.or_true, if_true, if_false, Bool.false_eq_true, Bool.not_true, Bool.not_false]; done) | (simp_all [wanB]; done) | (simp_all [wanB] <;> omega))⟩
    · refine qs rfl rfl ?_
      refine qs rfl rfl ?_
      refine qs rfl rfl ?_
      first | refine qq rfl rfl (qr_pick_t rfl rfl) ?_ | refine qq rfl rfl (qr_pick_f rfl rfl) ?_ | refine qq rfl rfl (qr_pick_b rfl rfl rfl) ?_
      refine qq rfl rfl (qr_assign rfl) ?_
      refine aops_nil (thn_n ?_)
      refine aw_ret ?_
      exact retq (.cons _ _ _ _ (.tmp _ _ rfl) .nil) (.drop1 _ _ _) ⟨rfl, congrArg bv (by first | (simp only [wanB, *, Bool.true_and, Bool.false_and, Bool.and_false, Bool.and_true, Bool.true_or, Bool.or_false, Bool.false_or, Bool.or_true, if_true, if_false, Bool.false_eq_true, Bool.not_true, Bool.not_false]; done) | (simp_all [wanB]; done) | (simp_all [wanB] <;> omega))⟩
  · refine qs rfl rfl ?_
    refine qs rfl rfl ?_
    refine qs rfl rfl ?_
    first | refine qq rfl rfl (qr_pick_t rfl rfl) ?_ | refine qq rfl rfl (qr_pick_f rfl rfl) ?_ | refine qq rfl rfl (qr_pick_b rfl rfl rfl) ?_
    refine qq rfl rfl (qr_move rfl) ?_
    refine qs rfl rfl ?_
    refine qs rfl rfl ?_
    refine qs rfl rfl ?_
    first | refine qq rfl rfl (qr_pick_t rfl rfl) ?_ | refine qq rfl rfl (qr_pick_f rfl rfl) ?_ | refine qq rfl rfl (qr_pick_b rfl rfl rfl) ?_
    refine qq rfl rfl (qr_assign rfl) ?_
    refine aops_nil (thn_n ?_)
    refine aw_ret ?_
    exact retq (.cons _ _ _ _ (.tmp _ _ rfl) .nil) (.drop1 _ _ _) ⟨rfl, congrArg bv (by first | (simp only [wanB, *, Bool.true_and, Bool.false_and, Bool.and_false, Bool.and_true, Bool.true_or, Bool.or_false, Bool.false_or, Bool.or_true, if_true, if_false, Bool.false_eq_true, Bool.not_true, Bool.not_false]; done) | (simp_all [wanB]; done) | (simp_all [wanB] <;> omega))⟩
end Go.Proofs
