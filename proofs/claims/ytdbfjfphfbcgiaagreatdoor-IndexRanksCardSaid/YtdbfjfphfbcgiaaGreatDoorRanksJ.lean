/- The walk of the reference's test of an event. Conditions: none. -/
import Derived.Test.YtdbfjfphfbcgiaaGreatDoorRanksI
set_option linter.unusedSectionVars false
set_option linter.unusedSimpArgs false
set_option linter.unusedVariables false
set_option linter.unusedVariables false
set_option linter.unusedSimpArgs false
set_option maxRecDepth 10000
namespace Go.Proofs
open Go Go.Ab
attribute [local irreducible] QR QV OE aops aw dsoup dsoupM dalloc dallocM thn inBlk
open Go.H
theorem refRightEv (h : Hist) (e : Ev) (hl : e.scan.length ≤ 4611686018427387904) : ACall Tryz.prog 120 [.agg (histC h), .agg (evR e)] [] (fun r h' => h' = [] ∧ r = bv (rightEv h e)) := by
  refine acall_of_aw Tryz.func120 rfl rfl rfl ?_
  refine rn ?_
  refine aops_e rfl (oe_box rfl rfl rfl fun b2 => ?_)
  refine aops_e rfl (oe_box rfl rfl rfl fun b3 => ?_)
  refine rn ?_
  refine qv rfl rfl (qv_call rfl rfl (pcall (refIs _ _) (Sbs.refl _))) ?_
  refine rn ?_
  refine aw_cond rfl (fun hc16 => ?_) (fun hc16 => ?_)
  · refine rn ?_
    exact retq (.cons _ _ _ _ (.tmp _ _ rfl) .nil) (.drop [_, _] _ _) ⟨rfl, congrArg bv (by first | (simp only [rightEv, bareE, *, Bool.true_and, Bool.false_and, Bool.and_false, Bool.and_true, Bool.true_or, Bool.or_false, Bool.false_or, Bool.or_true, if_true, if_false, Bool.false_eq_true, Bool.not_true, Bool.not_false]; done) | (simp_all [rightEv, bareE]; done) | (simp_all [rightEv, bareE] <;> omega))⟩
  · refine rn ?_
    refine aops_e rfl (oe_alloc rfl fun b6 => ?_)
    refine rn ?_
    refine aw_cond rfl (fun hc24 => ?_) (fun hc24 => ?_)
    · refine rn ?_
      refine aw_drawS 6 [(b6, 72, _)] rfl (List.perm_append_comm (l₁ := [_])) ?_
      refine rn ?_
      refine dw 0 rfl rfl rfl rfl rfl (Nat.le_of_ble_eq_true rfl) ?_
      refine rn2 ?_
      show aops _ _ _ _ _ _ ⟨_, .box b6 72 [iv e.kind, iv e.t, iv e.s, iv 0, iv 0, iv 0, iv 0, iv 0, .v (.slice none 0 0)] :: .box b3 72 (evR e) :: .box b2 28 (histC h) :: [], _⟩
      refine rn0 ?_
      refine aw_seq ?_
      show aw _ _ _ _ _ ⟨_, .box b6 72 [iv e.kind, iv e.t, iv e.s, iv e.l, iv 0, iv 0, iv 0, iv 0, .v (.slice none 0 0)] :: .box b3 72 (evR e) :: .box b2 28 (histC h) :: [], _⟩
      refine rn ?_
      refine qv rfl rfl (qv_call rfl rfl (pcall (refEvent ⟨e.kind, e.t, e.s, e.l, 0, ⟨0, 0⟩, 0, []⟩ e (by simp [hl]) hl) (by exact ⟨(by exact Sb.aggs (by exact ⟨.refl _, .refl _, .refl _, .refl _, .refl _, .refl _, .refl _, .refl _, .nil _ _, trivial⟩)), .refl _, trivial⟩))) ?_
      refine rn ?_
      refine asplit (fun hg8_3 => ?_) (fun hg8_3 => ?_)
      · refine rn ?_
        refine qv rfl rfl (qv_call rfl rfl (pcall (refIs _ _) (Sbs.refl _))) ?_
        refine rn ?_
        refine asplit (fun hg8_11 => ?_) (fun hg8_11 => ?_)
        · refine rn ?_
          refine qv rfl rfl (qv_call rfl rfl (pcall (ref9 _) (Sbs.refl _))) ?_
          refine rn ?_
          exact retq (.cons _ _ _ _ (.tmp _ _ rfl) .nil) (.drop [_, _, _] _ _) ⟨rfl, congrArg bv (by first | (simp only [rightEv, bareE, *, Bool.true_and, Bool.false_and, Bool.and_false, Bool.and_true, Bool.true_or, Bool.or_false, Bool.false_or, Bool.or_true, if_true, if_false, Bool.false_eq_true, Bool.not_true, Bool.not_false]; done) | (simp_all [rightEv, bareE]; done) | (simp_all [rightEv, bareE] <;> omega))⟩
        · refine rn ?_
          exact retq (.cons _ _ _ _ (.tmp _ _ rfl) .nil) (.drop [_, _, _] _ _) ⟨rfl, congrArg bv (by first | (simp only [rightEv, bareE, *, Bool.true_and, Bool.false_and, Bool.and_false, Bool.and_true, Bool.true_or, Bool.or_false, Bool.false_or, Bool.or_true, if_true, if_false, Bool.false_eq_true, Bool.not_true, Bool.not_false]; done) | (simp_all [rightEv, bareE]; done) | (simp_all [rightEv, bareE] <;> omega))⟩
      · refine rn ?_
        exact retq (.cons _ _ _ _ (.tmp _ _ rfl) .nil) (.drop [_, _, _] _ _) ⟨rfl, congrArg bv (by first | (simp only [rightEv, bareE, *, Bool.true_and, Bool.false_and, Bool.and_false, Bool.and_true, Bool.true_or, Bool.or_false, Bool.false_or, Bool.or_true, if_true, if_false, Bool.false_eq_true, Bool.not_true, Bool.not_false]; done) | (simp_all [rightEv, bareE]; done) | (simp_all [rightEv, bareE] <;> omega))⟩
    · refine rn ?_
      refine aw_cond rfl (fun hc48 => ?_) (fun hc48 => ?_)
      · refine rn ?_
        refine aw_cond rfl (fun hc48 => ?_) (fun hc48 => ?_)
        · refine rn ?_
          refine aw_drawS 6 [(b6, 72, _)] rfl (List.perm_append_comm (l₁ := [_])) ?_
          refine rn ?_
          refine dw 0 rfl rfl rfl rfl rfl (Nat.le_of_ble_eq_true rfl) ?_
          refine rn2 ?_
          show aops _ _ _ _ _ _ ⟨_, .box b6 72 [iv e.kind, iv e.t, iv 0, iv 0, iv e.o, iv 0, iv 0, iv 0, .v (.slice none 0 0)] :: .box b3 72 (evR e) :: .box b2 28 (histC h) :: [], _⟩
          refine rn0 ?_
          refine aw_seq ?_
          refine aw_seq ?_
          show aw _ _ _ _ _ ⟨_, .box b6 72 [iv e.kind, iv e.t, iv 0, iv 0, iv e.o, iv e.v.t, iv e.v.k, iv 0, .v (.slice none 0 0)] :: .box b3 72 (evR e) :: .box b2 28 (histC h) :: [], _⟩
          refine rn ?_
          refine asplit (fun hg12_3 => ?_) (fun hg12_3 => ?_)
          · refine rn ?_
            refine asplit (fun hg12_8 => ?_) (fun hg12_8 => ?_)
            · refine rn ?_
              refine aw_ct rfl ?_
              refine rn ?_
              exact retq (.cons _ _ _ _ (.tmp _ _ rfl) .nil) (.drop [_, _, _] _ _) ⟨rfl, congrArg bv (by first | (simp only [rightEv, bareE, *, Bool.true_and, Bool.false_and, Bool.and_false, Bool.and_true, Bool.true_or, Bool.or_false, Bool.false_or, Bool.or_true, if_true, if_false, Bool.false_eq_true, Bool.not_true, Bool.not_false]; done) | (simp_all [rightEv, bareE]; done) | (simp_all [rightEv, bareE] <;> omega))⟩
            · refine rn ?_
              refine aw_cond rfl (fun hc73 => ?_) (fun hc73 => ?_)
              · refine rn ?_
                exact retq (.cons _ _ _ _ (.tmp _ _ rfl) .nil) (.drop [_, _, _] _ _) ⟨rfl, congrArg bv (by first | (simp only [rightEv, bareE, *, Bool.true_and, Bool.false_and, Bool.and_false, Bool.and_true, Bool.true_or, Bool.or_false, Bool.false_or, Bool.or_true, if_true, if_false, Bool.false_eq_true, Bool.not_true, Bool.not_false]; done) | (simp_all [rightEv, bareE]; done) | (simp_all [rightEv, bareE] <;> omega))⟩
              · refine rn ?_
                refine qv rfl rfl (qv_call rfl rfl (pcall (refEvent ⟨e.kind, e.t, 0, 0, e.o, e.v, 0, []⟩ e (by simp [hl]) hl) (by exact ⟨(by exact Sb.aggs (by exact ⟨.refl _, .refl _, .refl _, .refl _, .refl _, .refl _, .refl _, .refl _, .nil _ _, trivial⟩)), .refl _, trivial⟩))) ?_
                refine rn ?_
                refine asplit (fun hg14_3 => ?_) (fun hg14_3 => ?_)
                · refine rn ?_
                  refine qv rfl rfl (qv_call rfl rfl (pcall (refIs _ _) (Sbs.refl _))) ?_
                  refine rn ?_
                  refine asplit (fun hg14_11 => ?_) (fun hg14_11 => ?_)
                  · refine rn ?_
                    refine qv rfl rfl (qv_call rfl rfl (pcall (refVersion e.v _) (Sbs.refl _))) ?_
                    refine rn ?_
                    exact retq (.cons _ _ _ _ (.tmp _ _ rfl) .nil) (.drop [_, _, _] _ _) ⟨rfl, congrArg bv (by first | (simp only [rightEv, bareE, *, Bool.true_and, Bool.false_and, Bool.and_false, Bool.and_true, Bool.true_or, Bool.or_false, Bool.false_or, Bool.or_true, if_true, if_false, Bool.false_eq_true, Bool.not_true, Bool.not_false]; done) | (simp_all [rightEv, bareE]; done) | (simp_all [rightEv, bareE] <;> omega))⟩
                  · refine rn ?_
                    exact retq (.cons _ _ _ _ (.tmp _ _ rfl) .nil) (.drop [_, _, _] _ _) ⟨rfl, congrArg bv (by first | (simp only [rightEv, bareE, *, Bool.true_and, Bool.false_and, Bool.and_false, Bool.and_true, Bool.true_or, Bool.or_false, Bool.false_or, Bool.or_true, if_true, if_false, Bool.false_eq_true, Bool.not_true, Bool.not_false]; done) | (simp_all [rightEv, bareE]; done) | (simp_all [rightEv, bareE] <;> omega))⟩
                · refine rn ?_
                  exact retq (.cons _ _ _ _ (.tmp _ _ rfl) .nil) (.drop [_, _, _] _ _) ⟨rfl, congrArg bv (by first | (simp only [rightEv, bareE, *, Bool.true_and, Bool.false_and, Bool.and_false, Bool.and_true, Bool.true_or, Bool.or_false, Bool.false_or, Bool.or_true, if_true, if_false, Bool.false_eq_true, Bool.not_true, Bool.not_false]; done) | (simp_all [rightEv, bareE]; done) | (simp_all [rightEv, bareE] <;> omega))⟩
          · refine rn ?_
            refine aw_cf rfl ?_
            refine rn ?_
            refine qv rfl rfl (qv_call rfl rfl (pcall (refEvent ⟨e.kind, e.t, 0, 0, e.o, e.v, 0, []⟩ e (by simp [hl]) hl) (by exact ⟨(by exact Sb.aggs (by exact ⟨.refl _, .refl _, .refl _, .refl _, .refl _, .refl _, .refl _, .refl _, .nil _ _, trivial⟩)), .refl _, trivial⟩))) ?_
            refine rn ?_
            refine asplit (fun hg14_3 => ?_) (fun hg14_3 => ?_)
            · refine rn ?_
              refine qv rfl rfl (qv_call rfl rfl (pcall (refIs _ _) (Sbs.refl _))) ?_
              refine rn ?_
              refine asplit (fun hg14_11 => ?_) (fun hg14_11 => ?_)
              · refine rn ?_
                refine qv rfl rfl (qv_call rfl rfl (pcall (refVersion e.v _) (Sbs.refl _))) ?_
                refine rn ?_
                exact retq (.cons _ _ _ _ (.tmp _ _ rfl) .nil) (.drop [_, _, _] _ _) ⟨rfl, congrArg bv (by first | (simp only [rightEv, bareE, *, Bool.true_and, Bool.false_and, Bool.and_false, Bool.and_true, Bool.true_or, Bool.or_false, Bool.false_or, Bool.or_true, if_true, if_false, Bool.false_eq_true, Bool.not_true, Bool.not_false]; done) | (simp_all [rightEv, bareE]; done) | (simp_all [rightEv, bareE] <;> omega))⟩
              · refine rn ?_
                exact retq (.cons _ _ _ _ (.tmp _ _ rfl) .nil) (.drop [_, _, _] _ _) ⟨rfl, congrArg bv (by first | (simp only [rightEv, bareE, *, Bool.true_and, Bool.false_and, Bool.and_false, Bool.and_true, Bool.true_or, Bool.or_false, Bool.false_or, Bool.or_true, if_true, if_false, Bool.false_eq_true, Bool.not_true, Bool.not_false]; done) | (simp_all [rightEv, bareE]; done) | (simp_all [rightEv, bareE] <;> omega))⟩
            · refine rn ?_
              exact retq (.cons _ _ _ _ (.tmp _ _ rfl) .nil) (.drop [_, _, _] _ _) ⟨rfl, congrArg bv (by first | (simp only [rightEv, bareE, *, Bool.true_and, Bool.false_and, Bool.and_false, Bool.and_true, Bool.true_or, Bool.or_false, Bool.false_or, Bool.or_true, if_true, if_false, Bool.false_eq_true, Bool.not_true, Bool.not_false]; done) | (simp_all [rightEv, bareE]; done) | (simp_all [rightEv, bareE] <;> omega))⟩
        · first | cases hc48 | exact absurd hc48 (by decide) | (exfalso; simp_all; done)
      · refine rn ?_
        refine aw_cond rfl (fun hc48 => ?_) (fun hc48 => ?_)
        · refine rn ?_
          refine aw_drawS 6 [(b6, 72, _)] rfl (List.perm_append_comm (l₁ := [_])) ?_
          refine rn ?_
          refine dw 0 rfl rfl rfl rfl rfl (Nat.le_of_ble_eq_true rfl) ?_
          refine rn2 ?_
          show aops _ _ _ _ _ _ ⟨_, .box b6 72 [iv e.kind, iv e.t, iv 0, iv 0, iv e.o, iv 0, iv 0, iv 0, .v (.slice none 0 0)] :: .box b3 72 (evR e) :: .box b2 28 (histC h) :: [], _⟩
          refine rn0 ?_
          refine aw_seq ?_
          refine aw_seq ?_
          show aw _ _ _ _ _ ⟨_, .box b6 72 [iv e.kind, iv e.t, iv 0, iv 0, iv e.o, iv e.v.t, iv e.v.k, iv 0, .v (.slice none 0 0)] :: .box b3 72 (evR e) :: .box b2 28 (histC h) :: [], _⟩
          refine rn ?_
          refine asplit (fun hg12_3 => ?_) (fun hg12_3 => ?_)
          · refine rn ?_
            refine asplit (fun hg12_8 => ?_) (fun hg12_8 => ?_)
            · refine rn ?_
              refine aw_ct rfl ?_
              refine rn ?_
              exact retq (.cons _ _ _ _ (.tmp _ _ rfl) .nil) (.drop [_, _, _] _ _) ⟨rfl, congrArg bv (by first | (simp only [rightEv, bareE, *, Bool.true_and, Bool.false_and, Bool.and_false, Bool.and_true, Bool.true_or, Bool.or_false, Bool.false_or, Bool.or_true, if_true, if_false, Bool.false_eq_true, Bool.not_true, Bool.not_false]; done) | (simp_all [rightEv, bareE]; done) | (simp_all [rightEv, bareE] <;> omega))⟩
            · refine rn ?_
              refine aw_cond rfl (fun hc73 => ?_) (fun hc73 => ?_)
              · refine rn ?_
                exact retq (.cons _ _ _ _ (.tmp _ _ rfl) .nil) (.drop [_, _, _] _ _) ⟨rfl, congrArg bv (by first | (simp only [rightEv, bareE, *, Bool.true_and, Bool.false_and, Bool.and_false, Bool.and_true, Bool.true_or, Bool.or_false, Bool.false_or, Bool.or_true, if_true, if_false, Bool.false_eq_true, Bool.not_true, Bool.not_false]; done) | (simp_all [rightEv, bareE]; done) | (simp_all [rightEv, bareE] <;> omega))⟩
              · refine rn ?_
                refine qv rfl rfl (qv_call rfl rfl (pcall (refEvent ⟨e.kind, e.t, 0, 0, e.o, e.v, 0, []⟩ e (by simp [hl]) hl) (by exact ⟨(by exact Sb.aggs (by exact ⟨.refl _, .refl _, .refl _, .refl _, .refl _, .refl _, .refl _, .refl _, .nil _ _, trivial⟩)), .refl _, trivial⟩))) ?_
                refine rn ?_
                refine asplit (fun hg14_3 => ?_) (fun hg14_3 => ?_)
                · refine rn ?_
                  refine qv rfl rfl (qv_call rfl rfl (pcall (refIs _ _) (Sbs.refl _))) ?_
                  refine rn ?_
                  refine asplit (fun hg14_11 => ?_) (fun hg14_11 => ?_)
                  · refine rn ?_
                    refine qv rfl rfl (qv_call rfl rfl (pcall (refVersion e.v _) (Sbs.refl _))) ?_
                    refine rn ?_
                    exact retq (.cons _ _ _ _ (.tmp _ _ rfl) .nil) (.drop [_, _, _] _ _) ⟨rfl, congrArg bv (by first | (simp only [rightEv, bareE, *, Bool.true_and, Bool.false_and, Bool.and_false, Bool.and_true, Bool.true_or, Bool.or_false, Bool.false_or, Bool.or_true, if_true, if_false, Bool.false_eq_true, Bool.not_true, Bool.not_false]; done) | (simp_all [rightEv, bareE]; done) | (simp_all [rightEv, bareE] <;> omega))⟩
                  · refine rn ?_
                    exact retq (.cons _ _ _ _ (.tmp _ _ rfl) .nil) (.drop [_, _, _] _ _) ⟨rfl, congrArg bv (by first | (simp only [rightEv, bareE, *, Bool.true_and, Bool.false_and, Bool.and_false, Bool.and_true, Bool.true_or, Bool.or_false, Bool.false_or, Bool.or_true, if_true, if_false, Bool.false_eq_true, Bool.not_true, Bool.not_false]; done) | (simp_all [rightEv, bareE]; done) | (simp_all [rightEv, bareE] <;> omega))⟩
                · refine rn ?_
                  exact retq (.cons _ _ _ _ (.tmp _ _ rfl) .nil) (.drop [_, _, _] _ _) ⟨rfl, congrArg bv (by first | (simp only [rightEv, bareE, *, Bool.true_and, Bool.false_and, Bool.and_false, Bool.and_true, Bool.true_or, Bool.or_false, Bool.false_or, Bool.or_true, if_true, if_false, Bool.false_eq_true, Bool.not_true, Bool.not_false]; done) | (simp_all [rightEv, bareE]; done) | (simp_all [rightEv, bareE] <;> omega))⟩
          · refine rn ?_
            refine aw_cf rfl ?_
            refine rn ?_
            refine qv rfl rfl (qv_call rfl rfl (pcall (refEvent ⟨e.kind, e.t, 0, 0, e.o, e.v, 0, []⟩ e (by simp [hl]) hl) (by exact ⟨(by exact Sb.aggs (by exact ⟨.refl _, .refl _, .refl _, .refl _, .refl _, .refl _, .refl _, .refl _, .nil _ _, trivial⟩)), .refl _, trivial⟩))) ?_
            refine rn ?_
            refine asplit (fun hg14_3 => ?_) (fun hg14_3 => ?_)
            · refine rn ?_
              refine qv rfl rfl (qv_call rfl rfl (pcall (refIs _ _) (Sbs.refl _))) ?_
              refine rn ?_
              refine asplit (fun hg14_11 => ?_) (fun hg14_11 => ?_)
              · refine rn ?_
                refine qv rfl rfl (qv_call rfl rfl (pcall (refVersion e.v _) (Sbs.refl _))) ?_
                refine rn ?_
                exact retq (.cons _ _ _ _ (.tmp _ _ rfl) .nil) (.drop [_, _, _] _ _) ⟨rfl, congrArg bv (by first | (simp only [rightEv, bareE, *, Bool.true_and, Bool.false_and, Bool.and_false, Bool.and_true, Bool.true_or, Bool.or_false, Bool.false_or, Bool.or_true, if_true, if_false, Bool.false_eq_true, Bool.not_true, Bool.not_false]; done) | (simp_all [rightEv, bareE]; done) | (simp_all [rightEv, bareE] <;> omega))⟩
              · refine rn ?_
                exact retq (.cons _ _ _ _ (.tmp _ _ rfl) .nil) (.drop [_, _, _] _ _) ⟨rfl, congrArg bv (by first | (simp only [rightEv, bareE, *, Bool.true_and, Bool.false_and, Bool.and_false, Bool.and_true, Bool.true_or, Bool.or_false, Bool.false_or, Bool.or_true, if_true, if_false, Bool.false_eq_true, Bool.not_true, Bool.not_false]; done) | (simp_all [rightEv, bareE]; done) | (simp_all [rightEv, bareE] <;> omega))⟩
            · refine rn ?_
              exact retq (.cons _ _ _ _ (.tmp _ _ rfl) .nil) (.drop [_, _, _] _ _) ⟨rfl, congrArg bv (by first | (simp only [rightEv, bareE, *, Bool.true_and, Bool.false_and, Bool.and_false, Bool.and_true, Bool.true_or, Bool.or_false, Bool.false_or, Bool.or_true, if_true, if_false, Bool.false_eq_true, Bool.not_true, Bool.not_false]; done) | (simp_all [rightEv, bareE]; done) | (simp_all [rightEv, bareE] <;> omega))⟩
        · refine rn ?_
          refine aw_cond rfl (fun hc91 => ?_) (fun hc91 => ?_)
          · refine rn ?_
            refine aw_drawS 6 [(b6, 72, _)] rfl (List.perm_append_comm (l₁ := [_])) ?_
            refine rn ?_
            refine dw 0 rfl rfl rfl rfl rfl (Nat.le_of_ble_eq_true rfl) ?_
            refine rn2 ?_
            show aops _ _ _ _ _ _ ⟨_, .box b6 72 [iv e.kind, iv e.t, iv 0, iv 0, iv 0, iv 0, iv 0, iv e.p, .v (.slice none 0 0)] :: .box b3 72 (evR e) :: .box b2 28 (histC h) :: [], _⟩
            refine rn0 ?_
            refine aw_seq ?_
            refine aw_seq ?_
            show aw _ _ _ _ _ ⟨_, .box b6 72 [iv e.kind, iv e.t, iv 0, iv 0, iv 0, iv 0, iv 0, iv e.p, seensA e.scan] :: .box b3 72 (evR e) :: .box b2 28 (histC h) :: [], _⟩
            refine rn ?_
            refine aw_loop' (fun k : Nat => k ≤ e.scan.length ∧ e.scan.all (rightSeen h) = (e.scan.drop k).all (rightSeen h)) (fun k => ⟨[(102, iv k), (101, iv (e.scan.map seenR).length), (100, seensA e.scan), (2, .v (.pointer (some ⟨b2, 0, none⟩))), (3, .v (.pointer (some ⟨b3, 0, none⟩))), (6, .v (.pointer (some ⟨b6, 0, none⟩))), (5, iv (h.ts.map strR).length)], [.box b6 72 (evR ⟨e.kind, e.t, 0, 0, 0, ⟨0, 0⟩, e.p, e.scan⟩), .box b3 72 (evR e), .box b2 28 (histC h)], []⟩) (fun k => e.scan.length - k) 0 ⟨Nat.zero_le _, by simp⟩
              (ent_sub (.cons _ _ _ rfl (.cons _ _ _ rfl (.cons _ _ _ rfl (.cons _ _ _ rfl (.cons _ _ _ rfl (.cons _ _ _ rfl (.cons _ _ _ rfl (.nil))))))))) ?_
            rintro k ⟨hk, hz⟩
            refine rn ?_
            refine aw_cond rfl (fun hc103 => ?_) (fun hc103 => ?_)
            · have hk2 : k < e.scan.length := by simpa using hc103
              obtain ⟨s, hs⟩ : ∃ s, s = e.scan[k] := ⟨_, rfl⟩
              have hrow : (e.scan.map seenR)[k]? = some (seenR s) := by rw [hs]; simp [hk2]
              have hd := List.drop_eq_getElem_cons hk2
              rw [← hs] at hd
              refine rn ?_
              refine aops_e rfl (oe_alloc rfl fun b8 => ?_)
              refine rn ?_
              refine qv rfl rfl (qv_call rfl rfl (pcall (refIs _ _) (Sbs.refl _))) ?_
              refine rn ?_
              refine asplit (fun hg20_7 => ?_) (fun hg20_7 => ?_)
              · refine rn ?_
                refine aw_ct rfl ?_
                have hx : rightSeen h s = false := by clear hz hd hrow hs hc103 hk2 hk; simp_all [rightSeen]
                have hall : e.scan.all (rightSeen h) = false := by rw [hz, hd, List.all_cons, hx, Bool.false_and]
                clear hz hd hx hrow
                refine rn ?_
                exact retq (.cons _ _ _ _ (.tmp _ _ rfl) .nil) (.drop [_, _, _, _] _ _) ⟨rfl, congrArg bv (by first | (simp only [rightEv, bareE, *, Bool.true_and, Bool.false_and, Bool.and_false, Bool.and_true, Bool.true_or, Bool.or_false, Bool.false_or, Bool.or_true, if_true, if_false, Bool.false_eq_true, Bool.not_true, Bool.not_false]; done) | (simp_all [rightEv, bareE]; done) | (simp_all [rightEv, bareE] <;> omega))⟩
              · refine rn ?_
                refine qv rfl rfl (qv_call rfl rfl (pcall (refVersion s.v _) (Sbs.refl _))) ?_
                refine rn ?_
                refine aw_cond rfl (fun hc119 => ?_) (fun hc119 => ?_)
                · have hx : rightSeen h s = false := by clear hz hd hrow hs hc103 hk2 hk; simp_all [rightSeen]
                  have hall : e.scan.all (rightSeen h) = false := by rw [hz, hd, List.all_cons, hx, Bool.false_and]
                  clear hz hd hx hrow
                  refine rn ?_
                  exact retq (.cons _ _ _ _ (.tmp _ _ rfl) .nil) (.drop [_, _, _, _] _ _) ⟨rfl, congrArg bv (by first | (simp only [rightEv, bareE, *, Bool.true_and, Bool.false_and, Bool.and_false, Bool.and_true, Bool.true_or, Bool.or_false, Bool.false_or, Bool.or_true, if_true, if_false, Bool.false_eq_true, Bool.not_true, Bool.not_false]; done) | (simp_all [rightEv, bareE]; done) | (simp_all [rightEv, bareE] <;> omega))⟩
                · have hx : rightSeen h s = true := by clear hz hd hrow hs hc103 hk2 hk; simp_all [rightSeen]
                  refine rn ?_
                  exact ⟨k + 1, ⟨by omega, by rw [hz, hd, List.all_cons, hx, Bool.true_and]⟩, (ent_trans (ent_drop (h1 := [_])) (ent_sub (.cons _ _ _ rfl (.cons _ _ _ rfl (.cons _ _ _ rfl (.cons _ _ _ rfl (.cons _ _ _ rfl (.cons _ _ _ rfl (.cons _ _ _ rfl (.nil)))))))))), by omega⟩
            · have hk3 : k = e.scan.length := by
                have : e.scan.length ≤ k := by simpa using hc103
                omega
              rw [hk3, List.drop_length, List.all_nil] at hz
              refine rn ?_
              refine qv rfl rfl (qv_call rfl rfl (pcall (refEvent ⟨e.kind, e.t, 0, 0, 0, ⟨0, 0⟩, e.p, e.scan⟩ e (by simp [hl]) hl) (by exact ⟨(by exact Sb.aggs (by exact ⟨.refl _, .refl _, .refl _, .refl _, .refl _, .refl _, .refl _, .refl _, .refl _, trivial⟩)), .refl _, trivial⟩))) ?_
              refine rn ?_
              refine asplit (fun hg23_3 => ?_) (fun hg23_3 => ?_)
              · refine rn ?_
                refine qv rfl rfl (qv_call rfl rfl (pcall (refIs _ _) (Sbs.refl _))) ?_
                refine rn ?_
                refine asplit (fun hg23_11 => ?_) (fun hg23_11 => ?_)
                · refine rn ?_
                  exact retq (.cons _ _ _ _ (.tmp _ _ rfl) .nil) (.drop [_, _, _] _ _) ⟨rfl, congrArg bv (by first | (simp only [rightEv, bareE, *, Bool.true_and, Bool.false_and, Bool.and_false, Bool.and_true, Bool.true_or, Bool.or_false, Bool.false_or, Bool.or_true, if_true, if_false, Bool.false_eq_true, Bool.not_true, Bool.not_false]; done) | (simp_all [rightEv, bareE]; done) | (simp_all [rightEv, bareE] <;> omega))⟩
                · refine rn ?_
                  exact retq (.cons _ _ _ _ (.tmp _ _ rfl) .nil) (.drop [_, _, _] _ _) ⟨rfl, congrArg bv (by first | (simp only [rightEv, bareE, *, Bool.true_and, Bool.false_and, Bool.and_false, Bool.and_true, Bool.true_or, Bool.or_false, Bool.false_or, Bool.or_true, if_true, if_false, Bool.false_eq_true, Bool.not_true, Bool.not_false]; done) | (simp_all [rightEv, bareE]; done) | (simp_all [rightEv, bareE] <;> omega))⟩
              · refine rn ?_
                exact retq (.cons _ _ _ _ (.tmp _ _ rfl) .nil) (.drop [_, _, _] _ _) ⟨rfl, congrArg bv (by first | (simp only [rightEv, bareE, *, Bool.true_and, Bool.false_and, Bool.and_false, Bool.and_true, Bool.true_or, Bool.or_false, Bool.false_or, Bool.or_true, if_true, if_false, Bool.false_eq_true, Bool.not_true, Bool.not_false]; done) | (simp_all [rightEv, bareE]; done) | (simp_all [rightEv, bareE] <;> omega))⟩
          · refine rn ?_
            refine qv rfl rfl (qv_call rfl rfl (pcall (refEvent ⟨e.kind, e.t, 0, 0, 0, ⟨0, 0⟩, 0, []⟩ e (by simp [hl]) hl) (by exact ⟨(by exact Sb.aggs (by exact ⟨.refl _, .refl _, .refl _, .refl _, .refl _, .refl _, .refl _, .refl _, .nil _ _, trivial⟩)), .refl _, trivial⟩))) ?_
            refine rn ?_
            refine asplit (fun hg24_3 => ?_) (fun hg24_3 => ?_)
            · refine rn ?_
              refine asplit (fun hg24_7 => ?_) (fun hg24_7 => ?_)
              · refine rn ?_
                exact retq (.cons _ _ _ _ (.tmp _ _ rfl) .nil) (.drop [_, _, _] _ _) ⟨rfl, congrArg bv (by first | (simp only [rightEv, bareE, *, Bool.true_and, Bool.false_and, Bool.and_false, Bool.and_true, Bool.true_or, Bool.or_false, Bool.false_or, Bool.or_true, if_true, if_false, Bool.false_eq_true, Bool.not_true, Bool.not_false]; done) | (simp_all [rightEv, bareE]; done) | (simp_all [rightEv, bareE] <;> omega))⟩
              · refine rn ?_
                exact retq (.cons _ _ _ _ (.tmp _ _ rfl) .nil) (.drop [_, _, _] _ _) ⟨rfl, congrArg bv (by first | (simp only [rightEv, bareE, *, Bool.true_and, Bool.false_and, Bool.and_false, Bool.and_true, Bool.true_or, Bool.or_false, Bool.false_or, Bool.or_true, if_true, if_false, Bool.false_eq_true, Bool.not_true, Bool.not_false]; done) | (simp_all [rightEv, bareE]; done) | (simp_all [rightEv, bareE] <;> omega))⟩
            · refine rn ?_
              exact retq (.cons _ _ _ _ (.tmp _ _ rfl) .nil) (.drop [_, _, _] _ _) ⟨rfl, congrArg bv (by first | (simp only [rightEv, bareE, *, Bool.true_and, Bool.false_and, Bool.and_false, Bool.and_true, Bool.true_or, Bool.or_false, Bool.false_or, Bool.or_true, if_true, if_false, Bool.false_eq_true, Bool.not_true, Bool.not_false]; done) | (simp_all [rightEv, bareE]; done) | (simp_all [rightEv, bareE] <;> omega))⟩
end Go.Proofs
/- A rune's text. Conditions: none (a rule over any program). -/
set_option linter.unusedVariables false
namespace Go.Ab
open Go
section
variable {P : Program} {dst : Option Tmp} {ty : TypeId} {pos : String} {after : Array Edge} {guard : Option (Nat × Bool)} {x : Operand} {h : List Res} {f : Operand → Option AV}
theorem qr_convert_str {S T : TypeId} {k : IntKind} {n : Int} (hx : f x = some (.v (.int k n))) [hs : Und P S (.int k)] [ht : Und P T .string] :
    QR P h f ⟨dst, .convert S T x, ty, pos, after, guard⟩ (.v (.string (Utf8.encode n))) := fun X ρ w he => by
  refine ⟨_, run_v _ ?_, .v _⟩
  rw [(he.rel x _ hx).v_eq]
  simp only [convert, Sem.run_bind, Go.Ab.run_underlying (d := TypeDesc.int k), Go.Ab.run_underlying (d := TypeDesc.string), Result.andThen_ok]
  rfl
end
end Go.Ab
/- The walk of the reference's first. Conditions: none. -/
set_option linter.unusedVariables false
set_option linter.unusedSimpArgs false
set_option maxRecDepth 10000
namespace Go.Proofs
open Go Go.Ab
attribute [local irreducible] QR QV OE aops aw dsoup dsoupM dalloc dallocM thn inBlk
open Go.H
theorem ref2First (s : ByteArray) : ACall Tryz.prog 202 [sv s] [] (fun r h' => h' = [] ∧ r = .tup [.v (.int .i32 (firstR s).1), iv (firstR s).2]) := by
  refine acall_of_aw Tryz.func202 rfl rfl rfl ?_
  refine rn ?_
  refine aops_e rfl (oe_range_str rfl rfl fun b8 => ?_)
  refine rn ?_
  refine aw_loop' (fun x : Unit => True) (fun x => ⟨[(8, .v (.pointer (some ⟨b8, 0, none⟩))), (0, sv s), (2, .v (.int .i32 0)), (3, iv 0)], [.obj b8 (.stringIter s 0)], []⟩) (fun x => 0) () trivial
    (ent_sub (.cons _ _ _ rfl (.cons _ _ _ rfl (.cons _ _ _ rfl (.cons _ _ _ rfl (.nil)))))) ?_
  rintro _ _
  refine aw_seq (aw_region ?_)
  refine aops_e rfl (oe_next_str rfl rfl (fun hp => ?_) (fun hp => ?_))
  · refine rn ?_
    refine aw_cond rfl (fun hc10 => ?_) (fun hc10 => ?_)
    · first | cases hc10 | exact absurd hc10 (by decide) | (exfalso; simp_all; done)
    · refine rn ?_
      exact retq (.cons _ _ _ _ (.tmp _ _ rfl) (.cons _ _ _ _ (.tmp _ _ rfl) .nil)) (.drop1 _ _ _) ⟨rfl, by first | (rw [firstR, if_pos hp]; rfl) | (rw [firstR, if_neg (by omega)]; split <;> first | rfl | (exfalso; simp_all; done) | (exfalso; simp_all; omega))⟩
  · refine rn ?_
    refine aw_cond rfl (fun hc10 => ?_) (fun hc10 => ?_)
    · refine rn ?_
      refine aw_cond rfl (fun hc14 => ?_) (fun hc14 => ?_)
      · exact absurd hc14 (by decide)
      · refine aw_skip ?_
        refine thn_n ?_
        refine aw_seq (aw_region ?_)
        refine q1 ?_
        refine qq rfl rfl (qr_convert_str rfl) ?_
        refine rn ?_
        refine asplit (fun hg6_2 => ?_) (fun hg6_2 => ?_)
        · refine rn ?_
          refine asplit (fun hg6_6 => ?_) (fun hg6_6 => ?_)
          · refine rn ?_
            refine aw_cond rfl (fun hc29 => ?_) (fun hc29 => ?_)
            · refine rn ?_
              exact retq (.cons _ _ _ _ (.tmp _ _ rfl) (.cons _ _ _ _ (.tmp _ _ rfl) .nil)) (.drop1 _ _ _) ⟨rfl, by first | (rw [firstR, if_pos hp]; rfl) | (rw [firstR, if_neg (by omega)]; split <;> first | rfl | (exfalso; simp_all; done) | (exfalso; simp_all; omega))⟩
            · first | cases hc29 | exact absurd hc29 (by decide) | (exfalso; simp_all; done)
          · refine q1 ?_
            refine qq rfl rfl (qr_slice_string_h (k := 3) rfl rfl (by have := hg6_6; simp at this; omega)) ?_
            refine rn ?_
            refine aw_cond rfl (fun hc29 => ?_) (fun hc29 => ?_)
            · refine rn ?_
              exact retq (.cons _ _ _ _ (.tmp _ _ rfl) (.cons _ _ _ _ (.tmp _ _ rfl) .nil)) (.drop1 _ _ _) ⟨rfl, by first | (rw [firstR, if_pos hp]; rfl) | (rw [firstR, if_neg (by omega)]; split <;> first | rfl | (exfalso; simp_all; done) | (exfalso; simp_all; omega))⟩
            · refine rn ?_
              exact retq (.cons _ _ _ _ (.tmp _ _ rfl) (.cons _ _ _ _ (.tmp _ _ rfl) .nil)) (.drop1 _ _ _) ⟨rfl, by first | (rw [firstR, if_pos hp]; rfl) | (rw [firstR, if_neg (by omega)]; split <;> first | rfl | (exfalso; simp_all; done) | (exfalso; simp_all; omega))⟩
        · refine rn ?_
          refine aw_cond rfl (fun hc29 => ?_) (fun hc29 => ?_)
          · first | cases hc29 | exact absurd hc29 (by decide) | (exfalso; simp_all; done)
          · refine rn ?_
            exact retq (.cons _ _ _ _ (.tmp _ _ rfl) (.cons _ _ _ _ (.tmp _ _ rfl) .nil)) (.drop1 _ _ _) ⟨rfl, by first | (rw [firstR, if_pos hp]; rfl) | (rw [firstR, if_neg (by omega)]; split <;> first | rfl | (exfalso; simp_all; done) | (exfalso; simp_all; omega))⟩
    · first | cases hc10 | exact absurd hc10 (by decide) | (exfalso; simp_all; done)
end Go.Proofs
/- The walks of the reference's Word and RightNames. Conditions: none. -/
set_option linter.unusedVariables false
set_option linter.unusedSimpArgs false
set_option maxRecDepth 10000
namespace Go.Proofs
open Go Go.Ab
attribute [local irreducible] QR QV OE aops aw dsoup dsoupM dalloc dallocM thn inBlk
open Go.H
theorem ref2FirstN (s : ByteArray) (c n : Int) (h : firstR s = (c, n)) : ACall Tryz.prog 202 [sv s] [] (fun r h' => h' = [] ∧ r = .tup [.v (.int .i32 c), iv n]) :=
  (ref2First s).mono fun _ _ q => ⟨q.1, by rw [q.2, h]⟩
theorem ref2Word (s : ByteArray) : ACall Tryz.prog 163 [sv s] [] (fun r h' => h' = [] ∧ r = bv (wordB s)) := by
  refine acall_of_aw Tryz.func163 rfl rfl rfl ?_
  refine rn ?_
  refine asplit (fun hg1_2 => ?_) (fun hg1_2 => ?_)
  · refine rn ?_
    refine aw_ct rfl ?_
    refine rn ?_
    refine rq 0 ?_
    exact ⟨rfl, congrArg bv (by first | (rw [wordB_eq, ← emptyL, hg1_2]; rfl) | (rw [wordB_eq, decide_eq_false (show ¬ (s.size : Int) ≤ 24 by simp at hc12; omega), Bool.and_false]; rfl))⟩
  · refine rn ?_
    refine aw_cond rfl (fun hc12 => ?_) (fun hc12 => ?_)
    · refine rn ?_
      refine rq 0 ?_
      exact ⟨rfl, congrArg bv (by first | (rw [wordB_eq, ← emptyL, hg1_2]; rfl) | (rw [wordB_eq, decide_eq_false (show ¬ (s.size : Int) ≤ 24 by simp at hc12; omega), Bool.and_false]; rfl))⟩
    · have hlen : s.size ≤ 24 := by simp at hc12; omega
      refine rn ?_
      refine aw_while (fun i : Nat => wordR s 0 = wordR s i ∧ i ≤ 48) (fun i => ⟨[(3, iv i), (0, sv s)], [], []⟩) (fun i => s.size - i) 0 ⟨rfl, by omega⟩ es ?_
      rintro i ⟨hz, hi⟩
      refine rn ?_
      refine aw_cond rfl (fun hc16 => ?_) (fun hc16 => ?_)
      · have h1 : i < s.size := by simpa using hc16
        refine aw_skip ?_
        refine thn_n ?_
        refine aw_block ?_
        refine aw_seq (aw_region ?_)
        refine q1 ?_
        refine q1 ?_
        refine qq rfl rfl (qr_slice_string_l (k := i) rfl rfl (by omega)) ?_
        obtain ⟨c, n, hw, hn1, hn4⟩ := firstR_w h1
        refine qv rfl rfl (qv_call rfl rfl (pcall (ref2FirstN _ c n hw) (Sbs.refl _))) ?_
        refine rn ?_
        refine qv rfl rfl (qv_call rfl rfl (pcall (ref2Letter _) (Sbs.refl _))) ?_
        refine rn ?_
        refine asplit (fun hg6_3 => ?_) (fun hg6_3 => ?_)
        · refine rn ?_
          refine asplit (fun hg6_6 => ?_) (fun hg6_6 => ?_)
          · refine rn ?_
            refine aw_ct rfl ?_
            refine rn ?_
            refine rq 0 ?_
            exact ⟨rfl, congrArg bv (by rw [wordB_eq, hz, wordR_stop h1 hw (by simpa using hg6_3) (by first | exact .inl (by simpa using hg6_6) | exact .inr (by simpa using hc35)), Bool.and_false])⟩
          · refine rn ?_
            refine qv rfl rfl (qv_call rfl rfl (pcall (ref2Digit _) (Sbs.refl _))) ?_
            refine rn ?_
            refine aw_cond rfl (fun hc35 => ?_) (fun hc35 => ?_)
            · refine rn ?_
              refine rq 0 ?_
              exact ⟨rfl, congrArg bv (by rw [wordB_eq, hz, wordR_stop h1 hw (by simpa using hg6_3) (by first | exact .inl (by simpa using hg6_6) | exact .inr (by simpa using hc35)), Bool.and_false])⟩
            · refine rn ?_
              exact ⟨i + n, ⟨hz.trans (wordR_go h1 hw hn1 (.inr ⟨by simpa using hg6_6, by simpa using hc35⟩)), by omega⟩, eA, by omega⟩
        · refine rn ?_
          first | (refine qv rfl rfl (qv_call rfl rfl (pcall (ref2Digit _) (Sbs.refl _))) ?_) | refine qs rfl rfl ?_ | skip
          refine rn ?_
          refine aw_cf rfl ?_
          refine rn ?_
          exact ⟨i + n, ⟨hz.trans (wordR_go h1 hw hn1 (.inl (by simpa using hg6_3))), by omega⟩, eA, by omega⟩
      · have h1 : ¬ i < s.size := by simpa using hc16
        refine rn ?_
        refine rq 0 ?_
        exact ⟨rfl, congrArg bv (by rw [wordB_eq, ← emptyL, hg1_2, hz, wordR_end h1, decide_eq_true (show (s.size : Int) ≤ 24 by omega)]; rfl)⟩
theorem refRightNames (l : List ByteArray) (most : Nat) (hl : l.length ≤ 4611686018427387904) : ACall Tryz.prog 119 [strsA l, iv most] [] (fun r h' => h' = [] ∧ r = bv (namesB most l)) := by
  refine acall_of_aw Tryz.func119 rfl rfl rfl ?_
  refine rn ?_
  refine aw_rng (l.length) (fun k : Nat => freshB [] l = freshB (l.take k) (l.drop k)) (fun k => [(11, iv k)]) [(0, _), (1, _), (9, _), (10, _)] rfl ?_
  intro k lk zk
  refine rn ?_
  refine aw_cond rfl (fun hc12 => ?_) (fun hc12 => ?_)
  · have hk := ltMap hc12
    have rk := atRow (f := strR) hk
    refine rn ?_
    refine qv rfl rfl (qv_call rfl rfl (pcall (ref2Word _) (Sbs.refl _))) ?_
    refine rn ?_
    refine aw_cond rfl (fun hc18 => ?_) (fun hc18 => ?_)
    · refine rn ?_
      refine rq 0 ?_
      exact ⟨rfl, congrArg bv (by rw [namesB, fresh_w hk zk (by simpa using hc18), Bool.and_false])⟩
    · refine aw_skip ?_
      refine thn_n ?_
      refine aw_seq (aw_region ?_)
      refine q1 ?_
      refine q1 ?_
      refine qq rfl rfl (qr_slice_h (k := k) rfl rfl (by simp; omega)) ?_
      rw [← List.map_take]
      refine rn ?_
      refine aw_rng ((l.take k).length) (fun j : Nat => (l.take k).all (fun t => !(l[k].toList == t.toList)) = ((l.take k).drop j).all (fun t => !(l[k].toList == t.toList))) (fun j => [(23, iv j)]) [(0, _), (1, _), (6, _), (9, _), (10, _), (11, _), (21, _), (22, _)] rfl ?_
      intro j lj zj
      refine rn ?_
      refine aw_cond rfl (fun hc24 => ?_) (fun hc24 => ?_)
      · have hj := ltMap hc24
        have rj := atRow (f := strR) hj
        have bj : (l.take k).length ≤ 4611686018427387904 := by simp; omega
        refine rn ?_
        refine aw_cond rfl (fun hc29 => ?_) (fun hc29 => ?_)
        · refine rn ?_
          refine rq 0 ?_
          exact ⟨rfl, congrArg bv (by rw [namesB, fresh_m hk zk (allF hj (by simpa using hc29)), Bool.and_false])⟩
        · refine rn ?_
          exact ⟨hj, allT hj zj (by simpa using hc29), eA⟩
      · have qj := geMap hc24 lj
        have aj := allE qj zj
        refine rn ?_
        exact ⟨hk, fresh_step hk zk (by simpa using hc18) aj, eA⟩
  · have qk := geMap hc12 lk
    refine rn ?_
    refine rq 0 ?_
    exact ⟨rfl, congrArg bv (by rw [namesB, fresh_e qk zk]; simp)⟩
end Go.Proofs
/- The walk of the reference's Shaped. Conditions: none. -/
set_option linter.unusedVariables false
set_option linter.unusedSimpArgs false
set_option maxRecDepth 10000
namespace Go.Proofs
open Go Go.Ab
attribute [local irreducible] QR QV OE aops aw dsoup dsoupM dalloc dallocM thn inBlk
open Go.H
theorem refRightEvE (h : Hist) (e : Ev) (hl : e.scan.length ≤ 4611686018427387904) : ACall Tryz.prog 120 [.agg (histC h), .agg (evR e)] [] (fun r h' => h' = [] ∧ r = bv (eventB h e)) :=
  (refRightEv h e hl).mono fun _ _ q => ⟨q.1, by rw [q.2, rightEv_eq]⟩
theorem refShaped (h : Hist) (la : Lim 4611686018427387904 h) : ACall Tryz.prog 71 [.agg (histC h)] [] (fun r h' => h' = [] ∧ r = bv (shapedB h)) := by
  refine acall_of_aw Tryz.func71 rfl rfl rfl ?_
  refine rn ?_
  refine aops_e rfl (oe_box rfl rfl rfl fun b1 => ?_)
  refine rn ?_
  refine qv rfl rfl (qv_call rfl rfl (pcall (refRightNames h.ts 300 la.ts) (Sbs.refl _))) ?_
  refine rn ?_
  refine asplit (fun hg1_4 => ?_) (fun hg1_4 => ?_)
  · refine rn ?_
    refine aw_ct rfl ?_
    refine rn ?_
    refine rq 1 ?_
    exact ⟨rfl, congrArg bv (by rw [shaped_fn (by simp_all)])⟩
  · refine rn ?_
    refine qv rfl rfl (qv_call rfl rfl (pcall (refRightNames h.ss 60 la.ss) (Sbs.refl _))) ?_
    refine rn ?_
    refine asplit (fun hg1_10 => ?_) (fun hg1_10 => ?_)
    · refine rn ?_
      refine aw_ct rfl ?_
      refine rn ?_
      refine rq 1 ?_
      exact ⟨rfl, congrArg bv (by rw [shaped_fn (by simp_all)])⟩
    · refine rn ?_
      refine qv rfl rfl (qv_call rfl rfl (pcall (refRightNames h.os 300 la.os) (Sbs.refl _))) ?_
      refine rn ?_
      refine asplit (fun hg1_16 => ?_) (fun hg1_16 => ?_)
      · refine rn ?_
        refine aw_ct rfl ?_
        refine rn ?_
        refine rq 1 ?_
        exact ⟨rfl, congrArg bv (by rw [shaped_fn (by simp_all)])⟩
      · refine rn ?_
        refine qv rfl rfl (qv_call rfl rfl (pcall (refRightNames h.ps 60 la.ps) (Sbs.refl _))) ?_
        refine rn ?_
        refine aw_cond rfl (fun hc32 => ?_) (fun hc32 => ?_)
        · refine rn ?_
          refine rq 1 ?_
          exact ⟨rfl, congrArg bv (by rw [shaped_fn (by simp_all)])⟩
        · refine rn ?_
          refine aw_rng (h.evs.length) (fun i : Nat => h.evs.all (eventB h) = (h.evs.drop i).all (eventB h)) (fun i => [(36, iv i)]) [(1, _), (34, _), (35, _)] rfl ?_
          intro i li zi
          refine rn ?_
          refine aw_cond rfl (fun hc37 => ?_) (fun hc37 => ?_)
          · have hi := ltMap hc37
            have ri := atRow (f := evR) hi
            have bi := la.evs
            have si := la.scans h.evs[i] (List.getElem_mem hi)
            refine rn ?_
            refine aops_e rfl (oe_alloc rfl fun b4 => ?_)
            refine rn ?_
            refine qv rfl rfl (qv_call rfl rfl (pcall (refRightEvE h h.evs[i] si) (Sbs.refl _))) ?_
            refine rn ?_
            refine aw_cond rfl (fun hc43 => ?_) (fun hc43 => ?_)
            · refine rn ?_
              refine rq 2 ?_
              exact ⟨rfl, congrArg bv (by rw [shaped_fe (allF hi (by simpa using hc43))])⟩
            · refine rn ?_
              exact ⟨hi, allT hi zi (by simpa using hc43), eA⟩
          · have qi := geMap hc37 li
            have ai := allE qi zi
            refine rn ?_
            refine aw_rng (h.ords.length) (fun j : Nat => h.ords.all (ordB h) = (h.ords.drop j).all (ordB h)) (fun j => [(48, iv j)]) [(1, _), (46, _), (47, _)] rfl ?_
            intro j lj zj
            refine rn ?_
            refine aw_cond rfl (fun hc49 => ?_) (fun hc49 => ?_)
            · have hj := ltMap hc49
              have rj := atRow (f := ordR) hj
              have bj := la.ords
              have sj := la.ordts h.ords[j] (List.getElem_mem hj)
              refine rn ?_
              refine aops_e rfl (oe_alloc rfl fun b6 => ?_)
              refine rn ?_
              refine qv rfl rfl (qv_call rfl rfl (pcall (refIs _ _) (Sbs.refl _))) ?_
              refine rn ?_
              refine asplit (fun hg12_7 => ?_) (fun hg12_7 => ?_)
              · refine rn ?_
                refine aw_ct rfl ?_
                refine rn ?_
                refine rq 2 ?_
                exact ⟨rfl, congrArg bv (by rw [shaped_fo (allF hj (by rw [ordB_eq]; simp_all))])⟩
              · refine rn ?_
                refine qv rfl rfl (qv_call rfl rfl (pcall (refTs h h.ords[j].ts sj) (Sbs.refl _))) ?_
                refine rn ?_
                refine aw_cond rfl (fun hc65 => ?_) (fun hc65 => ?_)
                · refine rn ?_
                  refine rq 2 ?_
                  exact ⟨rfl, congrArg bv (by rw [shaped_fo (allF hj (by rw [ordB_eq]; simp_all))])⟩
                · refine rn ?_
                  exact ⟨hj, allT hj zj (by rw [ordB_eq]; simp_all), eA⟩
            · have qj := geMap hc49 lj
              have aj := allE qj zj
              refine rn ?_
              refine aw_rng (h.mats.length) (fun k : Nat => h.mats.all (matB h) = (h.mats.drop k).all (matB h)) (fun k => [(70, iv k)]) [(1, _), (68, _), (69, _)] rfl ?_
              intro k lk zk
              refine rn ?_
              refine aw_cond rfl (fun hc71 => ?_) (fun hc71 => ?_)
              · have hk := ltMap hc71
                have rk := atRow (f := matR) hk
                have bk := la.mats
                have sk := la.matts h.mats[k] (List.getElem_mem hk)
                refine rn ?_
                refine aops_e rfl (oe_alloc rfl fun b8 => ?_)
                refine rn ?_
                refine qv rfl rfl (qv_call rfl rfl (pcall (refIs _ _) (Sbs.refl _))) ?_
                refine rn ?_
                refine asplit (fun hg18_7 => ?_) (fun hg18_7 => ?_)
                · refine rn ?_
                  refine aw_ct rfl ?_
                  refine rn ?_
                  refine rq 2 ?_
                  exact ⟨rfl, congrArg bv (by rw [shaped_fm (allF hk (by rw [matB_eq]; simp_all))])⟩
                · refine rn ?_
                  refine qv rfl rfl (qv_call rfl rfl (pcall (refIs _ _) (Sbs.refl _))) ?_
                  refine rn ?_
                  refine asplit (fun hg18_16 => ?_) (fun hg18_16 => ?_)
                  · refine rn ?_
                    refine aw_ct rfl ?_
                    refine rn ?_
                    refine rq 2 ?_
                    exact ⟨rfl, congrArg bv (by rw [shaped_fm (allF hk (by rw [matB_eq]; simp_all))])⟩
                  · refine rn ?_
                    refine qv rfl rfl (qv_call rfl rfl (pcall (refTs h h.mats[k].ts sk) (Sbs.refl _))) ?_
                    refine rn ?_
                    refine aw_cond rfl (fun hc96 => ?_) (fun hc96 => ?_)
                    · refine rn ?_
                      refine rq 2 ?_
                      exact ⟨rfl, congrArg bv (by rw [shaped_fm (allF hk (by rw [matB_eq]; simp_all))])⟩
                    · refine rn ?_
                      exact ⟨hk, allT hk zk (by rw [matB_eq]; simp_all), eA⟩
              · have qk := geMap hc71 lk
                have ak := allE qk zk
                refine rn ?_
                refine aw_rng (h.wants.length) (fun m : Nat => h.wants.all (wanB h) = (h.wants.drop m).all (wanB h)) (fun m => [(101, iv m)]) [(1, _), (99, _), (100, _)] rfl ?_
                intro m lm zm
                refine rn ?_
                refine aw_cond rfl (fun hc102 => ?_) (fun hc102 => ?_)
                · have hm := ltMap hc102
                  have rm := atRow (f := wanR) hm
                  have bm := la.wants
                  refine rn ?_
                  refine aops_e rfl (oe_alloc rfl fun b10 => ?_)
                  refine rn ?_
                  refine qv rfl rfl (qv_call rfl rfl (pcall (refIs _ _) (Sbs.refl _))) ?_
                  refine rn ?_
                  refine asplit (fun hg24_7 => ?_) (fun hg24_7 => ?_)
                  · refine rn ?_
                    refine aw_ct rfl ?_
                    refine rn ?_
                    refine rq 2 ?_
                    exact ⟨rfl, congrArg bv (by rw [shaped_fw (allF hm (by rw [wanB_eq]; simp_all))])⟩
                  · refine rn ?_
                    refine qv rfl rfl (qv_call rfl rfl (pcall (refIs _ _) (Sbs.refl _))) ?_
                    refine rn ?_
                    refine aw_cond rfl (fun hc117 => ?_) (fun hc117 => ?_)
                    · refine rn ?_
                      refine rq 2 ?_
                      exact ⟨rfl, congrArg bv (by rw [shaped_fw (allF hm (by rw [wanB_eq]; simp_all))])⟩
                    · refine rn ?_
                      exact ⟨hm, allT hm zm (by rw [wanB_eq]; simp_all), eA⟩
                · have qm := geMap hc102 lm
                  have am := allE qm zm
                  refine rn ?_
                  refine asplit (fun hg27_4 => ?_) (fun hg27_4 => ?_)
                  · refine rn ?_
                    refine asplit (fun hg27_10 => ?_) (fun hg27_10 => ?_)
                    · refine rn ?_
                      refine asplit (fun hg27_16 => ?_) (fun hg27_16 => ?_)
                      · refine rn ?_
                        refine rq 1 ?_
                        exact ⟨rfl, congrArg bv (by rw [shaped_is (by simp_all) (by simp_all) (by simp_all) (by simp_all) ai aj ak am]; first | (simp_all; done) | (simp_all; intros; omega))⟩
                      · refine rn ?_
                        refine rq 1 ?_
                        exact ⟨rfl, congrArg bv (by rw [shaped_is (by simp_all) (by simp_all) (by simp_all) (by simp_all) ai aj ak am]; first | (simp_all; done) | (simp_all; intros; omega))⟩
                    · refine rn ?_
                      refine rq 1 ?_
                      exact ⟨rfl, congrArg bv (by rw [shaped_is (by simp_all) (by simp_all) (by simp_all) (by simp_all) ai aj ak am]; first | (simp_all; done) | (simp_all; intros; omega))⟩
                  · refine rn ?_
                    refine rq 1 ?_
                    exact ⟨rfl, congrArg bv (by rw [shaped_is (by simp_all) (by simp_all) (by simp_all) (by simp_all) ai aj ak am]; first | (simp_all; done) | (simp_all; intros; omega))⟩
end Go.Proofs
/- The walks of the reference's first and made. Conditions: none. -/
set_option linter.unusedVariables false
set_option linter.unusedSimpArgs false
set_option maxRecDepth 10000
namespace Go.Proofs
open Go Go.Ab
attribute [local irreducible] QR QV OE aops aw dsoup dsoupM dalloc dallocM thn inBlk
open Go.H
theorem ref11First (s : SV) (l : List Int) (n : Int) (hl : l.length ≤ 1000000000) : ACall Tryz.prog 122 [.v s.v, iv n] [.row s.v 1 3 (l.map intR)] (fun r h' => ∃ s' : SV, h' = [.row s'.v 1 3 ((addF l n).map intR)] ∧ r = .v s'.v) := by
  refine acall_of_aw Tryz.func122 rfl rfl rfl ?_
  refine rn ?_
  refine qv rfl rfl (qv_call rfl rfl (FCall.lend (R := fun x => x = iv (atI n 0 l)) (FCall.of_fun (refAt (f := false) l n (by omega))) (fun r hr => by rw [hr]; rfl) (.refl _ _) ⟨ble_row, .refl _ _, trivial⟩)) ?_
  refine rn ?_
  refine aw_cond rfl (fun hc8 => ?_) (fun hc8 => ?_)
  · refine rn ?_
    refine rq 0 ?_
    exact ⟨s, by rw [addF, if_pos (by simpa using hc8)]; rfl, rfl⟩
  · refine rn ?_
    refine qv rfl rfl (qv_buildSlice rfl rfl) ?_
    refine aops_e rfl (oe_append_row rfl rfl (by simp; omega) rfl (fun s13 => ?_) (fun r hr => by simp at hr; subst hr; rfl))
    refine aops_slice s13 fun sv hsv => ?_
    subst hsv
    refine rn ?_
    refine rq 0 ?_
    exact ⟨sv, by rw [addF, if_neg (by simpa using hc8), List.map_append]; rfl, rfl⟩
theorem ref11Made (s : SV) (l : List Int) (v : Ver) (hl : l.length ≤ 1000000000) : ACall Tryz.prog 123 [.v s.v, .agg (verR v)] [.row s.v 1 3 (l.map intR)] (fun r h' => ∃ s' : SV, h' = [.row s'.v 1 3 ((addV l v).map intR)] ∧ r = .v s'.v) := by
  refine acall_of_aw Tryz.func123 rfl rfl rfl ?_
  refine rn ?_
  refine aops_e rfl (oe_box rfl rfl rfl fun b3 => ?_)
  refine rn ?_
  refine aw_cond rfl (fun hc7 => ?_) (fun hc7 => ?_)
  · refine rn ?_
    refine rq 1 ?_
    exact ⟨s, by rw [addV, if_pos (by simpa using hc7)]; rfl, rfl⟩
  · refine rn ?_
    refine aops_e rfl (oe_call rfl rfl (fcall_row (FCall.of_fun (ref11First s l v.t hl))) rfl ?_)
    rintro _ _ ⟨s', rfl, rfl⟩
    refine rn ?_
    refine rq 1 ?_
    exact ⟨s', by rw [addV, if_neg (by simpa using hc7)]; rfl, rfl⟩
end Go.Proofs
/- The walk of the reference's Spoken. Conditions: none. -/
set_option linter.unusedVariables false
set_option linter.unusedSimpArgs false
set_option maxRecDepth 10000
namespace Go.Proofs
open Go Go.Ab
attribute [local irreducible] QR QV OE aops aw dsoup dsoupM dalloc dallocM thn inBlk
open Go.H
set_option maxHeartbeats 4000000 in
theorem refSpoken (h : Hist) (la : Lim 3000 h) : ACall Tryz.prog 72 [.agg (histC h)] [] (fun r h' => h' = [] ∧ r = .agg [intsA (spokenF h 0), intsA (spokenF h 1), intsA (spokenF h 2), intsA (spokenF h 3)]) := by
  refine acall_of_aw Tryz.func72 rfl rfl rfl ?_
  refine rn ?_
  refine aops_e rfl (oe_box rfl rfl rfl fun b1 => ?_)
  refine aops_e rfl (oe_alloc rfl fun b2 => ?_)
  refine rn ?_
  refine aops_e rfl (oe_alloc rfl fun b3 => ?_)
  refine rn ?_
  refine aw_rng4 h.evs.length (fun k s0 s1 s2 s3 => ⟨[(21, iv k), (1, .v (.pointer (some ⟨b1, 0, none⟩))), (2, .v (.pointer (some ⟨b2, 0, none⟩))), (3, .v (.pointer (some ⟨b3, 0, none⟩))), (19, evsA h.evs), (20, iv (h.evs.map evR).length)], [.row s0.v 1 3 (((spE h k) 0).map intR), .row s1.v 1 3 (((spE h k) 1).map intR), .row s2.v 1 3 (((spE h k) 2).map intR), .row s3.v 1 3 (((spE h k) 3).map intR), .box b3 110 [.v s0.v, .v s1.v, .v s2.v, .v s3.v], .box b2 110 [.v (.slice none 0 0), .v (.slice none 0 0), .v (.slice none 0 0), .v (.slice none 0 0)], .box b1 28 (histC h)], []⟩) (⟨none, 0, 0⟩) (⟨none, 0, 0⟩) (⟨none, 0, 0⟩) (⟨none, 0, 0⟩) (ent_trans (ent_nilrow 1 3) (ent_trans (ent_nilrow 1 3) (ent_trans (ent_nilrow 1 3) (ent_trans (ent_nilrow 1 3) es)))) ?_
  intro k s0 s1 s2 s3 lk
  refine rn ?_
  refine aw_cond rfl (fun hc22 => ?_) (fun hc22 => ?_)
  · have hk := ltMap hc22
    have rk := atRow (f := evR) hk
    have bd := bdE la k lk
    have ls := la.scans h.evs[k] (List.getElem_mem hk)
    have le := la.evs
    refine rn ?_
    refine aops_e rfl (oe_alloc rfl fun b5 => ?_)
    refine rn ?_
    refine qq rfl rfl (qr_indexAddr_int rfl rfl (by decide) (by decide)) ?_
    refine rn ?_
    refine aops_e rfl (oe_call rfl rfl (fcall_row (FCall.of_fun (ref11First _ _ _ (by have := bd 0; omega)))) rfl ?_)
    rintro _ _ ⟨s', rfl, rfl⟩
    refine qq rfl rfl (qr_indexAddr_int rfl rfl (by decide) (by decide)) ?_
    refine rn0 ?_
    refine aw_cut4 (fun s0 s1 s2 s3 => ⟨[(5, .v (.pointer (some ⟨b5, 0, none⟩))), (21, iv k), (20, iv (h.evs.map evR).length), (19, evsA h.evs), (1, .v (.pointer (some ⟨b1, 0, none⟩))), (2, .v (.pointer (some ⟨b2, 0, none⟩))), (3, .v (.pointer (some ⟨b3, 0, none⟩)))], [.box b5 72 (evR h.evs[k]), .row s0.v 1 3 (((stepK (stepF (spE h k) (0, h.evs[k].t)) h.evs[k]) 0).map intR), .row s1.v 1 3 (((stepK (stepF (spE h k) (0, h.evs[k].t)) h.evs[k]) 1).map intR), .row s2.v 1 3 (((stepK (stepF (spE h k) (0, h.evs[k].t)) h.evs[k]) 2).map intR), .row s3.v 1 3 (((stepK (stepF (spE h k) (0, h.evs[k].t)) h.evs[k]) 3).map intR), .box b3 110 [.v s0.v, .v s1.v, .v s2.v, .v s3.v], .box b2 110 [.v (.slice none 0 0), .v (.slice none 0 0), .v (.slice none 0 0), .v (.slice none 0 0)], .box b1 28 (histC h)], []⟩) ?_ ?_
    · refine rn ?_
      refine aw_cond rfl (fun hc33 => ?_) (fun hc33 => ?_)
      · refine rn ?_
        refine qq rfl rfl (qr_indexAddr_int rfl rfl (by decide) (by decide)) ?_
        refine rn ?_
        refine aops_e rfl (oe_call rfl rfl (fcall_row (FCall.of_fun (ref11First _ _ _ (by have := bd 1; omega)))) rfl ?_)
        rintro _ _ ⟨s', rfl, rfl⟩
        refine qq rfl rfl (qr_indexAddr_int rfl rfl (by decide) (by decide)) ?_
        refine rn ?_
        exact ⟨_, _, _, _, by unfold stepK; first | (rw [if_pos (by simpa using hc33)]; exact eA) | (rw [if_neg (by simpa using hc33), if_pos (by simp at hc33; simp_all)]; exact eA) | (rw [if_neg (by simpa using hc33), if_neg (by simp at hc33; simp_all), if_pos (by simpa using hc56)]; exact eA) | (rw [if_neg (by simpa using hc33), if_neg (by simp at hc33; simp_all), if_neg (by simpa using hc56)]; exact eA)⟩
      · refine rn ?_
        refine aw_cond rfl (fun hc41 => ?_) (fun hc41 => ?_)
        · refine rn ?_
          refine aw_cond rfl (fun hc41 => ?_) (fun hc41 => ?_)
          · refine rn ?_
            refine qq rfl rfl (qr_indexAddr_int rfl rfl (by decide) (by decide)) ?_
            refine rn ?_
            refine aops_e rfl (oe_call rfl rfl (fcall_row (FCall.of_fun (ref11First _ _ _ (by have := bd 2; omega)))) rfl ?_)
            rintro _ _ ⟨s', rfl, rfl⟩
            refine qq rfl rfl (qr_indexAddr_int rfl rfl (by decide) (by decide)) ?_
            refine rn ?_
            refine qq rfl rfl (qr_indexAddr_int rfl rfl (by decide) (by decide)) ?_
            refine rn ?_
            refine aops_e rfl (oe_call rfl rfl (fcall_row (FCall.of_fun (ref11Made _ _ _ (by have := (bd.f (0, h.evs[k].t)) 0; exact Nat.le_trans this (by omega))))) rfl ?_)
            rintro _ _ ⟨s', rfl, rfl⟩
            refine qq rfl rfl (qr_indexAddr_int rfl rfl (by decide) (by decide)) ?_
            refine rn ?_
            exact ⟨_, _, _, _, by unfold stepK; first | (rw [if_pos (by simpa using hc33)]; exact eA) | (rw [if_neg (by simpa using hc33), if_pos (by simp at hc33; simp_all)]; exact eA) | (rw [if_neg (by simpa using hc33), if_neg (by simp at hc33; simp_all), if_pos (by simpa using hc56)]; exact eA) | (rw [if_neg (by simpa using hc33), if_neg (by simp at hc33; simp_all), if_neg (by simpa using hc56)]; exact eA)⟩
          · first | cases hc41 | exact absurd hc41 (by decide) | (exfalso; simp_all; done)
        · refine rn ?_
          refine aw_cond rfl (fun hc41 => ?_) (fun hc41 => ?_)
          · refine rn ?_
            refine qq rfl rfl (qr_indexAddr_int rfl rfl (by decide) (by decide)) ?_
            refine rn ?_
            refine aops_e rfl (oe_call rfl rfl (fcall_row (FCall.of_fun (ref11First _ _ _ (by have := bd 2; omega)))) rfl ?_)
            rintro _ _ ⟨s', rfl, rfl⟩
            refine qq rfl rfl (qr_indexAddr_int rfl rfl (by decide) (by decide)) ?_
            refine rn ?_
            refine qq rfl rfl (qr_indexAddr_int rfl rfl (by decide) (by decide)) ?_
            refine rn ?_
            refine aops_e rfl (oe_call rfl rfl (fcall_row (FCall.of_fun (ref11Made _ _ _ (by have := (bd.f (0, h.evs[k].t)) 0; exact Nat.le_trans this (by omega))))) rfl ?_)
            rintro _ _ ⟨s', rfl, rfl⟩
            refine qq rfl rfl (qr_indexAddr_int rfl rfl (by decide) (by decide)) ?_
            refine rn ?_
            exact ⟨_, _, _, _, by unfold stepK; first | (rw [if_pos (by simpa using hc33)]; exact eA) | (rw [if_neg (by simpa using hc33), if_pos (by simp at hc33; simp_all)]; exact eA) | (rw [if_neg (by simpa using hc33), if_neg (by simp at hc33; simp_all), if_pos (by simpa using hc56)]; exact eA) | (rw [if_neg (by simpa using hc33), if_neg (by simp at hc33; simp_all), if_neg (by simpa using hc56)]; exact eA)⟩
          · refine rn ?_
            refine aw_cond rfl (fun hc56 => ?_) (fun hc56 => ?_)
            · refine rn ?_
              refine qq rfl rfl (qr_indexAddr_int rfl rfl (by decide) (by decide)) ?_
              refine rn ?_
              refine aops_e rfl (oe_call rfl rfl (fcall_row (FCall.of_fun (ref11First _ _ _ (by have := bd 3; omega)))) rfl ?_)
              rintro _ _ ⟨s', rfl, rfl⟩
              refine qq rfl rfl (qr_indexAddr_int rfl rfl (by decide) (by decide)) ?_
              refine rn ?_
              exact ⟨_, _, _, _, by unfold stepK; first | (rw [if_pos (by simpa using hc33)]; exact eA) | (rw [if_neg (by simpa using hc33), if_pos (by simp at hc33; simp_all)]; exact eA) | (rw [if_neg (by simpa using hc33), if_neg (by simp at hc33; simp_all), if_pos (by simpa using hc56)]; exact eA) | (rw [if_neg (by simpa using hc33), if_neg (by simp at hc33; simp_all), if_neg (by simpa using hc56)]; exact eA)⟩
            · refine rn ?_
              exact ⟨_, _, _, _, by unfold stepK; first | (rw [if_pos (by simpa using hc33)]; exact eA) | (rw [if_neg (by simpa using hc33), if_pos (by simp at hc33; simp_all)]; exact eA) | (rw [if_neg (by simpa using hc33), if_neg (by simp at hc33; simp_all), if_pos (by simpa using hc56)]; exact eA) | (rw [if_neg (by simpa using hc33), if_neg (by simp at hc33; simp_all), if_neg (by simpa using hc56)]; exact eA)⟩
    · intro s0 s1 s2 s3
      refine rn ?_
      refine aw_rng4 h.evs[k].scan.length (fun j s0 s1 s2 s3 => ⟨[(67, iv j), (1, .v (.pointer (some ⟨b1, 0, none⟩))), (2, .v (.pointer (some ⟨b2, 0, none⟩))), (3, .v (.pointer (some ⟨b3, 0, none⟩))), (19, evsA h.evs), (20, iv (h.evs.map evR).length), (21, iv k), (65, seensA h.evs[k].scan), (66, iv (h.evs[k].scan.map seenR).length)], [.box b5 72 (evR h.evs[k]), .row s0.v 1 3 ((((h.evs[k].scan.take j).foldl stepS (stepK (stepF (spE h k) (0, h.evs[k].t)) h.evs[k])) 0).map intR), .row s1.v 1 3 ((((h.evs[k].scan.take j).foldl stepS (stepK (stepF (spE h k) (0, h.evs[k].t)) h.evs[k])) 1).map intR), .row s2.v 1 3 ((((h.evs[k].scan.take j).foldl stepS (stepK (stepF (spE h k) (0, h.evs[k].t)) h.evs[k])) 2).map intR), .row s3.v 1 3 ((((h.evs[k].scan.take j).foldl stepS (stepK (stepF (spE h k) (0, h.evs[k].t)) h.evs[k])) 3).map intR), .box b3 110 [.v s0.v, .v s1.v, .v s2.v, .v s3.v], .box b2 110 [.v (.slice none 0 0), .v (.slice none 0 0), .v (.slice none 0 0), .v (.slice none 0 0)], .box b1 28 (histC h)], []⟩) _ _ _ _ (es) ?_
      intro j s0 s1 s2 s3 lj
      refine rn ?_
      refine aw_cond rfl (fun hc68 => ?_) (fun hc68 => ?_)
      · have hj := ltMap hc68
        have rj := atRow (f := seenR) hj
        have bj := Bd.fold (c := 2) (l := h.evs[k].scan.take j) (fun s _ L n h => h.s s) ((bd.f (0, h.evs[k].t)).k h.evs[k])
        have bl : (h.evs[k].scan.take j).length ≤ 3000 := by rw [List.length_take]; omega
        refine rn ?_
        refine aops_e rfl (oe_alloc rfl fun b7 => ?_)
        refine rn ?_
        refine qq rfl rfl (qr_indexAddr_int rfl rfl (by decide) (by decide)) ?_
        refine rn ?_
        refine aops_e rfl (oe_call rfl rfl (fcall_row (FCall.of_fun (ref11First _ _ _ (by have := bj 2; omega)))) rfl ?_)
        rintro _ _ ⟨s', rfl, rfl⟩
        refine qq rfl rfl (qr_indexAddr_int rfl rfl (by decide) (by decide)) ?_
        refine rn ?_
        refine qq rfl rfl (qr_indexAddr_int rfl rfl (by decide) (by decide)) ?_
        refine rn ?_
        refine aops_e rfl (oe_call rfl rfl (fcall_row (FCall.of_fun (ref11Made _ _ _ (by have := bj 0; omega)))) rfl ?_)
        rintro _ _ ⟨s', rfl, rfl⟩
        refine qq rfl rfl (qr_indexAddr_int rfl rfl (by decide) (by decide)) ?_
        refine rn ?_
        have e : (h.evs[k].scan.take (j + 1)).foldl stepS (stepK (stepF (spE h k) (0, h.evs[k].t)) h.evs[k]) = stepS ((h.evs[k].scan.take j).foldl stepS (stepK (stepF (spE h k) (0, h.evs[k].t)) h.evs[k])) h.evs[k].scan[j] := foldTake _ _ hj
        exact ⟨hj, _, _, _, _, by simp only [e]; exact eA⟩
      · have qj := geMap hc68 lj
        refine rn ?_
        have e : spE h (k + 1) = (h.evs[k].scan.take j).foldl stepS (stepK (stepF (spE h k) (0, h.evs[k].t)) h.evs[k]) := by rw [spE, foldTake _ _ hk, H.stepE, foldEnd _ _ qj]; rfl
        exact ⟨hk, _, _, _, _, by simp only [e]; exact eA⟩
  · have qk := geMap hc22 lk
    refine rn ?_
    refine aw_rng4 h.ords.length (fun k s0 s1 s2 s3 => ⟨[(88, iv k), (1, .v (.pointer (some ⟨b1, 0, none⟩))), (2, .v (.pointer (some ⟨b2, 0, none⟩))), (3, .v (.pointer (some ⟨b3, 0, none⟩))), (86, ordsA h.ords), (87, iv (h.ords.map ordR).length)], [.row s0.v 1 3 (((spO h k) 0).map intR), .row s1.v 1 3 (((spO h k) 1).map intR), .row s2.v 1 3 (((spO h k) 2).map intR), .row s3.v 1 3 (((spO h k) 3).map intR), .box b3 110 [.v s0.v, .v s1.v, .v s2.v, .v s3.v], .box b2 110 [.v (.slice none 0 0), .v (.slice none 0 0), .v (.slice none 0 0), .v (.slice none 0 0)], .box b1 28 (histC h)], []⟩) _ _ _ _ (by rw [show spO h 0 = spE h k from (foldEnd stepE noR qk).symm]; exact es) ?_
    intro k s0 s1 s2 s3 lk
    refine rn ?_
    refine aw_cond rfl (fun hc89 => ?_) (fun hc89 => ?_)
    · have hk := ltMap hc89
      have rk := atRow (f := ordR) hk
      have bd := bdO la k lk
      have ls := la.ordts h.ords[k] (List.getElem_mem hk)
      have le := la.ords
      refine rn ?_
      refine aops_e rfl (oe_alloc rfl fun b9 => ?_)
      refine rn ?_
      refine qq rfl rfl (qr_indexAddr_int rfl rfl (by decide) (by decide)) ?_
      refine rn ?_
      refine aops_e rfl (oe_call rfl rfl (fcall_row (FCall.of_fun (ref11First _ _ _ (by have := bd 2; omega)))) rfl ?_)
      rintro _ _ ⟨s', rfl, rfl⟩
      refine qq rfl rfl (qr_indexAddr_int rfl rfl (by decide) (by decide)) ?_
      refine rn ?_
      refine aw_rng4 h.ords[k].ts.length (fun j s0 s1 s2 s3 => ⟨[(101, iv j), (1, .v (.pointer (some ⟨b1, 0, none⟩))), (2, .v (.pointer (some ⟨b2, 0, none⟩))), (3, .v (.pointer (some ⟨b3, 0, none⟩))), (86, ordsA h.ords), (87, iv (h.ords.map ordR).length), (88, iv k), (99, intsA h.ords[k].ts), (100, iv (h.ords[k].ts.map intR).length)], [.box b9 96 (ordR h.ords[k]), .row s0.v 1 3 ((((h.ords[k].ts.take j).foldl addT (stepF (spO h k) (2, h.ords[k].o))) 0).map intR), .row s1.v 1 3 ((((h.ords[k].ts.take j).foldl addT (stepF (spO h k) (2, h.ords[k].o))) 1).map intR), .row s2.v 1 3 ((((h.ords[k].ts.take j).foldl addT (stepF (spO h k) (2, h.ords[k].o))) 2).map intR), .row s3.v 1 3 ((((h.ords[k].ts.take j).foldl addT (stepF (spO h k) (2, h.ords[k].o))) 3).map intR), .box b3 110 [.v s0.v, .v s1.v, .v s2.v, .v s3.v], .box b2 110 [.v (.slice none 0 0), .v (.slice none 0 0), .v (.slice none 0 0), .v (.slice none 0 0)], .box b1 28 (histC h)], []⟩) _ _ _ _ (es) ?_
      intro j s0 s1 s2 s3 lj
      refine rn ?_
      refine aw_cond rfl (fun hc102 => ?_) (fun hc102 => ?_)
      · have hj := ltMap hc102
        have rj := atRow (f := intR) hj
        have bj := Bd.fold (c := 1) (l := h.ords[k].ts.take j) (fun s _ L n h => h.t s) (bd.f (2, h.ords[k].o))
        have bl : (h.ords[k].ts.take j).length ≤ 3000 := by rw [List.length_take]; omega
        refine rn ?_
        refine qq rfl rfl (qr_indexAddr_int rfl rfl (by decide) (by decide)) ?_
        refine rn ?_
        refine aops_e rfl (oe_call rfl rfl (fcall_row (FCall.of_fun (ref11First _ _ _ (by have := bj 0; omega)))) rfl ?_)
        rintro _ _ ⟨s', rfl, rfl⟩
        refine qq rfl rfl (qr_indexAddr_int rfl rfl (by decide) (by decide)) ?_
        refine rn ?_
        have e : (h.ords[k].ts.take (j + 1)).foldl addT (stepF (spO h k) (2, h.ords[k].o)) = addT ((h.ords[k].ts.take j).foldl addT (stepF (spO h k) (2, h.ords[k].o))) h.ords[k].ts[j] := foldTake _ _ hj
        exact ⟨hj, _, _, _, _, by simp only [e]; exact eA⟩
      · have qj := geMap hc102 lj
        refine rn ?_
        have e : spO h (k + 1) = (h.ords[k].ts.take j).foldl addT (stepF (spO h k) (2, h.ords[k].o)) := by rw [spO, foldTake _ _ hk, stepO, foldEnd _ _ qj]; rfl
        exact ⟨hk, _, _, _, _, by simp only [e]; exact eA⟩
    · have qk := geMap hc89 lk
      refine rn ?_
      refine aw_rng4 h.mats.length (fun k s0 s1 s2 s3 => ⟨[(115, iv k), (1, .v (.pointer (some ⟨b1, 0, none⟩))), (2, .v (.pointer (some ⟨b2, 0, none⟩))), (3, .v (.pointer (some ⟨b3, 0, none⟩))), (113, matsA h.mats), (114, iv (h.mats.map matR).length)], [.row s0.v 1 3 (((spM h k) 0).map intR), .row s1.v 1 3 (((spM h k) 1).map intR), .row s2.v 1 3 (((spM h k) 2).map intR), .row s3.v 1 3 (((spM h k) 3).map intR), .box b3 110 [.v s0.v, .v s1.v, .v s2.v, .v s3.v], .box b2 110 [.v (.slice none 0 0), .v (.slice none 0 0), .v (.slice none 0 0), .v (.slice none 0 0)], .box b1 28 (histC h)], []⟩) _ _ _ _ (by rw [show spM h 0 = spO h k from (foldEnd stepO _ qk).symm]; exact es) ?_
      intro k s0 s1 s2 s3 lk
      refine rn ?_
      refine aw_cond rfl (fun hc116 => ?_) (fun hc116 => ?_)
      · have hk := ltMap hc116
        have rk := atRow (f := matR) hk
        have bd := bdM la k lk
        have ls := la.matts h.mats[k] (List.getElem_mem hk)
        have le := la.mats
        refine rn ?_
        refine aops_e rfl (oe_alloc rfl fun b13 => ?_)
        refine rn ?_
        refine qq rfl rfl (qr_indexAddr_int rfl rfl (by decide) (by decide)) ?_
        refine rn ?_
        refine aops_e rfl (oe_call rfl rfl (fcall_row (FCall.of_fun (ref11First _ _ _ (by have := bd 3; omega)))) rfl ?_)
        rintro _ _ ⟨s', rfl, rfl⟩
        refine qq rfl rfl (qr_indexAddr_int rfl rfl (by decide) (by decide)) ?_
        refine rn ?_
        refine qq rfl rfl (qr_indexAddr_int rfl rfl (by decide) (by decide)) ?_
        refine rn ?_
        refine aops_e rfl (oe_call rfl rfl (fcall_row (FCall.of_fun (ref11First _ _ _ (by have := bd 2; omega)))) rfl ?_)
        rintro _ _ ⟨s', rfl, rfl⟩
        refine qq rfl rfl (qr_indexAddr_int rfl rfl (by decide) (by decide)) ?_
        refine rn ?_
        refine aw_rng4 h.mats[k].ts.length (fun j s0 s1 s2 s3 => ⟨[(134, iv j), (1, .v (.pointer (some ⟨b1, 0, none⟩))), (2, .v (.pointer (some ⟨b2, 0, none⟩))), (3, .v (.pointer (some ⟨b3, 0, none⟩))), (113, matsA h.mats), (114, iv (h.mats.map matR).length), (115, iv k), (132, intsA h.mats[k].ts), (133, iv (h.mats[k].ts.map intR).length)], [.box b13 87 (matR h.mats[k]), .row s0.v 1 3 ((((h.mats[k].ts.take j).foldl addT (stepF (stepF (spM h k) (3, h.mats[k].p)) (2, h.mats[k].o))) 0).map intR), .row s1.v 1 3 ((((h.mats[k].ts.take j).foldl addT (stepF (stepF (spM h k) (3, h.mats[k].p)) (2, h.mats[k].o))) 1).map intR), .row s2.v 1 3 ((((h.mats[k].ts.take j).foldl addT (stepF (stepF (spM h k) (3, h.mats[k].p)) (2, h.mats[k].o))) 2).map intR), .row s3.v 1 3 ((((h.mats[k].ts.take j).foldl addT (stepF (stepF (spM h k) (3, h.mats[k].p)) (2, h.mats[k].o))) 3).map intR), .box b3 110 [.v s0.v, .v s1.v, .v s2.v, .v s3.v], .box b2 110 [.v (.slice none 0 0), .v (.slice none 0 0), .v (.slice none 0 0), .v (.slice none 0 0)], .box b1 28 (histC h)], []⟩) _ _ _ _ (es) ?_
        intro j s0 s1 s2 s3 lj
        refine rn ?_
        refine aw_cond rfl (fun hc135 => ?_) (fun hc135 => ?_)
        · have hj := ltMap hc135
          have rj := atRow (f := intR) hj
          have bj := Bd.fold (c := 1) (l := h.mats[k].ts.take j) (fun s _ L n h => h.t s) ((bd.f (3, h.mats[k].p)).f (2, h.mats[k].o))
          have bl : (h.mats[k].ts.take j).length ≤ 3000 := by rw [List.length_take]; omega
          refine rn ?_
          refine qq rfl rfl (qr_indexAddr_int rfl rfl (by decide) (by decide)) ?_
          refine rn ?_
          refine aops_e rfl (oe_call rfl rfl (fcall_row (FCall.of_fun (ref11First _ _ _ (by have := bj 0; omega)))) rfl ?_)
          rintro _ _ ⟨s', rfl, rfl⟩
          refine qq rfl rfl (qr_indexAddr_int rfl rfl (by decide) (by decide)) ?_
          refine rn ?_
          have e : (h.mats[k].ts.take (j + 1)).foldl addT (stepF (stepF (spM h k) (3, h.mats[k].p)) (2, h.mats[k].o)) = addT ((h.mats[k].ts.take j).foldl addT (stepF (stepF (spM h k) (3, h.mats[k].p)) (2, h.mats[k].o))) h.mats[k].ts[j] := foldTake _ _ hj
          exact ⟨hj, _, _, _, _, by simp only [e]; exact eA⟩
        · have qj := geMap hc135 lj
          refine rn ?_
          have e : spM h (k + 1) = (h.mats[k].ts.take j).foldl addT (stepF (stepF (spM h k) (3, h.mats[k].p)) (2, h.mats[k].o)) := by rw [spM, foldTake _ _ hk, stepM, foldEnd _ _ qj]; rfl
          exact ⟨hk, _, _, _, _, by simp only [e]; exact eA⟩
      · have qk := geMap hc116 lk
        refine rn ?_
        refine aw_rng4 h.wants.length (fun k s0 s1 s2 s3 => ⟨[(148, iv k), (2, .v (.pointer (some ⟨b2, 0, none⟩))), (3, .v (.pointer (some ⟨b3, 0, none⟩))), (146, wansA h.wants), (147, iv (h.wants.map wanR).length)], [.row s0.v 1 3 (((spW h k) 0).map intR), .row s1.v 1 3 (((spW h k) 1).map intR), .row s2.v 1 3 (((spW h k) 2).map intR), .row s3.v 1 3 (((spW h k) 3).map intR), .box b3 110 [.v s0.v, .v s1.v, .v s2.v, .v s3.v], .box b2 110 [.v (.slice none 0 0), .v (.slice none 0 0), .v (.slice none 0 0), .v (.slice none 0 0)], .box b1 28 (histC h)], []⟩) _ _ _ _ (by rw [show spW h 0 = spM h k from (foldEnd stepM _ qk).symm]; exact es) ?_
        intro k s0 s1 s2 s3 lk
        refine rn ?_
        refine aw_cond rfl (fun hc149 => ?_) (fun hc149 => ?_)
        · have hk := ltMap hc149
          have rk := atRow (f := wanR) hk
          have bd := bdW la k lk
          have le := la.wants
          refine rn ?_
          refine aops_e rfl (oe_alloc rfl fun b17 => ?_)
          refine rn ?_
          refine qq rfl rfl (qr_indexAddr_int rfl rfl (by decide) (by decide)) ?_
          refine rn ?_
          refine aops_e rfl (oe_call rfl rfl (fcall_row (FCall.of_fun (ref11First _ _ _ (by have := bd 1; omega)))) rfl ?_)
          rintro _ _ ⟨s', rfl, rfl⟩
          refine qq rfl rfl (qr_indexAddr_int rfl rfl (by decide) (by decide)) ?_
          refine rn ?_
          have e : spW h (k + 1) = stepW (spW h k) h.wants[k] := foldTake _ _ hk
          exact ⟨hk, _, _, _, _, by simp only [e]; exact eA⟩
        · have qk := geMap hc149 lk
          refine rn ?_
          exact retq (.cons _ _ _ _ (.agg _ _ _ _ _ _ _ rfl inferInstance inferInstance inferInstance rfl) .nil) (.trans (vent_freeze_cell [] _) (.trans (vent_freeze_cell [_] _) (.trans (vent_freeze_cell [_, _] _) (.trans (vent_freeze_cell [_, _, _] _) (.drop [_, _, _] _ _))))) ⟨rfl, by rw [← show spW h k = spokenF h from foldEnd _ _ qk]; rfl⟩
end Go.Proofs
/- The walk of the reference's Right. Conditions: none. -/
set_option linter.unusedVariables false
set_option linter.unusedSimpArgs false
set_option maxRecDepth 10000
namespace Go.Proofs
open Go Go.Ab
attribute [local irreducible] QR QV OE aops aw dsoup dsoupM dalloc dallocM thn inBlk
open Go.H
theorem refRight (h : Hist) (la : Lim 4611686018427387904 h) : ACall Tryz.prog 18 [.agg (histC h)] [] (fun r h' => h' = [] ∧ r = bv (rightB h)) := by
  refine acall_of_aw Tryz.func18 rfl rfl rfl ?_
  refine rn ?_
  refine aops_e rfl (oe_box rfl rfl rfl fun b1 => ?_)
  refine rn ?_
  refine qv rfl rfl (qv_call rfl rfl (pcall (refShaped h la) (Sbs.refl _))) ?_
  refine rn ?_
  refine aw_cond rfl (fun hc10 => ?_) (fun hc10 => ?_)
  · refine rn ?_
    refine rq 1 ?_
    exact ⟨rfl, congrArg bv (by rw [right_s (by simpa using hc10)])⟩
  · have hs : shapedB h = true := by simpa using hc10
    have la3 := shaped_lim hs
    refine rn ?_
    refine qv rfl rfl (qv_call rfl rfl (pcall (refSpoken h la3) (Sbs.refl _))) ?_
    refine rn ?_
    refine aw_rng (4) (fun k : Nat => ∀ j, j < k → okS h j = true) (fun k => [(13, iv k)]) [(1, _), (12, _)] (fun j hj => by omega) ?_
    intro k lk zk
    refine rn ?_
    refine aw_cond rfl (fun hc14 => ?_) (fun hc14 => ?_)
    · have hk : k < 4 := by simp at hc14; omega
      have r0 := sp_at h hk
      have r1 := many_at h hk
      have bl := spoken_len la3 k
      refine rn ?_
      refine aw_cond rfl (fun hc35 => ?_) (fun hc35 => ?_)
      · refine rn ?_
        refine rq 1 ?_
        exact ⟨rfl, congrArg bv (by rw [right_f hk]; rw [okS, beq_eq_false_iff_ne.2 (by simp at hc35; omega), Bool.false_and])⟩
      · have hlen : (spokenF h k).length = (nmK h k).length := by simp at hc35; omega
        refine rn ?_
        refine aw_rng ((spokenF h k).length) (fun i : Nat => uptoF 0 (spokenF h k) = uptoF i ((spokenF h k).drop i)) (fun i => [(38, iv i)]) [(1, _), (12, _), (13, _), (36, _), (37, _)] rfl ?_
        intro i li zi
        refine rn ?_
        refine aw_cond rfl (fun hc39 => ?_) (fun hc39 => ?_)
        · have hi := ltMap hc39
          have ri := atRow (f := intR) hi
          refine rn ?_
          refine aw_cond rfl (fun hc45 => ?_) (fun hc45 => ?_)
          · refine rn ?_
            refine rq 1 ?_
            exact ⟨rfl, congrArg bv (by rw [right_f hk]; rw [okS, upto_f hi zi (by simp at hc45; omega), Bool.and_false])⟩
          · refine rn ?_
            exact ⟨hi, upto_step hi zi (by simp at hc45; omega), eA⟩
        · have qi := geMap hc39 li
          refine rn ?_
          exact ⟨hk, fun j hj => (Nat.lt_or_ge j k).elim (zk j) (fun q => by
            obtain rfl : j = k := by omega
            rw [okS, hlen, upto_e qi zi]; simp), eA⟩
    · have qk : k = 4 := by simp at hc14; omega
      subst qk
      refine rn ?_
      refine rq 1 ?_
      exact ⟨rfl, congrArg bv (by rw [right_t hs zk])⟩
theorem refRightM (h : Hist) (la : Lim 4611686018427387904 h) : ACall Tryz.prog 18 [.agg (histC h)] [] (fun r h' => h' = [] ∧ r = bv (mayB h)) :=
  (refRight h la).mono fun _ _ q => ⟨q.1, by rw [q.2, rightB_eq]⟩
end Go.Proofs
/- The walks of the reference's Check, Final, Sees, Sights. Conditions: none. -/
set_option linter.unusedVariables false
set_option linter.unusedSimpArgs false
set_option maxRecDepth 10000
namespace Go.Proofs
open Go Go.Ab
attribute [local irreducible] QR QV OE aops aw dsoup dsoupM dalloc dallocM thn inBlk jsoup jch lsoup
open Go.H
theorem lw_hit {l : List Ev} {t x : Int} {j : Nat} (h : j < l.length) (hw : wroteQ t x l[j] = true) : lastW l t x (j + 1) = some (l[j].v, j) := by
  rw [lastW, List.getElem?_eq_getElem h]; simp only [hw, if_true]
theorem lw_miss {l : List Ev} {t x : Int} {j : Nat} (h : j < l.length) (hw : wroteQ t x l[j] = false) : lastW l t x (j + 1) = lastW l t x j := by
  rw [lastW, List.getElem?_eq_getElem h]; simp [hw]
theorem row_pred {l : List Ev} {j : Nat} (h : j < l.length) : (l.map evR)[(((j + 1 : Nat) : Int) - 1).toNat]? = some (evR l[j]) := by
  rw [show (((j + 1 : Nat) : Int) - 1).toNat = j by omega, List.getElem?_map, List.getElem?_eq_getElem h]; rfl
theorem isI_eq (a b : Int) : (decide (a ≥ 0) && decide (a < b)) = decide (0 ≤ a ∧ a < b) := by
  rw [Bool.eq_iff_iff]; simp only [Bool.and_eq_true, decide_eq_true_eq, ge_iff_le]
theorem all_snoc {α : Type} {l : List α} {q : α → Bool} {k : Nat} (hk : k < l.length) : (l.take (k + 1)).all q = ((l.take k).all q && q l[k]) := by
  rw [List.take_succ_eq_append_getElem hk, List.all_append, List.all_cons, List.all_nil, Bool.and_true]
theorem isI (a b : Int) : ACall Tryz.prog 29 [iv a, iv b] [] (fun r h' => h' = [] ∧ r = bv (decide (0 ≤ a ∧ a < b))) := by
  refine acall_of_aw Tryz.func29 rfl rfl rfl ?_
  refine rn ?_
  refine asplit (fun hg1_2 => ?_) (fun hg1_2 => ?_)
  · refine rn ?_
    refine rq 0 ?_
    exact ⟨rfl, by rw [← isI_eq, hg1_2]; rfl⟩
  · refine rn ?_
    refine rq 0 ?_
    exact ⟨rfl, by rw [← isI_eq, hg1_2]; rfl⟩
theorem refSound (h : Hist) (la : Lim 4611686018427387904 h) : ACall Tryz.prog 84 [.agg (histC h)] [] (fun r h' => h' = [] ∧ r = bv (soundB h)) := by
  refine acall_of_aw Tryz.func84 rfl rfl rfl ?_
  refine rn ?_
  refine aops_e rfl (oe_box rfl rfl rfl fun b1 => ?_)
  refine rn ?_
  refine qv rfl rfl (qv_call rfl rfl (pcall (refRightM h la) (Sbs.refl _))) ?_
  refine rn ?_
  refine aw_cond rfl (fun hc7 => ?_) (fun hc7 => ?_)
  · have hm : mayB h = false := by simpa using hc7
    refine rn ?_
    refine rq 1 ?_
    exact ⟨rfl, congrArg bv (by rw [soundB, hm]; rfl)⟩
  · have hm : mayB h = true := by simpa using hc7
    refine rn ?_
    refine qv rfl rfl (qv_call rfl rfl (pcall (refFirst15 h ((may3000 hm).mono (by decide))) (Sbs.refl _))) ?_
    obtain ⟨bi, bj, be⟩ := brk_two (firstIn (placeR h) rules10)
    rw [be]
    refine rn ?_
    refine aops_e rfl (oe_alloc rfl fun b3 => ?_)
    refine rn ?_
    refine rq 2 ?_
    exact ⟨rfl, congrArg bv (by rw [soundB, hm, show firstH h = firstIn (placeR h) rules10 from first_eq hm]; cases firstIn (placeR h) rules10 <;> rfl)⟩
theorem refCheck16 (h : Hist) (la : Lim 4611686018427387904 h) : ACall Tryz.prog 28 [.agg (histC h)] [] (fun r h' => h' = [] ∧ r = iv (checkI h)) := by
  refine acall_of_aw Tryz.func28 rfl rfl rfl ?_
  refine rn ?_
  refine aops_e rfl (oe_box rfl rfl rfl fun b1 => ?_)
  refine rn ?_
  refine qv rfl rfl (qv_call rfl rfl (pcall (refRightM h la) (Sbs.refl _))) ?_
  refine rn ?_
  refine aw_cond rfl (fun hc5 => ?_) (fun hc5 => ?_)
  · have hm : mayB h = false := by simpa using hc5
    refine rn ?_
    refine rq 1 ?_
    exact ⟨rfl, by rw [checkI, hm]; rfl⟩
  · have hm : mayB h = true := by simpa using hc5
    refine rn ?_
    refine qv rfl rfl (qv_call rfl rfl (pcall (refSound h la) (Sbs.refl _))) ?_
    refine rn ?_
    refine aw_cond rfl (fun hc8 => ?_) (fun hc8 => ?_)
    · refine rn ?_
      refine rq 1 ?_
      exact ⟨rfl, by rw [checkI, hm, if_pos rfl, if_neg (by simpa using hc8)]; rfl⟩
    · refine rn ?_
      refine rq 1 ?_
      exact ⟨rfl, by rw [checkI, hm, if_pos rfl, if_pos (by simpa using hc8)]; rfl⟩
theorem refFinal16 (h : Hist) (la : h.evs.length ≤ 1000000) (t x : Int) : ACall Tryz.prog 30 [.agg (histC h), iv t, iv x] [] (fun r h' => h' = [] ∧ r = .tup [.agg (verR (verO (finW h.evs t x))), iv (atO (finW h.evs t x)), bv (finW h.evs t x).isSome]) := by
  refine acall_of_aw Tryz.func30 rfl rfl rfl ?_
  refine rn ?_
  refine aops_e rfl (oe_box rfl rfl rfl fun b3 => ?_)
  refine aops_e rfl (oe_alloc rfl fun b6 => ?_)
  refine q1 ?_
  refine q1 ?_
  refine aops_nil (thn_n ?_)
  refine aw_seq ?_
  refine aw_seq (aw_region ?_)
  refine q1 ?_
  refine q1 ?_
  refine q1 ?_
  refine qq rfl rfl (qr_ari rfl rfl rfl (by rw [List.length_map]; omega)) ?_
  refine rn ?_
  refine aw_while (fun k : Nat => k ≤ h.evs.length ∧ lastW h.evs t x h.evs.length = lastW h.evs t x k) (fun k => ⟨[(9, iv ((k : Int) - 1)), (1, iv t), (2, iv x), (3, .v (.pointer (some ⟨b3, 0, none⟩))), (6, .v (.pointer (some ⟨b6, 0, none⟩))), (7, iv 0), (8, bv false)], .box b6 55 [iv 0, iv 0] :: .box b3 28 (histC h) :: [], []⟩) (fun k => k) h.evs.length ⟨Nat.le_refl _, rfl⟩ (by rw [List.length_map]; exact es) ?_
  rintro k ⟨lk, zk⟩
  refine rn ?_
  refine aw_cond rfl (fun hc16 => ?_) (fun hc16 => ?_)
  · obtain ⟨j, rfl⟩ : ∃ j, k = j + 1 := ⟨k - 1, by have := of_decide_eq_true hc16; omega⟩
    have hj : j < h.evs.length := by omega
    refine aw_skip ?_
    refine thn_n ?_
    refine aw_seq ?_
    refine aw_block ?_
    refine aw_seq (aw_region ?_)
    refine q1 ?_
    refine q1 ?_
    refine q1 ?_
    refine qq rfl rfl (qr_index_int rfl rfl (by omega) (row_pred hj)) ?_
    refine rn ?_
    refine aops_e rfl (oe_alloc rfl fun b10 => ?_)
    refine rn ?_
    refine asplit (fun hg5_3 => ?_) (fun hg5_3 => ?_)
    · refine rn ?_
      refine asplit (fun hg5_9 => ?_) (fun hg5_9 => ?_)
      · refine rn ?_
        refine aw_cond rfl (fun hc38 => ?_) (fun hc38 => ?_)
        · have hw : wroteQ t x h.evs[j] = true := by rw [wroteQ]; first | (rw [hg5_3, hg5_9, hc38]; rfl) | (rw [hg5_3, hg5_9]; rfl) | (rw [hg5_3]; rfl)
          refine rn ?_
          exact retq (.cons _ _ _ _ (.agg _ _ _ _ _ _ _ rfl inferInstance inferInstance inferInstance rfl) (.cons _ _ _ _ (.tmp _ _ rfl) (.cons _ _ _ _ (.tmp _ _ rfl) .nil))) (.drop [_, _, _] _ _) ⟨rfl, by rw [finW, zk, lw_hit hj hw]; simp only [verO, atO]; rw [show (((j + 1 : Nat) : Int) - 1) = (j : Int) by omega]; rfl⟩
        · have hw : wroteQ t x h.evs[j] = false := by rw [wroteQ]; first | (rw [hg5_3, hg5_9, hc38]; rfl) | (rw [hg5_3, hg5_9]; rfl) | (rw [hg5_3]; rfl)
          refine aw_skip ?_
          refine inBlk_n ?_
          refine thn_n ?_
          refine aw_region ?_
          refine q1 ?_
          refine qq rfl rfl (qr_ari rfl rfl rfl (by omega)) ?_
          refine rn ?_
          exact ⟨j, ⟨by omega, by rw [zk, lw_miss hj hw]⟩, by rw [show (((j + 1 : Nat) : Int) - 1 - 1) = (j : Int) - 1 by omega]; exact eA, by omega⟩
      · refine rn ?_
        refine aw_cf rfl ?_
        have hw : wroteQ t x h.evs[j] = false := by rw [wroteQ]; first | (rw [hg5_3, hg5_9, hc38]; rfl) | (rw [hg5_3, hg5_9]; rfl) | (rw [hg5_3]; rfl)
        refine aw_skip ?_
        refine inBlk_n ?_
        refine thn_n ?_
        refine aw_region ?_
        refine q1 ?_
        refine qq rfl rfl (qr_ari rfl rfl rfl (by omega)) ?_
        refine rn ?_
        exact ⟨j, ⟨by omega, by rw [zk, lw_miss hj hw]⟩, by rw [show (((j + 1 : Nat) : Int) - 1 - 1) = (j : Int) - 1 by omega]; exact eA, by omega⟩
    · refine rn ?_
      refine aw_cf rfl ?_
      have hw : wroteQ t x h.evs[j] = false := by rw [wroteQ]; first | (rw [hg5_3, hg5_9, hc38]; rfl) | (rw [hg5_3, hg5_9]; rfl) | (rw [hg5_3]; rfl)
      refine aw_skip ?_
      refine inBlk_n ?_
      refine thn_n ?_
      refine aw_region ?_
      refine q1 ?_
      refine qq rfl rfl (qr_ari rfl rfl rfl (by omega)) ?_
      refine rn ?_
      exact ⟨j, ⟨by omega, by rw [zk, lw_miss hj hw]⟩, by rw [show (((j + 1 : Nat) : Int) - 1 - 1) = (j : Int) - 1 by omega]; exact eA, by omega⟩
  · have qk : k = 0 := by have := of_decide_eq_false hc16; omega
    subst qk
    refine aw_exit ?_
    refine thn_e ?_
    refine thn_e ?_
    refine inBlk_hit ?_
    refine thn_n ?_
    refine aw_seq (aw_region ?_)
    refine qq rfl rfl (qr_build (out := [iv 0, iv 0]) rfl (by rfl)) ?_
    refine rn ?_
    exact retq (.cons _ _ _ _ (.agg _ _ _ _ _ _ _ rfl inferInstance inferInstance inferInstance rfl) (.cons _ _ _ _ (.tmp _ _ rfl) (.cons _ _ _ _ (.tmp _ _ rfl) .nil))) (.drop [_, _] _ _) ⟨rfl, by rw [finW, zk]; rfl⟩
end Go.Proofs
/- The walk of the index's Begun. Conditions: none. -/
set_option linter.unusedVariables false
set_option linter.unusedSimpArgs false
set_option maxRecDepth 10000
namespace Go.Proofs
open Go Go.Ab
attribute [local irreducible] QR QV OE aops aw dsoup dsoupM dalloc dallocM thn inBlk jsoup jch lsoup
open Go.H
end Go.Proofs
/- The walks of the reference's Committed, Begun, Line, Installed, Next, Rank. Conditions: none. -/
set_option linter.unusedVariables false
set_option linter.unusedSimpArgs false
set_option maxRecDepth 10000
namespace Go.Proofs
open Go Go.Ab
attribute [local irreducible] QR QV OE aops aw dsoup dsoupM dalloc dallocM thn inBlk jsoup jch lsoup
open Go.H
theorem insR_hit {h : Hist} {x : Int} {k : Nat} (hk : k < h.ords.length) (hx : (h.ords[k].o == x) = true) (hz : ((h.ords.take k).all fun o : Ord => !(o.o == x)) = true) : insR h x = h.ords[k].ts := by
  have : h.ords.find? (fun o => o.o == x) = some h.ords[k] := by
    rw [List.find?_eq_some_iff_getElem]
    exact ⟨hx, k, hk, rfl, fun j hj => by have := List.all_eq_true.1 hz h.ords[j] (mem_take_lt (by omega) hj); exact this⟩
  rw [insR, this]
theorem insR_no {h : Hist} {x : Int} (hz : (h.ords.all fun o : Ord => !(o.o == x)) = true) : insR h x = writersR h x := by
  have : h.ords.find? (fun o => o.o == x) = none := by
    rw [List.find?_eq_none]; intro s hs q
    have := List.all_eq_true.1 hz s hs
    rw [q] at this; cases this
  rw [insR, this]
theorem insR_le {h : Hist} {N : Nat} (la : Lim N h) (x : Int) : (insR h x).length ≤ N := by
  unfold insR
  split
  · rename_i o ho; exact la.ordts o (List.mem_of_find?_eq_some ho)
  · exact Nat.le_trans (writersR_le _ _) la.ts
def nextR (h : Hist) (x n : Int) : Option Int := if 0 ≤ n then (insR h x)[n.toNat]? else none
theorem nr_0 {h : Hist} {x n : Int} (h2 : decide (n < 0) = true) : nextR h x n = none := by rw [nextR, if_neg (by have := of_decide_eq_true h2; omega)]
theorem nr_1 {h : Hist} {x n : Int} (hn : decide (n ≥ (((insR h x).map intR).length : Int)) = true) : nextR h x n = none := by
  have hn := of_decide_eq_true hn
  rw [List.length_map] at hn
  rw [nextR]; split
  · rw [List.getElem?_eq_none (by omega)]
  · rfl
theorem nr_y {h : Hist} {x n : Int} (h2 : decide (n < 0) = false) (hn : decide (n ≥ (((insR h x).map intR).length : Int)) = false) : ∃ a, 0 ≤ n ∧ ((insR h x).map intR)[n.toNat]? = some (intR a) ∧ nextR h x n = some a := by
  have hn := of_decide_eq_false hn
  have h2 := of_decide_eq_false h2
  rw [List.length_map] at hn
  refine ⟨(insR h x)[n.toNat]'(by omega), by omega, ?_, ?_⟩
  · rw [List.getElem?_map, List.getElem?_eq_getElem (by omega)]; rfl
  · rw [nextR, if_pos (by omega), List.getElem?_eq_getElem (by omega)]
def rkQ (h : Hist) (x : Int) (v : Ver) (t : Int) : Bool := verO (finW h.evs t x) == v
def rankR (h : Hist) (x : Int) (v : Ver) : Int × Bool := if v = ⟨0, 0⟩ then (0, true) else if fidx (rkQ h x v) 0 (insR h x) ≥ 0 then (fidx (rkQ h x v) 0 (insR h x) + 1, true) else (0, false)
theorem rr_hit {h : Hist} {x : Int} {v : Ver} {k : Nat} (hv : v ≠ ⟨0, 0⟩) (hk : k < (insR h x).length) (hq : rkQ h x v (insR h x)[k] = true) (hz : (((insR h x).take k).all fun t => !rkQ h x v t) = true) : rankR h x v = ((k : Int) + 1, true) := by
  have : fidx (rkQ h x v) 0 (insR h x) = (k : Int) := by
    have := fidx_at (p := rkQ h x v) (l := insR h x) (i := 0) hk hq (fun j hj => by
      have := List.all_eq_true.1 hz (insR h x)[j] (mem_take_lt (by omega) hj)
      simpa using this)
    rw [this]; congr 1; omega
  rw [rankR, if_neg hv, this, if_pos (by omega)]
theorem rr_no {h : Hist} {x : Int} {v : Ver} (hv : v ≠ ⟨0, 0⟩) (hz : ((insR h x).all fun t => !rkQ h x v t) = true) : rankR h x v = (0, false) := by
  have : decide (fidx (rkQ h x v) 0 (insR h x) ≥ 0) = false := by
    rw [fidx_ge, List.any_eq_false]; intro t ht
    have := List.all_eq_true.1 hz t ht
    simpa using this
  rw [rankR, if_neg hv, if_neg (of_decide_eq_false this)]
theorem refInst16 (h : Hist) (la : Lim 1000000 h) (x : Int) : ACall Tryz.prog 44 [.agg (histC h), iv x] [] (fun r h' => h' = [] ∧ r = intsA (insR h x)) := by
  refine acall_of_aw Tryz.func44 rfl rfl rfl ?_
  have bo := la.ords
  refine rn ?_
  refine aops_e rfl (oe_box rfl rfl rfl fun b2 => ?_)
  refine rn ?_
  refine aw_rng (h.ords.length) (fun k : Nat => ((h.ords.take k).all fun o : Ord => !(o.o == x)) = true) (fun k => [(10, iv k)]) [(1, _), (2, _), (8, _), (9, _)] rfl ?_
  intro k lk zk
  refine rn ?_
  refine aw_cond rfl (fun hc11 => ?_) (fun hc11 => ?_)
  · have hk := ltMap hc11
    have rk := atRow (f := ordR) hk
    refine rn ?_
    refine aops_e rfl (oe_alloc rfl fun b6 => ?_)
    refine rn ?_
    refine aw_cond rfl (fun hc17 => ?_) (fun hc17 => ?_)
    · refine rn ?_
      refine rq 2 ?_
      exact ⟨rfl, by rw [insR_hit hk hc17 zk]; rfl⟩
    · refine rn ?_
      exact ⟨hk, by rw [all_snoc hk, zk, hc17]; rfl, eA⟩
  · have qk := geMap hc11 lk
    rw [qk, List.take_length] at zk
    refine rn ?_
    refine qv rfl rfl (qv_call rfl rfl (pcall (refWriters h x la) (Sbs.refl _))) ?_
    refine rn ?_
    refine rq 1 ?_
    exact ⟨rfl, by rw [insR_no zk]; rfl⟩
theorem refNext16 (h : Hist) (la : Lim 1000000 h) (x n : Int) : ACall Tryz.prog 31 [.agg (histC h), iv x, iv n] [] (fun r h' => h' = [] ∧ r = .tup [iv ((nextR h x n).getD 0), bv (nextR h x n).isSome]) := by
  refine acall_of_aw Tryz.func31 rfl rfl rfl ?_
  refine rn ?_
  refine aops_e rfl (oe_box rfl rfl rfl fun b3 => ?_)
  refine rn ?_
  refine qv rfl rfl (qv_call rfl rfl (pcall (refInst16 h la x) (Sbs.refl _))) ?_
  refine rn ?_
  refine asplit (fun hg2_2 => ?_) (fun hg2_2 => ?_)
  · refine rn ?_
    refine aw_ct rfl ?_
    have hn : nextR h x n = none := by first | exact nr_0 hg2_2 | exact nr_1 hc19
    refine rn ?_
    refine rq 1 ?_
    exact ⟨rfl, by rw [hn]; rfl⟩
  · refine rn ?_
    refine aw_cond rfl (fun hc19 => ?_) (fun hc19 => ?_)
    · have hn : nextR h x n = none := by first | exact nr_0 hg2_2 | exact nr_1 hc19
      refine rn ?_
      refine rq 1 ?_
      exact ⟨rfl, by rw [hn]; rfl⟩
    · obtain ⟨a, h0, ha, hn⟩ := nr_y hg2_2 hc19
      refine aw_skip ?_
      refine thn_n ?_
      refine aw_seq (aw_region ?_)
      refine q1 ?_
      refine q1 ?_
      refine qq rfl rfl (qr_index_int rfl rfl h0 ha) ?_
      refine rn ?_
      refine rq 1 ?_
      exact ⟨rfl, by rw [hn]; rfl⟩
theorem refRank16 (h : Hist) (la : Lim 1000000 h) (x : Int) (v : Ver) : ACall Tryz.prog 34 [.agg (histC h), iv x, .agg (verR v)] [] (fun r h' => h' = [] ∧ r = .tup [iv (rankR h x v).1, bv (rankR h x v).2]) := by
  refine acall_of_aw Tryz.func34 rfl rfl rfl ?_
  have be := la.evs
  have bi := insR_le la x
  refine rn ?_
  refine aops_e rfl (oe_box rfl rfl rfl fun b3 => ?_)
  refine aops_e rfl (oe_box rfl rfl rfl fun b5 => ?_)
  refine q1 ?_
  refine q1 ?_
  refine aops_nil (thn_n ?_)
  refine aw_seq ?_
  refine aw_seq (aw_region ?_)
  refine q1 ?_
  refine qq rfl rfl (qr_build (out := [iv 0, iv 0]) rfl (by rfl)) ?_
  refine rn ?_
  refine aw_cond rfl (fun hc15 => ?_) (fun hc15 => ?_)
  · have hv : v = ⟨0, 0⟩ := eq_of_beq (by rw [← ver_list]; exact hc15)
    refine rn ?_
    refine rq 2 ?_
    exact ⟨rfl, by rw [rankR, if_pos hv]; rfl⟩
  · have hv : v ≠ ⟨0, 0⟩ := beq_eq_false_iff_ne.1 (by rw [← ver_list]; exact hc15)
    refine rn ?_
    refine qv rfl rfl (qv_call rfl rfl (pcall (refInst16 h la x) (Sbs.refl _))) ?_
    refine rn ?_
    refine aw_rng ((insR h x).length) (fun k : Nat => (((insR h x).take k).all fun t => !rkQ h x v t) = true) (fun k => [(20, iv k)]) [(1, _), (3, _), (5, _), (18, _), (19, _)] rfl ?_
    intro k lk zk
    refine rn ?_
    refine aw_cond rfl (fun hc21 => ?_) (fun hc21 => ?_)
    · have hk := ltMap hc21
      have rk := atRow (f := intR) hk
      refine rn ?_
      refine qv rfl rfl (qv_call rfl rfl (pcall (refFinal16 h la.evs (insR h x)[k] x) (Sbs.refl _))) ?_
      refine rn ?_
      refine aops_e rfl (oe_alloc rfl fun b10 => ?_)
      refine rn ?_
      refine aw_cond rfl (fun hc35 => ?_) (fun hc35 => ?_)
      · have hq : (verO (finW h.evs (insR h x)[k] x) == v) = true := by rw [← ver_list]; exact hc35
        refine aw_seq (aw_region ?_)
        refine q1 ?_
        refine qq rfl rfl (qr_ari rfl rfl rfl (by omega)) ?_
        refine rn ?_
        refine rq 3 ?_
        exact ⟨rfl, by rw [rr_hit hv hk hq zk]; rfl⟩
      · have hq : (verO (finW h.evs (insR h x)[k] x) == v) = false := by rw [← ver_list]; exact hc35
        refine rn ?_
        exact ⟨hk, by rw [all_snoc hk, zk, rkQ, hq]; rfl, eA⟩
    · have qk := geMap hc21 lk
      rw [qk, List.take_length] at zk
      refine rn ?_
      refine rq 2 ?_
      exact ⟨rfl, by rw [rr_no hv zk]; rfl⟩
end Go.Proofs
/- The walks of the index's Rank, Next. Conditions: none. -/
set_option linter.unusedVariables false
set_option linter.unusedSimpArgs false
set_option maxRecDepth 10000
namespace Go.Proofs
open Go Go.Ab
attribute [local irreducible] QR QV OE aops aw dsoup dsoupM dalloc dallocM thn inBlk jsoup jch lsoup
open Go.H
theorem ins_len {h : Hist} {n many x : Int} (he : askE h n many = 0) (h0 : 0 ≤ x) (h1 : x < h.os.length) : (insP h x).length ≤ 4611686018427387904 := by
  obtain ⟨_, e, _⟩ := ins_writers (ask_0 he).1 h0 h1
  rw [e, writers_may (sound_may (ask_0 he).1).1]; exact Nat.le_trans (writersR_le _ _) (Nat.le_trans (ask_lim he).ts (by decide))
theorem fidx_in {α : Type} (p : α → Bool) : ∀ (l : List α) (i : Nat), -1 ≤ fidx p i l ∧ fidx p i l < (i + l.length : Nat) + 1
  | [], i => by simp only [fidx]; omega
  | a :: r, i => by
    have := fidx_in p r (i + 1)
    simp only [fidx, List.length_cons]
    split
    · omega
    · omega
theorem next_a {h : Hist} {x n : Int} (he : (askE h x h.os.length != 0) = true) : nextI h x n = none := by rw [nextI, if_neg (by simpa using he)]
theorem next_b {h : Hist} {x n : Int} (hn : decide (n < 0) = true) : nextI h x n = none := by
  have := of_decide_eq_true hn
  rw [nextI]; split
  · rw [if_neg (by omega)]
  · rfl
theorem next_c {h : Hist} {x n : Int} (he : (askE h x h.os.length != 0) = false) (hn : decide (n ≥ (((onE (askE h x h.os.length) (insP h x)).map intR).length : Int)) = true) : nextI h x n = none := by
  have hn := of_decide_eq_true hn
  have he : askE h x h.os.length = 0 := by simpa using he
  rw [List.length_map, onE, if_pos he] at hn
  rw [nextI, if_pos he]; split
  · rw [List.getElem?_eq_none (by omega)]
  · rfl
theorem next_y {h : Hist} {x n : Int} (he : (askE h x h.os.length != 0) = false) (h2 : decide (n < 0) = false) (hn : decide (n ≥ (((onE (askE h x h.os.length) (insP h x)).map intR).length : Int)) = false) : ∃ a, 0 ≤ n ∧ ((onE (askE h x h.os.length) (insP h x)).map intR)[n.toNat]? = some (intR a) ∧ nextI h x n = some a := by
  have hn := of_decide_eq_false hn
  have h2 := of_decide_eq_false h2
  have he : askE h x h.os.length = 0 := by simpa using he
  rw [List.length_map, onE, if_pos he] at hn
  refine ⟨(insP h x)[n.toNat]'(by omega), by omega, ?_, ?_⟩
  · rw [onE, if_pos he, List.getElem?_map, List.getElem?_eq_getElem (by omega)]; rfl
  · rw [nextI, if_pos he, if_pos (by omega), List.getElem?_eq_getElem (by omega)]
theorem ixRank1 (h : Hist) (la : h.evs.length ≤ 1000000) (x t : Int) (v : Ver) (b3 b4 b5 : Nat) : ACall Tryz.prog 87 [iv t, .v (.pointer (some ⟨b3, 0, none⟩)), .v (.pointer (some ⟨b4, 0, none⟩)), .v (.pointer (some ⟨b5, 0, none⟩))] (.box b3 28 (histC h) :: .box b4 3 [iv x] :: .box b5 55 (verR v) :: []) (fun r h' => h' = .box b3 28 (histC h) :: .box b4 3 [iv x] :: .box b5 55 (verR v) :: [] ∧ r = bv (verO (finW h.evs t x) == v)) := by
  refine acall_of_aw Tryz.func87 rfl rfl rfl ?_
  refine rn ?_
  refine qv rfl rfl (qv_call rfl rfl (FCall.of_fun (ixFin h la t x _))) ?_
  refine rn ?_
  refine aops_e rfl (oe_alloc rfl fun b6 => ?_)
  refine rn ?_
  refine rq 1 ?_
  exact ⟨rfl, by rw [← finD_v, ← ver_list]; rfl⟩
theorem ixRank (h : Hist) (la : Lim 4611686018427387904 h) (x : Int) (v : Ver) : ACall Tryz.prog 35 [.agg (histC h), iv x, .agg (verR v)] (.glob 1 112 limitsC :: .glob 2 234 firstC :: .glob 3 237 acceptC :: .glob 0 102 asksC :: []) (fun r h' => h' = .glob 1 112 limitsC :: .glob 2 234 firstC :: .glob 3 237 acceptC :: .glob 0 102 asksC :: [] ∧ r = .tup [iv (rankA h x v).1, bv (rankA h x v).2]) := by
  refine acall_of_aw Tryz.func35 rfl rfl rfl ?_
  refine rn ?_
  refine aops_e rfl (oe_box rfl rfl rfl fun b3 => ?_)
  refine aops_e rfl (oe_box rfl rfl rfl fun b4 => ?_)
  refine aops_e rfl (oe_box rfl rfl rfl fun b5 => ?_)
  refine rn ?_
  refine qv rfl rfl (qv_call rfl rfl (FCall.qt (FCall.of_fun (ixInst h la x)) ((pt3 _ _ _ _ _).trans (.cons _ ((pt3 _ _ _ _ _).trans (.cons _ ((pt3 _ _ _ _ _).trans (.cons _ (pt3 _ _ _ _ _))))))))) ?_
  refine rn ?_
  refine aw_cond rfl (fun hc17 => ?_) (fun hc17 => ?_)
  · have hc : askE h x h.os.length ≠ 0 := by simpa using hc17
    refine rn ?_
    refine rq 3 ?_
    exact ⟨rfl, by rw [rankA, if_neg hc]; rfl⟩
  · have hc : askE h x h.os.length = 0 := by simpa using hc17
    refine aw_seq (aw_region ?_)
    refine q1 ?_
    refine qq rfl rfl (qr_build (out := [iv 0, iv 0]) rfl (by rfl)) ?_
    refine rn ?_
    refine aw_cond rfl (fun hc20 => ?_) (fun hc20 => ?_)
    · have hv : v = ⟨0, 0⟩ := eq_of_beq (by rw [← ver_list]; exact hc20)
      refine rn ?_
      refine rq 3 ?_
      exact ⟨rfl, by rw [rankA, if_pos hc, if_pos hv]; rfl⟩
    · have hv : v ≠ ⟨0, 0⟩ := beq_eq_false_iff_ne.1 (by rw [← ver_list]; exact hc20)
      have hn := ask_0 hc
      refine aw_skip ?_
      refine rn0 ?_
      refine aw_seq ?_
      rw [onE, if_pos hc]
      refine rn ?_
      refine qv rfl rfl (qv_call rfl rfl (FCall.of_fun (indexFuncInt (insP h x) _ (fun t => verO (finW h.evs t x) == v) _ (fun t _ => FCall.qt (FCall.of_acall (fs := []) (cs := [.v (.pointer (some ⟨b3, 0, none⟩)), .v (.pointer (some ⟨b4, 0, none⟩)), .v (.pointer (some ⟨b5, 0, none⟩))]) (ixRank1 h (ask_evs hc) x t v b3 b4 b5)) ((pt2 _ _ _ _).trans (.cons _ (pt1 _ _ _)))) (ins_len hc hn.2.1 hn.2.2)))) ?_
      refine q1 ?_
      refine aops_nil (thn_n ?_)
      refine aw_seq (aw_region ?_)
      refine q1 ?_
      refine qq rfl rfl (qr_ari rfl rfl rfl (by have := fidx_in (fun t => verO (finW h.evs t x) == v) (insP h x) 0; have := ins_len hc hn.2.1 hn.2.2; omega)) ?_
      refine rn ?_
      refine rq 3 ?_
      exact ⟨rfl, by rw [rankA, if_pos hc, if_neg hv]; rfl⟩
theorem ixNext (h : Hist) (la : Lim 4611686018427387904 h) (x n : Int) : ACall Tryz.prog 33 [.agg (histC h), iv x, iv n] (.glob 1 112 limitsC :: .glob 2 234 firstC :: .glob 3 237 acceptC :: .glob 0 102 asksC :: []) (fun r h' => h' = .glob 1 112 limitsC :: .glob 2 234 firstC :: .glob 3 237 acceptC :: .glob 0 102 asksC :: [] ∧ r = .tup [iv ((nextI h x n).getD 0), bv (nextI h x n).isSome]) := by
  refine acall_of_aw Tryz.func33 rfl rfl rfl ?_
  refine rn ?_
  refine aops_e rfl (oe_box rfl rfl rfl fun b3 => ?_)
  refine rn ?_
  refine qv rfl rfl (qv_call rfl rfl (FCall.qt (FCall.of_fun (ixInst h la x)) ((pt1 _ _ _).trans (.cons _ ((pt1 _ _ _).trans (.cons _ ((pt1 _ _ _).trans (.cons _ (pt1 _ _ _))))))))) ?_
  refine rn ?_
  refine asplit (fun hg2_2 => ?_) (fun hg2_2 => ?_)
  · refine rn ?_
    refine aw_ct rfl ?_
    have hn : nextI h x n = none := by first | exact next_a hg2_2 | exact next_b hg2_6 | exact next_c hg2_2 hc27
    refine rn ?_
    refine rq 1 ?_
    exact ⟨rfl, by rw [hn]; rfl⟩
  · refine rn ?_
    refine asplit (fun hg2_6 => ?_) (fun hg2_6 => ?_)
    · refine rn ?_
      refine aw_ct rfl ?_
      have hn : nextI h x n = none := by first | exact next_a hg2_2 | exact next_b hg2_6 | exact next_c hg2_2 hc27
      refine rn ?_
      refine rq 1 ?_
      exact ⟨rfl, by rw [hn]; rfl⟩
    · refine rn ?_
      refine aw_cond rfl (fun hc27 => ?_) (fun hc27 => ?_)
      · have hn : nextI h x n = none := by first | exact next_a hg2_2 | exact next_b hg2_6 | exact next_c hg2_2 hc27
        refine rn ?_
        refine rq 1 ?_
        exact ⟨rfl, by rw [hn]; rfl⟩
      · obtain ⟨a, h0, ha, hn⟩ := next_y hg2_2 hg2_6 hc27
        refine aw_skip ?_
        refine thn_n ?_
        refine aw_seq (aw_region ?_)
        refine q1 ?_
        refine q1 ?_
        refine qq rfl rfl (qr_index_int rfl rfl h0 ha) ?_
        refine rn ?_
        refine rq 1 ?_
        exact ⟨rfl, by rw [hn]; rfl⟩
end Go.Proofs
/- The walk of history.own. Conditions: none. -/
set_option linter.unusedVariables false
set_option linter.unusedSimpArgs false
set_option maxRecDepth 10000
namespace Go.Proofs
open Go Go.Ab
attribute [local irreducible] QR QV OE aops aw dsoup dsoupM dalloc dallocM thn inBlk
open Go.H
def nmR (n : NV) (h : Hist) (L : List Res) : List Res := .row n.vT.v 1 9 (h.ts.map strR) :: .row n.vS.v 1 9 (h.ss.map strR) :: .row n.vO.v 1 9 (h.os.map strR) :: .row n.vP.v 1 9 (h.ps.map strR) :: L
def ohR (o : OH) : List Res := .row o.vE.v 9 72 (o.evs.map evRw) :: .row o.vR.v 2 96 (o.ords.map ordRw) :: .row o.vM.v 4 87 (o.mats.map matRw) :: .row o.vW.v 2 100 (o.wants.map wanR) :: (scR 76 o.evs ++ (otR 3 o.ords ++ mtR 3 o.mats))
end Go.Proofs
/- The walk of law 16's own. Conditions: none. -/
set_option linter.unusedVariables false
set_option linter.unusedSimpArgs false
set_option maxRecDepth 10000
namespace Go.Proofs
open Go Go.Ab
attribute [local irreducible] QR QV OE aops aw dsoup dsoupM dalloc dallocM thn inBlk jsoup jch lsoup
open Go.H
theorem own_take (l : List Ev) : (l.map evR).take (min (l.map evR).length 80) = (l.take 80).map evR := by
  rw [List.length_map, ← List.map_take, Nat.min_comm, ← List.take_take, List.take_length]
set_option maxHeartbeats 4000000 in
theorem own16R (h : Hist) (la : Big h) : ACall Tryz.prog 27 [.agg (histC h)] [] (fun r h' => ∃ (n : NV) (o : OH), o.hist = ownX h ∧ h' = nmR n (ownX h) (ohR o) ∧ r = .agg (n.cells ++ o.cells)) := by
  refine acall_of_aw Tryz.func27 rfl rfl rfl ?_
  refine rn ?_
  refine aops_e rfl (oe_box rfl rfl rfl fun b1 => ?_)
  refine aops_e rfl (oe_alloc rfl fun b2 => ?_)
  refine aops_nil (thn_n ?_)
  refine aw_seq (aw_region ?_)
  refine q1 ?_
  refine q1 ?_
  refine q1 ?_
  refine q1 ?_
  refine q1 ?_
  refine qq rfl rfl (qr_minN (h.evs.map evR).length 80 rfl rfl) ?_
  refine qq rfl rfl (qr_slice_hE (rows' := (h.evs.take 80).map evR) rfl rfl (Nat.min_le_left _ _) (own_take h.evs)) ?_
  refine aops_e rfl (oe_call rfl rfl (FCall.fr2 (FCall.rowS (FCall.of_fun (cloneRowEv ((h.evs.take 80).map evR) (by rw [List.length_map, List.length_take]; omega) (one_ev _))))) rfl ?_)
  rintro _ _ ⟨_, rfl, s13, rfl, rfl⟩
  refine rn ?_
  refine aw_loop' (fun x : Nat × List (SV × Ev) => x.1 ≤ (h.evs.take 80).length ∧ x.2.map (·.2) = (h.evs.take 80).take x.1) (fun x => ⟨[(18, iv x.1), (17, iv ((h.evs.take 80).map evR).length), (1, .v (.pointer (some ⟨b1, 0, none⟩))), (2, .v (.pointer (some ⟨b2, 0, none⟩)))], .box b2 28 histZ :: .box b1 28 [strsA h.ts, strsA h.ss, strsA h.os, strsA h.ps, .v s13.v, ordsA h.ords, matsA h.mats, wansA h.wants] :: .row s13.v 9 72 (x.2.map evRw ++ ((h.evs.take 80).drop x.1).map evR) :: scR 76 x.2, []⟩) (fun x => (h.evs.take 80).length - x.1) (0, []) ⟨by omega, rfl⟩
    (ent_sub (.cons _ _ _ rfl (.cons _ _ _ rfl (.cons _ _ _ rfl (.cons _ _ _ rfl (.nil)))))) ?_
  rintro ⟨k, x⟩ ⟨hk, hx⟩
  simp only at hk hx
  have hxl := mid_len2 hx hk
  refine rn ?_
  refine aw_cond rfl (fun hc19 => ?_) (fun hc19 => ?_)
  · have hk2 : k < (h.evs.take 80).length := by have q := of_decide_eq_true hc19; rw [List.length_map] at q; omega
    obtain ⟨e, he⟩ : ∃ e, e = (h.evs.take 80)[k] := ⟨_, rfl⟩
    have hd := List.drop_eq_getElem_cons hk2
    rw [← he] at hd
    have hrow : (x.map evRw ++ ((h.evs.take 80).drop k).map evR)[k]? = some (evR e) := mid_get hxl hd
    have hmem : e ∈ (h.evs.take 80) := by rw [he]; exact List.getElem_mem hk2
    have hle := (by rw [List.length_take]; omega : (h.evs.take 80).length ≤ 80)
    have hk3 : k < (x.map evRw ++ ((h.evs.take 80).drop k).map evR).length := by rw [mid_len hxl hk]; exact hk2
    refine rn ?_
    refine aw_drawM 10 rfl ?_
    refine mq rfl rfl qrA ?_
    refine mq rfl rfl qrA ?_
    refine mq rfl rfl qrA ?_
    refine mq rfl rfl qrA ?_
    refine mq rfl rfl qrA ?_
    refine mq rfl rfl qrA ?_
    refine mq rfl rfl (qr_index_row rfl rfl hk3) ?_
    refine mq rfl rfl qrA ?_
    refine mq rfl rfl (qr_load_rp_one rfl hrow rfl) ?_
    refine mcall (mrow 3 76 (e.scan.map seenR)) rfl rfl rfl (mk_row (FCall.of_fun (cloneRowSeenB _ (by rw [List.length_map]; have := (la.scans e (List.mem_of_mem_take hmem)); omega) (one_seen _)))) ?_
    refine mnil ⟨.refl _, ?_⟩
    refine rn ?_
    refine mal_row fun s30 => ?_
    refine rn2 ?_
    refine qq rfl rfl (qr_index_row rfl rfl hk3) ?_
    refine rn ?_
    refine aops_e rfl (oe_store_rp rfl rfl rfl hrow rfl (Nat.le_of_ble_eq_true rfl) ?_)
    refine rn ?_
    have hset := mid_set (f := evRw) (g := evR) (a := (s30, e)) (r := (evR e).take 8 ++ [.v s30.v] ++ (evR e).drop (8 + 1)) hxl hd rfl
    have htl : scR 76 (x ++ [(s30, e)]) = scR 76 x ++ [.row s30.v 3 76 (e.scan.map seenR)] := by simp [scR]
    exact ⟨(k + 1, x ++ [(s30, e)]), ⟨by omega, mid_snoc hx hk2 he⟩, by simp only [htl]; exact ent_trans (ent_perm (perm_swap [_] _)) (by rw [← hset]; exact (ent_sub (.cons _ _ _ rfl (.cons _ _ _ rfl (.cons _ _ _ rfl (.cons _ _ _ rfl (.nil))))))), by simp only; omega⟩
  · obtain rfl : k = (h.evs.take 80).length := by
      have q := of_decide_eq_false hc19
      rw [List.length_map] at q
      omega
    rw [List.take_length] at hx
    obtain ⟨E, hE⟩ : ∃ E, E = x := ⟨_, rfl⟩
    rw [← hE] at hx ⊢
    have hxE := hx
    rw [List.drop_length, List.map_nil, List.append_nil]
    refine aw_exit ?_
    refine rn0 ?_
    refine aw_cutE (fun _ : SV × SV × SV => True) (fun x => ⟨[(1, .v (.pointer (some ⟨b1, 0, none⟩))), (2, .v (.pointer (some ⟨b2, 0, none⟩)))], .box b2 28 histZ :: .box b1 28 [strsA h.ts, strsA h.ss, strsA h.os, strsA h.ps, .v s13.v, .v x.1.v, .v x.2.1.v, .v x.2.2.v] :: .row s13.v 9 72 (E.map evRw) :: .row x.1.v 2 96 (h.ords.map ordR) :: .row x.2.1.v 4 87 (h.mats.map matR) :: .row x.2.2.v 2 100 (h.wants.map wanR) :: scR 76 E, []⟩) ?_ ?_
    · refine aw_drawM 10 rfl ?_
      refine rn ?_
      refine mcall (mrow 2 96 (h.ords.map ordR)) rfl rfl rfl (mk_row (FCall.of_fun (cloneRowOrdB _ (by rw [List.length_map]; have := la.ords; omega) (one_ord _)))) ?_
      refine rn ?_
      refine mcall (mrow 4 87 (h.mats.map matR)) rfl rfl rfl (mk_row (FCall.of_fun (cloneRowMatB _ (by rw [List.length_map]; have := la.mats; omega) (one_mat _)))) ?_
      refine rn ?_
      refine mcall (mrow 2 100 (h.wants.map wanR)) rfl rfl rfl (mk_row (FCall.of_fun (cloneRowWanB _ (by rw [List.length_map]; have := la.wants; omega) (one_wan _)))) ?_
      refine rn ?_
      refine mnil ⟨.refl _, ?_⟩
      refine rn ?_
      refine mal_row fun s36 => ?_
      refine rn ?_
      refine mal_row fun s39 => ?_
      refine rn ?_
      refine mal_row fun s42 => ?_
      refine rn ?_
      exact ⟨(s36, s39, s42), trivial, ent_trans (ent_perm ((pt3 _ _ _ _ _).trans (.cons _ ((pt3 _ _ _ _ _).trans (.cons _ ((pt3 _ _ _ _ _).trans (.cons _ ((pt2 _ _ _ _).trans (.cons _ (pt1 _ _ _)))))))))) (ent_sub (.cons _ _ _ rfl (.cons _ _ _ rfl (.nil))))⟩
    · rintro ⟨s36, s39, s42⟩ _
      refine rn ?_
      refine aw_loop' (fun x : Nat × List (SV × H.Ord) => x.1 ≤ h.ords.length ∧ x.2.map (·.2) = h.ords.take x.1) (fun x => ⟨[(49, iv x.1), (48, iv (h.ords.map ordR).length), (1, .v (.pointer (some ⟨b1, 0, none⟩))), (2, .v (.pointer (some ⟨b2, 0, none⟩)))], .box b2 28 histZ :: .box b1 28 [strsA h.ts, strsA h.ss, strsA h.os, strsA h.ps, .v s13.v, .v s36.v, .v s39.v, .v s42.v] :: .row s13.v 9 72 (E.map evRw) :: .row s36.v 2 96 (x.2.map ordRw ++ (h.ords.drop x.1).map ordR) :: .row s39.v 4 87 (h.mats.map matR) :: .row s42.v 2 100 (h.wants.map wanR) :: (scR 76 E ++ otR 3 x.2), []⟩) (fun x => h.ords.length - x.1) (0, []) ⟨by omega, rfl⟩
        (by simp only [otR, List.map_nil, List.append_nil]; exact (ent_sub (.cons _ _ _ rfl (.cons _ _ _ rfl (.cons _ _ _ rfl (.cons _ _ _ rfl (.nil))))))) ?_
      rintro ⟨k, x⟩ ⟨hk, hx⟩
      simp only at hk hx
      have hxl := mid_len2 hx hk
      refine rn ?_
      refine aw_cond rfl (fun hc50 => ?_) (fun hc50 => ?_)
      · have hk2 : k < h.ords.length := by have q := of_decide_eq_true hc50; rw [List.length_map] at q; omega
        obtain ⟨e, he⟩ : ∃ e, e = h.ords[k] := ⟨_, rfl⟩
        have hd := List.drop_eq_getElem_cons hk2
        rw [← he] at hd
        have hrow : (x.map ordRw ++ (h.ords.drop k).map ordR)[k]? = some (ordR e) := mid_get hxl hd
        have hmem : e ∈ h.ords := by rw [he]; exact List.getElem_mem hk2
        have hle := la.lim.ords
        have hk3 : k < (x.map ordRw ++ (h.ords.drop k).map ordR).length := by rw [mid_len hxl hk]; exact hk2
        refine rn ?_
        refine aw_drawM 10 rfl ?_
        refine mq rfl rfl qrA ?_
        refine mq rfl rfl qrA ?_
        refine mq rfl rfl qrA ?_
        refine mq rfl rfl qrA ?_
        refine mq rfl rfl qrA ?_
        refine mq rfl rfl qrA ?_
        refine mq rfl rfl (qr_index_row rfl rfl hk3) ?_
        refine mq rfl rfl qrA ?_
        refine mq rfl rfl (qr_load_rp_one rfl hrow rfl) ?_
        refine mcall (mrow 1 3 (e.ts.map intR)) rfl rfl rfl (mk_row (FCall.of_fun (cloneRowIntB _ (by rw [List.length_map]; have := (la.ordts e hmem); omega) (one_int _)))) ?_
        refine mnil ⟨.refl _, ?_⟩
        refine rn ?_
        refine mal_row fun s61 => ?_
        refine rn2 ?_
        refine qq rfl rfl (qr_index_row rfl rfl hk3) ?_
        refine rn ?_
        refine aops_e rfl (oe_store_rp rfl rfl rfl hrow rfl (Nat.le_of_ble_eq_true rfl) ?_)
        refine rn ?_
        have hset := mid_set (f := ordRw) (g := ordR) (a := (s61, e)) (r := (ordR e).take 1 ++ [.v s61.v] ++ (ordR e).drop (1 + 1)) hxl hd rfl
        have htl : ∀ L : List Res, L ++ otR 3 (x ++ [(s61, e)]) = (L ++ otR 3 x) ++ [.row s61.v 1 3 (e.ts.map intR)] := by simp [otR]
        exact ⟨(k + 1, x ++ [(s61, e)]), ⟨by omega, mid_snoc hx hk2 he⟩, by simp only [htl]; exact ent_trans (ent_perm (perm_swap [_] _)) (by rw [← hset]; exact (ent_sub (.cons _ _ _ rfl (.cons _ _ _ rfl (.cons _ _ _ rfl (.cons _ _ _ rfl (.nil))))))), by simp only; omega⟩
      · obtain rfl : k = h.ords.length := by
          have q := of_decide_eq_false hc50
          rw [List.length_map] at q
          omega
        rw [List.take_length] at hx
        obtain ⟨O, hO⟩ : ∃ O, O = x := ⟨_, rfl⟩
        rw [← hO] at hx ⊢
        have hxO := hx
        rw [List.drop_length, List.map_nil, List.append_nil]
        refine rn ?_
        refine aw_loop' (fun x : Nat × List (SV × Mat) => x.1 ≤ h.mats.length ∧ x.2.map (·.2) = h.mats.take x.1) (fun x => ⟨[(68, iv x.1), (67, iv (h.mats.map matR).length), (1, .v (.pointer (some ⟨b1, 0, none⟩))), (2, .v (.pointer (some ⟨b2, 0, none⟩)))], .box b2 28 histZ :: .box b1 28 [strsA h.ts, strsA h.ss, strsA h.os, strsA h.ps, .v s13.v, .v s36.v, .v s39.v, .v s42.v] :: .row s13.v 9 72 (E.map evRw) :: .row s36.v 2 96 (O.map ordRw) :: .row s39.v 4 87 (x.2.map matRw ++ (h.mats.drop x.1).map matR) :: .row s42.v 2 100 (h.wants.map wanR) :: (scR 76 E ++ (otR 3 O ++ mtR 3 x.2)), []⟩) (fun x => h.mats.length - x.1) (0, []) ⟨by omega, rfl⟩
          (by simp only [mtR, List.map_nil, List.append_nil]; exact (ent_sub (.cons _ _ _ rfl (.cons _ _ _ rfl (.cons _ _ _ rfl (.cons _ _ _ rfl (.nil))))))) ?_
        rintro ⟨k, x⟩ ⟨hk, hx⟩
        simp only at hk hx
        have hxl := mid_len2 hx hk
        refine rn ?_
        refine aw_cond rfl (fun hc69 => ?_) (fun hc69 => ?_)
        · have hk2 : k < h.mats.length := by have q := of_decide_eq_true hc69; rw [List.length_map] at q; omega
          obtain ⟨e, he⟩ : ∃ e, e = h.mats[k] := ⟨_, rfl⟩
          have hd := List.drop_eq_getElem_cons hk2
          rw [← he] at hd
          have hrow : (x.map matRw ++ (h.mats.drop k).map matR)[k]? = some (matR e) := mid_get hxl hd
          have hmem : e ∈ h.mats := by rw [he]; exact List.getElem_mem hk2
          have hle := la.lim.mats
          have hk3 : k < (x.map matRw ++ (h.mats.drop k).map matR).length := by rw [mid_len hxl hk]; exact hk2
          refine rn ?_
          refine aw_drawM 10 rfl ?_
          refine mq rfl rfl qrA ?_
          refine mq rfl rfl qrA ?_
          refine mq rfl rfl qrA ?_
          refine mq rfl rfl qrA ?_
          refine mq rfl rfl qrA ?_
          refine mq rfl rfl qrA ?_
          refine mq rfl rfl (qr_index_row rfl rfl hk3) ?_
          refine mq rfl rfl qrA ?_
          refine mq rfl rfl (qr_load_rp_one rfl hrow rfl) ?_
          refine mcall (mrow 1 3 (e.ts.map intR)) rfl rfl rfl (mk_row (FCall.of_fun (cloneRowIntB _ (by rw [List.length_map]; have := (la.matts e hmem); omega) (one_int _)))) ?_
          refine mnil ⟨.refl _, ?_⟩
          refine rn ?_
          refine mal_row fun s80 => ?_
          refine rn2 ?_
          refine qq rfl rfl (qr_index_row rfl rfl hk3) ?_
          refine rn ?_
          refine aops_e rfl (oe_store_rp rfl rfl rfl hrow rfl (Nat.le_of_ble_eq_true rfl) ?_)
          refine rn ?_
          have hset := mid_set (f := matRw) (g := matR) (a := (s80, e)) (r := (matR e).take 3 ++ [.v s80.v] ++ (matR e).drop (3 + 1)) hxl hd rfl
          have htl : ∀ L L2 : List Res, L ++ (L2 ++ mtR 3 (x ++ [(s80, e)])) = (L ++ (L2 ++ mtR 3 x)) ++ [.row s80.v 1 3 (e.ts.map intR)] := by simp [mtR]
          exact ⟨(k + 1, x ++ [(s80, e)]), ⟨by omega, mid_snoc hx hk2 he⟩, by simp only [htl]; exact ent_trans (ent_perm (perm_swap [_] _)) (by rw [← hset]; exact (ent_sub (.cons _ _ _ rfl (.cons _ _ _ rfl (.cons _ _ _ rfl (.cons _ _ _ rfl (.nil))))))), by simp only; omega⟩
        · obtain rfl : k = h.mats.length := by
            have q := of_decide_eq_false hc69
            rw [List.length_map] at q
            omega
          rw [List.take_length] at hx
          obtain ⟨M, hM⟩ : ∃ M, M = x := ⟨_, rfl⟩
          rw [← hM] at hx ⊢
          have hxM := hx
          rw [List.drop_length, List.map_nil, List.append_nil]
          refine rn ?_
          refine aw_drawM 13 rfl ?_
          refine rn ?_
          refine mcall (mrow 1 9 (h.ts.map strR)) rfl rfl rfl (mk_row (FCall.of_fun (cloneRowStrB _ (by rw [List.length_map]; have := la.ts; omega) (one_str _)))) ?_
          refine rn ?_
          refine mcall (mrow 1 9 (h.ss.map strR)) rfl rfl rfl (mk_row (FCall.of_fun (cloneRowStrB _ (by rw [List.length_map]; have := la.ss; omega) (one_str _)))) ?_
          refine rn ?_
          refine mcall (mrow 1 9 (h.os.map strR)) rfl rfl rfl (mk_row (FCall.of_fun (cloneRowStrB _ (by rw [List.length_map]; have := la.os; omega) (one_str _)))) ?_
          refine rn ?_
          refine mcall (mrow 1 9 (h.ps.map strR)) rfl rfl rfl (mk_row (FCall.of_fun (cloneRowStrB _ (by rw [List.length_map]; have := la.ps; omega) (one_str _)))) ?_
          refine rn ?_
          refine mnil ⟨.refl _, ?_⟩
          refine rn ?_
          refine mal_row fun s86 => ?_
          refine rn ?_
          refine mal_row fun s89 => ?_
          refine rn ?_
          refine mal_row fun s92 => ?_
          refine rn ?_
          refine mal_row fun s95 => ?_
          refine rn ?_
          exact retq (.cons _ _ _ _ (.agg _ _ _ _ _ _ _ rfl inferInstance inferInstance inferInstance rfl) .nil) (.trans (.perm ((pt4 _ _ _ _ _ _).trans (.cons _ ((pt4 _ _ _ _ _ _).trans (.cons _ ((pt3 _ _ _ _ _).trans (.cons _ ((pt2 _ _ _ _).trans (.cons _ (pt1 _ _ _))))))))) _) (.drop [_, _] _ _)) ⟨⟨s86, s89, s92, s95⟩, ⟨s13, s36, s39, s42, h.ts, h.ss, h.os, h.ps, E, O, M, h.wants⟩, by simp only [OH.hist, hxE, hxO, hxM]; rfl, rfl, rfl⟩
theorem own16 (h : Hist) (la : Big h) : ACall Tryz.prog 27 [.agg (histC h)] [] (fun r h' => h' = [] ∧ r = .agg (histC (ownX h))) :=
  (own16R h la).ventR (by
    rintro _ _ ⟨n, o, ho, rfl, rfl⟩
    refine ⟨_, _, hist_freezeA [] n o 9 72 96 87 100 76 3 _ ?_ ?_ ?_ ?_ ?_ ?_ ?_ ?_ ?_ ?_ ?_, rfl, by rw [ho]⟩ <;> rw [← ho] <;> simp only [nmR, ohR, OH.hist] <;> first | (simp; done) | (intro r hr; simp [hr]; done))
end Go.Proofs
/- The walk of law 16's wakes. Conditions: none. -/
set_option linter.unusedVariables false
set_option linter.unusedSimpArgs false
set_option maxRecDepth 10000
namespace Go.Proofs
open Go Go.Ab
attribute [local irreducible] QR QV OE aops aw dsoup dsoupM dalloc dallocM thn inBlk jsoup jch lsoup
open Go.H
theorem ixOf (a b c : Int) (v : Ver) : ACall Tryz.prog 132 [iv a, iv b, iv c, .agg (verR v)] [] (fun r h' => h' = [] ∧ r = .agg (evR ⟨a, b, 0, 0, c, v, 0, []⟩)) := by
  refine acall_of_aw Tryz.func132 rfl rfl rfl ?_
  refine rn ?_
  refine aops_e rfl (oe_box rfl rfl rfl fun b7 => ?_)
  refine aops_e rfl (oe_alloc rfl fun b8 => ?_)
  refine aops_nil (thn_n ?_)
  refine aw_seq (aw_region ?_)
  refine q1 ?_
  refine q1 ?_
  refine q1 ?_
  refine q1 ?_
  refine qq rfl rfl (qr_build (out := [iv a, iv b, iv 0, iv 0, iv c, iv v.t, iv v.k, iv 0, .v (.slice none 0 0)]) rfl (by rfl)) ?_
  refine rn ?_
  exact retq (.cons _ _ _ _ (.agg _ _ _ _ _ _ _ rfl inferInstance inferInstance inferInstance rfl) .nil) (.trans (.drop [_, _] _ _) (.le (Sb.aggs (bs := evR ⟨a, b, 0, 0, c, v, 0, []⟩) (by exact ⟨.refl _, .refl _, .refl _, .refl _, .refl _, .refl _, .refl _, .refl _, .nil _ _, trivial⟩)).le)) ⟨rfl, rfl⟩
theorem smallI  : ACall Tryz.prog 79 [] [] (fun r h' => h' = [] ∧ r = .agg (histC ixH)) := by
  refine acall_of_aw Tryz.func79 rfl rfl rfl ?_
  refine rn ?_
  refine aops_e rfl (oe_alloc rfl fun b0 => ?_)
  refine rn ?_
  refine aops_e rfl (oe_alloc rfl fun b1 => ?_)
  refine rn ?_
  refine aw_draw 27 rfl ?_
  refine dv rfl rfl (qv_buildSlice rfl rfl) ?_
  refine dv rfl rfl (qv_buildSlice rfl rfl) ?_
  refine dv rfl rfl (qv_buildSlice rfl rfl) ?_
  refine rn ?_
  refine dv rfl rfl (by exact qv_call rfl rfl (pcall (ixOf 2 0 0 ⟨0, 1⟩) (Sbs.refl _))) ?_
  refine rn ?_
  refine dv rfl rfl (by exact qv_call rfl rfl (pcall (ixOf 2 0 0 ⟨0, 2⟩) (Sbs.refl _))) ?_
  refine rn ?_
  refine dv rfl rfl (by exact qv_call rfl rfl (pcall (ixOf 3 1 0 ⟨0, 0⟩) (Sbs.refl _))) ?_
  refine rn ?_
  refine dv rfl rfl (by exact qv_call rfl rfl (pcall (ixOf 2 1 0 ⟨1, 1⟩) (Sbs.refl _))) ?_
  refine rn ?_
  refine dv rfl rfl (by exact qv_call rfl rfl (pcall (ixOf 2 2 0 ⟨2, 1⟩) (Sbs.refl _))) ?_
  refine rn ?_
  refine dv rfl rfl (qv_buildSlice rfl rfl) ?_
  refine dv rfl rfl (qv_buildSlice rfl rfl) ?_
  refine rn ?_
  refine dv rfl rfl (qv_buildSlice rfl rfl) ?_
  refine rn ?_
  exact retq (.cons _ _ _ _ (.agg _ _ _ _ _ _ _ rfl inferInstance inferInstance inferInstance rfl) .nil) (.trans (.drop [_, _] _ _) (.le (Sb.aggs (bs := histC ixH) (by exact ⟨.unfull, .unfull, .unfull, .nil _ _, (.lists (by simp) ⟨⟨.refl _, .refl _, .refl _, .refl _, .refl _, .refl _, .refl _, .refl _, .nil _ _, trivial⟩, ⟨.refl _, .refl _, .refl _, .refl _, .refl _, .refl _, .refl _, .refl _, .nil _ _, trivial⟩, ⟨.refl _, .refl _, .refl _, .refl _, .refl _, .refl _, .refl _, .refl _, .nil _ _, trivial⟩, (Sbs.refl _), (Sbs.refl _), (Sbs.refl _), (Sbs.refl _), (Sbs.refl _), ⟨.refl _, .refl _, .refl _, .refl _, .refl _, .refl _, .refl _, .refl _, .nil _ _, trivial⟩, ⟨.refl _, .refl _, .refl _, .refl _, .refl _, .refl _, .refl _, .refl _, .nil _ _, trivial⟩, trivial⟩), .lists (by simp) ⟨⟨.refl _, .unfull, trivial⟩, trivial⟩, .nil _ _, .nil _ _, trivial⟩)).le)) ⟨rfl, rfl⟩
theorem limI : Lim 4611686018427387904 ixH := ⟨by decide, by decide, by decide, by decide, by decide, by decide, by decide, by decide, by decide, by decide, by decide⟩
theorem ix_ask : askE ixH 0 ixH.os.length = 0 := ask_y ix_check (by decide)
theorem commA : ACall Tryz.prog 36 [.agg (histC ixH)] (.glob 1 112 limitsC :: .glob 2 234 firstC :: .glob 3 237 acceptC :: .glob 0 102 asksC :: []) (fun r h' => h' = .glob 1 112 limitsC :: .glob 2 234 firstC :: .glob 3 237 acceptC :: .glob 0 102 asksC :: [] ∧ r = .tup [intsA [0, 1], iv 0]) := (ixComm ixH limI).mono fun _ _ q => ⟨q.1, by rw [q.2, ix_check, ix_comm]; rfl⟩
theorem instA : ACall Tryz.prog 41 [.agg (histC ixH), iv 0] (.glob 1 112 limitsC :: .glob 2 234 firstC :: .glob 3 237 acceptC :: .glob 0 102 asksC :: []) (fun r h' => h' = .glob 1 112 limitsC :: .glob 2 234 firstC :: .glob 3 237 acceptC :: .glob 0 102 asksC :: [] ∧ r = .tup [intsA [1, 0], iv 0]) := (ixInst ixH limI 0).mono fun _ _ q => ⟨q.1, by rw [q.2, ix_ask, ix_ins]; rfl⟩
theorem rank2A : ACall Tryz.prog 35 [.agg (histC ixH), iv 0, .agg [iv 0, iv 2]] (.glob 1 112 limitsC :: .glob 2 234 firstC :: .glob 3 237 acceptC :: .glob 0 102 asksC :: []) (fun r h' => h' = .glob 1 112 limitsC :: .glob 2 234 firstC :: .glob 3 237 acceptC :: .glob 0 102 asksC :: [] ∧ r = .tup [iv 2, bv true]) := (ixRank ixH limI 0 ⟨0, 2⟩).mono fun _ _ q => ⟨q.1, by rw [q.2, rankA, if_pos ix_ask, if_neg (by decide), ix_rank2]; rfl⟩
theorem rank1A : ACall Tryz.prog 35 [.agg (histC ixH), iv 0, .agg [iv 0, iv 1]] (.glob 1 112 limitsC :: .glob 2 234 firstC :: .glob 3 237 acceptC :: .glob 0 102 asksC :: []) (fun r h' => h' = .glob 1 112 limitsC :: .glob 2 234 firstC :: .glob 3 237 acceptC :: .glob 0 102 asksC :: [] ∧ r = .tup [iv 0, bv false]) := (ixRank ixH limI 0 ⟨0, 1⟩).mono fun _ _ q => ⟨q.1, by rw [q.2, rankA, if_pos ix_ask, if_neg (by decide), ix_rank1]; rfl⟩
theorem nextA : ACall Tryz.prog 33 [.agg (histC ixH), iv 0, iv 1] (.glob 1 112 limitsC :: .glob 2 234 firstC :: .glob 3 237 acceptC :: .glob 0 102 asksC :: []) (fun r h' => h' = .glob 1 112 limitsC :: .glob 2 234 firstC :: .glob 3 237 acceptC :: .glob 0 102 asksC :: [] ∧ r = .tup [iv 0, bv true]) := (ixNext ixH limI 0 1).mono fun _ _ q => ⟨q.1, by rw [q.2, nextI, if_pos ix_ask, if_pos (by decide), ix_ins]; rfl⟩
theorem finA : ACall Tryz.prog 32 [.agg (histC ixH), iv 0, iv 0] (.glob 1 112 limitsC :: .glob 2 234 firstC :: .glob 3 237 acceptC :: .glob 0 102 asksC :: []) (fun r h' => h' = .glob 1 112 limitsC :: .glob 2 234 firstC :: .glob 3 237 acceptC :: .glob 0 102 asksC :: [] ∧ r = .tup [.agg [iv 0, iv 2], iv 4, bv true]) := (ixFinal ixH limI 0 0).mono fun _ _ q => ⟨q.1, by rw [q.2, finI, if_pos ix_check, ix_fin]; rfl⟩
theorem eqA (l : List Int) (hl : l.length ≤ 4611686018427387904) : ACall Tryz.prog 25 [.list false 1 (l.map intR), .list true 1 (l.map intR)] [] (fun r h' => h' = [] ∧ r = bv true) := (equalInt l l hl hl).mono fun _ _ q => ⟨q.1, by rw [q.2, eqF_eq intEq_eq]; simp⟩
theorem wakes16  : ACall Tryz.prog 26 [] (.glob 1 112 limitsC :: .glob 2 234 firstC :: .glob 3 237 acceptC :: .glob 0 102 asksC :: []) (fun r h' => h' = .glob 1 112 limitsC :: .glob 2 234 firstC :: .glob 3 237 acceptC :: .glob 0 102 asksC :: [] ∧ r = bv true) := by
  refine acall_of_aw Tryz.func26 rfl rfl rfl ?_
  refine rn ?_
  refine qv rfl rfl (qv_call rfl rfl (pcall smallI (Sbs.refl _))) ?_
  refine qv rfl rfl (qv_call rfl rfl (FCall.of_fun commA)) ?_
  refine rn ?_
  refine qv rfl rfl (qv_call rfl rfl (pcall smallI (Sbs.refl _))) ?_
  refine qv rfl rfl (qv_call rfl rfl (FCall.of_fun instA)) ?_
  refine rn ?_
  refine qv rfl rfl (qv_call rfl rfl (pcall smallI (Sbs.refl _))) ?_
  refine rn ?_
  refine qv rfl rfl (qv_call rfl rfl (FCall.of_fun rank2A)) ?_
  refine rn ?_
  refine qv rfl rfl (qv_call rfl rfl (pcall smallI (Sbs.refl _))) ?_
  refine rn ?_
  refine qv rfl rfl (qv_call rfl rfl (FCall.of_fun rank1A)) ?_
  refine rn ?_
  refine qv rfl rfl (qv_call rfl rfl (pcall smallI (Sbs.refl _))) ?_
  refine qv rfl rfl (qv_call rfl rfl (FCall.of_fun nextA)) ?_
  refine rn ?_
  refine qv rfl rfl (qv_call rfl rfl (pcall smallI (Sbs.refl _))) ?_
  refine qv rfl rfl (qv_call rfl rfl (FCall.of_fun finA)) ?_
  refine rn ?_
  refine aops_e rfl (oe_alloc rfl fun b11 => ?_)
  refine rn ?_
  refine qv rfl rfl (qv_buildSlice rfl rfl) ?_
  refine qv rfl rfl (qv_call rfl rfl (pcall (eqA [0, 1] (by decide)) (Sbs.refl _))) ?_
  refine rn ?_
  refine qv rfl rfl (qv_buildSlice rfl rfl) ?_
  refine qv rfl rfl (qv_call rfl rfl (pcall (eqA [1, 0] (by decide)) (Sbs.refl _))) ?_
  refine rn ?_
  refine rq 1 ?_
  exact ⟨rfl, rfl⟩
end Go.Proofs
/- The walk of the reference's Same. Conditions: none. -/
set_option linter.unusedVariables false
set_option linter.unusedSimpArgs false
set_option maxRecDepth 10000
namespace Go.Proofs
open Go Go.Ab
attribute [local irreducible] QR QV OE aops aw dsoup dsoupM dalloc dallocM thn inBlk
open Go.H
theorem refNamesD {f g : Bool} (l m : List ByteArray) (hl : l.length ≤ 4611686018427387904) (hm : m.length ≤ 4611686018427387904) : ACall Tryz.prog 73 [.list f 1 (l.map strR), .list g 1 (m.map strR)] [] (fun r h' => h' = [] ∧ r = bv (decide (l = m))) :=
  (refNames l m hl hm).mono (fun r h' q => ⟨q.1, by rw [q.2, eqF_eq strEq_eq]⟩)
theorem refNumbersD {f g : Bool} (l m : List Int) (hl : l.length ≤ 4611686018427387904) (hm : m.length ≤ 4611686018427387904) : ACall Tryz.prog 75 [.list f 1 (l.map intR), .list g 1 (m.map intR)] [] (fun r h' => h' = [] ∧ r = bv (decide (l = m))) :=
  (refNumbers l m hl hm).mono (fun r h' q => ⟨q.1, by rw [q.2, eqF_eq intEq_eq]⟩)
theorem refEventD (a b : Ev) (ha : a.scan.length ≤ 4611686018427387904) (hb : b.scan.length ≤ 4611686018427387904) : ACall Tryz.prog 74 [.agg (evR a), .agg (evR b)] [] (fun r h' => h' = [] ∧ r = bv (decide (a = b))) :=
  (refEvent a b ha hb).mono (fun r h' q => ⟨q.1, by rw [q.2, evEq_eq]⟩)
theorem sameB_f {a b : Hist} (h : a ≠ b) : sameB a b = false := by
  cases q : sameB a b with
  | false => rfl
  | true => exact absurd ((sameB_iff a b).1 q) h
theorem sameB_t {a b : Hist} (h : a = b) : sameB a b = true := (sameB_iff a b).2 h
set_option maxHeartbeats 4000000 in
theorem refSame (a b : Hist) (la : Lim 4611686018427387904 a) (lb : Lim 4611686018427387904 b) : ACall Tryz.prog 20 [.agg (histC a), .agg (histC b)] [] (fun r h' => h' = [] ∧ r = bv (sameB a b)) := by
  refine acall_of_aw Tryz.func20 rfl rfl rfl ?_
  refine rn ?_
  refine aops_e rfl (oe_box rfl rfl rfl fun b2 => ?_)
  refine aops_e rfl (oe_box rfl rfl rfl fun b3 => ?_)
  refine rn ?_
  refine qv rfl rfl (qv_call rfl rfl (pcall (refNamesD a.ts b.ts la.ts lb.ts) (Sbs.refl _))) ?_
  refine rn ?_
  refine asplit (fun hg1_6 => ?_) (fun hg1_6 => ?_)
  · refine rn ?_
    refine aw_ct rfl ?_
    refine rn ?_
    exact retq (.cons _ _ _ _ (.tmp _ _ rfl) .nil) (.drop [_, _] _ _) ⟨rfl, congrArg bv (Eq.symm (sameB_f fun q => by subst q; simp_all))⟩
  · refine rn ?_
    refine qv rfl rfl (qv_call rfl rfl (pcall (refNamesD a.ss b.ss la.ss lb.ss) (Sbs.refl _))) ?_
    refine rn ?_
    refine asplit (fun hg1_14 => ?_) (fun hg1_14 => ?_)
    · refine rn ?_
      refine aw_ct rfl ?_
      refine rn ?_
      exact retq (.cons _ _ _ _ (.tmp _ _ rfl) .nil) (.drop [_, _] _ _) ⟨rfl, congrArg bv (Eq.symm (sameB_f fun q => by subst q; simp_all))⟩
    · refine rn ?_
      refine qv rfl rfl (qv_call rfl rfl (pcall (refNamesD a.os b.os la.os lb.os) (Sbs.refl _))) ?_
      refine rn ?_
      refine asplit (fun hg1_22 => ?_) (fun hg1_22 => ?_)
      · refine rn ?_
        refine aw_ct rfl ?_
        refine rn ?_
        exact retq (.cons _ _ _ _ (.tmp _ _ rfl) .nil) (.drop [_, _] _ _) ⟨rfl, congrArg bv (Eq.symm (sameB_f fun q => by subst q; simp_all))⟩
      · refine rn ?_
        refine qv rfl rfl (qv_call rfl rfl (pcall (refNamesD a.ps b.ps la.ps lb.ps) (Sbs.refl _))) ?_
        refine rn ?_
        refine asplit (fun hg1_30 => ?_) (fun hg1_30 => ?_)
        · refine rn ?_
          refine aw_ct rfl ?_
          refine rn ?_
          exact retq (.cons _ _ _ _ (.tmp _ _ rfl) .nil) (.drop [_, _] _ _) ⟨rfl, congrArg bv (Eq.symm (sameB_f fun q => by subst q; simp_all))⟩
        · refine rn ?_
          refine asplit (fun hg1_39 => ?_) (fun hg1_39 => ?_)
          · refine rn ?_
            refine aw_ct rfl ?_
            refine rn ?_
            exact retq (.cons _ _ _ _ (.tmp _ _ rfl) .nil) (.drop [_, _] _ _) ⟨rfl, congrArg bv (Eq.symm (sameB_f fun q => by subst q; simp_all))⟩
          · refine rn ?_
            refine asplit (fun hg1_48 => ?_) (fun hg1_48 => ?_)
            · refine rn ?_
              refine aw_ct rfl ?_
              refine rn ?_
              exact retq (.cons _ _ _ _ (.tmp _ _ rfl) .nil) (.drop [_, _] _ _) ⟨rfl, congrArg bv (Eq.symm (sameB_f fun q => by subst q; simp_all))⟩
            · refine rn ?_
              refine asplit (fun hg1_57 => ?_) (fun hg1_57 => ?_)
              · refine rn ?_
                refine aw_ct rfl ?_
                refine rn ?_
                exact retq (.cons _ _ _ _ (.tmp _ _ rfl) .nil) (.drop [_, _] _ _) ⟨rfl, congrArg bv (Eq.symm (sameB_f fun q => by subst q; simp_all))⟩
              · refine rn ?_
                refine aw_cond rfl (fun hc78 => ?_) (fun hc78 => ?_)
                · refine rn ?_
                  exact retq (.cons _ _ _ _ (.tmp _ _ rfl) .nil) (.drop [_, _] _ _) ⟨rfl, congrArg bv (Eq.symm (sameB_f fun q => by subst q; simp_all))⟩
                · have Ets : a.ts = b.ts := by simp_all
                  have Ess : a.ss = b.ss := by simp_all
                  have Eos : a.os = b.os := by simp_all
                  have Eps : a.ps = b.ps := by simp_all
                  have Levs : a.evs.length = b.evs.length := by simp at *; omega
                  have Lords : a.ords.length = b.ords.length := by simp at *; omega
                  have Lmats : a.mats.length = b.mats.length := by simp at *; omega
                  have Lwants : a.wants.length = b.wants.length := by simp at *; omega
                  refine rn ?_
                  refine aw_loop' (fun k : Nat => k ≤ a.evs.length ∧ a.evs.take k = b.evs.take k) (fun k => ⟨[(82, iv k), (81, iv (a.evs.map evR).length), (2, .v (.pointer (some ⟨b2, 0, none⟩))), (3, .v (.pointer (some ⟨b3, 0, none⟩)))], [.box b3 28 (histC b), .box b2 28 (histC a)], []⟩) (fun k => a.evs.length - k) 0 ⟨Nat.zero_le _, by simp⟩
                    (ent_sub (.cons _ _ _ rfl (.cons _ _ _ rfl (.cons _ _ _ rfl (.cons _ _ _ rfl (.nil)))))) ?_
                  rintro k ⟨hk, ht⟩
                  refine rn ?_
                  refine aw_cond rfl (fun hc83 => ?_) (fun hc83 => ?_)
                  · have hbig := la.evs
                    have hk2 : k < a.evs.length := by simpa using hc83
                    have hk3 : k < b.evs.length := by omega
                    obtain ⟨x, hx0⟩ : ∃ x, x = a.evs[k] := ⟨_, rfl⟩
                    obtain ⟨y, hy0⟩ : ∃ y, y = b.evs[k] := ⟨_, rfl⟩
                    have hrow1 : (a.evs.map evR)[k]? = some (evR x) := by rw [hx0]; simp [hk2]
                    have hrow2 : (b.evs.map evR)[k]? = some (evR y) := by rw [hy0]; simp [hk3]
                    refine rn ?_
                    refine aw_draw 10 rfl ?_
                    refine rn ?_
                    refine qv rfl rfl (qv_call rfl rfl (pcall (refEventD x y (la.scans _ (by rw [hx0]; exact List.getElem_mem _)) (lb.scans _ (by rw [hy0]; exact List.getElem_mem _))) (Sbs.refl _))) ?_
                    refine rn ?_
                    refine aw_cond rfl (fun hc96 => ?_) (fun hc96 => ?_)
                    · have hne : x ≠ y := by clear hx0 hy0 hrow1 hrow2 ht; intro q; subst q; simp_all
                      refine rn ?_
                      exact retq (.cons _ _ _ _ (.tmp _ _ rfl) .nil) (.drop [_, _] _ _) ⟨rfl, congrArg bv (Eq.symm (sameB_f fun q => by subst q; exact hne (hx0.trans hy0.symm)))⟩
                    · have hxy : x = y := by simpa using hc96
                      refine rn ?_
                      exact ⟨k + 1, ⟨by omega, by rw [List.take_succ_eq_append_getElem hk2, List.take_succ_eq_append_getElem hk3, ht, ← hx0, ← hy0, hxy]⟩, (ent_sub (.cons _ _ _ rfl (.cons _ _ _ rfl (.cons _ _ _ rfl (.cons _ _ _ rfl (.nil)))))), by omega⟩
                  · have hk2 : ¬ k < a.evs.length := by simpa using hc83
                    have Eevs : a.evs = b.evs := by
                      have hk3 : k = a.evs.length := by omega
                      rw [hk3, List.take_length] at ht
                      rw [ht, Levs, List.take_length]
                    clear ht hk
                    refine rn ?_
                    refine aw_loop' (fun k : Nat => k ≤ a.ords.length ∧ a.ords.take k = b.ords.take k) (fun k => ⟨[(101, iv k), (100, iv (a.ords.map ordR).length), (99, ordsA a.ords), (2, .v (.pointer (some ⟨b2, 0, none⟩))), (3, .v (.pointer (some ⟨b3, 0, none⟩)))], [.box b3 28 (histC b), .box b2 28 (histC a)], []⟩) (fun k => a.ords.length - k) 0 ⟨Nat.zero_le _, by simp⟩
                      (ent_sub (.cons _ _ _ rfl (.cons _ _ _ rfl (.cons _ _ _ rfl (.cons _ _ _ rfl (.cons _ _ _ rfl (.nil))))))) ?_
                    rintro k ⟨hk, ht⟩
                    refine rn ?_
                    refine aw_cond rfl (fun hc102 => ?_) (fun hc102 => ?_)
                    · have hbig := la.ords
                      have hk2 : k < a.ords.length := by simpa using hc102
                      have hk3 : k < b.ords.length := by omega
                      obtain ⟨x, hx0⟩ : ∃ x, x = a.ords[k] := ⟨_, rfl⟩
                      obtain ⟨y, hy0⟩ : ∃ y, y = b.ords[k] := ⟨_, rfl⟩
                      have hrow1 : (a.ords.map ordR)[k]? = some (ordR x) := by rw [hx0]; simp [hk2]
                      have hrow2 : (b.ords.map ordR)[k]? = some (ordR y) := by rw [hy0]; simp [hk3]
                      refine rn ?_
                      refine aops_e rfl (oe_alloc rfl fun b7 => ?_)
                      refine rn ?_
                      refine aops_e rfl (oe_alloc rfl fun b8 => ?_)
                      refine rn ?_
                      refine asplit (fun hg13_5 => ?_) (fun hg13_5 => ?_)
                      · refine rn ?_
                        refine aw_ct rfl ?_
                        have hne : x ≠ y := by clear hx0 hy0 hrow1 hrow2 ht; intro q; subst q; simp_all
                        refine rn ?_
                        exact retq (.cons _ _ _ _ (.tmp _ _ rfl) .nil) (.drop [_, _, _, _] _ _) ⟨rfl, congrArg bv (Eq.symm (sameB_f fun q => by subst q; exact hne (hx0.trans hy0.symm)))⟩
                      · refine rn ?_
                        refine qv rfl rfl (qv_call rfl rfl (pcall (refNumbersD x.ts y.ts (la.ordts _ (by rw [hx0]; exact List.getElem_mem _)) (lb.ordts _ (by rw [hy0]; exact List.getElem_mem _))) (Sbs.refl _))) ?_
                        refine rn ?_
                        refine aw_cond rfl (fun hc123 => ?_) (fun hc123 => ?_)
                        · have hne : x ≠ y := by clear hx0 hy0 hrow1 hrow2 ht; intro q; subst q; simp_all
                          refine rn ?_
                          exact retq (.cons _ _ _ _ (.tmp _ _ rfl) .nil) (.drop [_, _, _, _] _ _) ⟨rfl, congrArg bv (Eq.symm (sameB_f fun q => by subst q; exact hne (hx0.trans hy0.symm)))⟩
                        · have hxy : x = y := by clear hx0 hy0 hrow1 hrow2 ht; cases x; cases y; simp_all
                          refine rn ?_
                          exact ⟨k + 1, ⟨by omega, by rw [List.take_succ_eq_append_getElem hk2, List.take_succ_eq_append_getElem hk3, ht, ← hx0, ← hy0, hxy]⟩, (ent_trans (ent_drop (h1 := [_, _])) (ent_sub (.cons _ _ _ rfl (.cons _ _ _ rfl (.cons _ _ _ rfl (.cons _ _ _ rfl (.cons _ _ _ rfl (.nil)))))))), by omega⟩
                    · have hk2 : ¬ k < a.ords.length := by simpa using hc102
                      have Eords : a.ords = b.ords := by
                        have hk3 : k = a.ords.length := by omega
                        rw [hk3, List.take_length] at ht
                        rw [ht, Lords, List.take_length]
                      clear ht hk
                      refine rn ?_
                      refine aw_loop' (fun k : Nat => k ≤ a.mats.length ∧ a.mats.take k = b.mats.take k) (fun k => ⟨[(128, iv k), (127, iv (a.mats.map matR).length), (126, matsA a.mats), (2, .v (.pointer (some ⟨b2, 0, none⟩))), (3, .v (.pointer (some ⟨b3, 0, none⟩)))], [.box b3 28 (histC b), .box b2 28 (histC a)], []⟩) (fun k => a.mats.length - k) 0 ⟨Nat.zero_le _, by simp⟩
                        (ent_sub (.cons _ _ _ rfl (.cons _ _ _ rfl (.cons _ _ _ rfl (.cons _ _ _ rfl (.cons _ _ _ rfl (.nil))))))) ?_
                      rintro k ⟨hk, ht⟩
                      refine rn ?_
                      refine aw_cond rfl (fun hc129 => ?_) (fun hc129 => ?_)
                      · have hbig := la.mats
                        have hk2 : k < a.mats.length := by simpa using hc129
                        have hk3 : k < b.mats.length := by omega
                        obtain ⟨x, hx0⟩ : ∃ x, x = a.mats[k] := ⟨_, rfl⟩
                        obtain ⟨y, hy0⟩ : ∃ y, y = b.mats[k] := ⟨_, rfl⟩
                        have hrow1 : (a.mats.map matR)[k]? = some (matR x) := by rw [hx0]; simp [hk2]
                        have hrow2 : (b.mats.map matR)[k]? = some (matR y) := by rw [hy0]; simp [hk3]
                        refine rn ?_
                        refine aops_e rfl (oe_alloc rfl fun b10 => ?_)
                        refine rn ?_
                        refine aops_e rfl (oe_alloc rfl fun b11 => ?_)
                        refine rn ?_
                        refine asplit (fun hg20_5 => ?_) (fun hg20_5 => ?_)
                        · refine rn ?_
                          refine aw_ct rfl ?_
                          have hne : x ≠ y := by clear hx0 hy0 hrow1 hrow2 ht; intro q; subst q; simp_all
                          refine rn ?_
                          exact retq (.cons _ _ _ _ (.tmp _ _ rfl) .nil) (.drop [_, _, _, _] _ _) ⟨rfl, congrArg bv (Eq.symm (sameB_f fun q => by subst q; exact hne (hx0.trans hy0.symm)))⟩
                        · refine rn ?_
                          refine asplit (fun hg20_12 => ?_) (fun hg20_12 => ?_)
                          · refine rn ?_
                            refine aw_ct rfl ?_
                            have hne : x ≠ y := by clear hx0 hy0 hrow1 hrow2 ht; intro q; subst q; simp_all
                            refine rn ?_
                            exact retq (.cons _ _ _ _ (.tmp _ _ rfl) .nil) (.drop [_, _, _, _] _ _) ⟨rfl, congrArg bv (Eq.symm (sameB_f fun q => by subst q; exact hne (hx0.trans hy0.symm)))⟩
                          · refine rn ?_
                            refine asplit (fun hg20_19 => ?_) (fun hg20_19 => ?_)
                            · refine rn ?_
                              refine aw_ct rfl ?_
                              have hne : x ≠ y := by clear hx0 hy0 hrow1 hrow2 ht; intro q; subst q; simp_all
                              refine rn ?_
                              exact retq (.cons _ _ _ _ (.tmp _ _ rfl) .nil) (.drop [_, _, _, _] _ _) ⟨rfl, congrArg bv (Eq.symm (sameB_f fun q => by subst q; exact hne (hx0.trans hy0.symm)))⟩
                            · refine rn ?_
                              refine qv rfl rfl (qv_call rfl rfl (pcall (refNumbersD x.ts y.ts (la.matts _ (by rw [hx0]; exact List.getElem_mem _)) (lb.matts _ (by rw [hy0]; exact List.getElem_mem _))) (Sbs.refl _))) ?_
                              refine rn ?_
                              refine aw_cond rfl (fun hc164 => ?_) (fun hc164 => ?_)
                              · have hne : x ≠ y := by clear hx0 hy0 hrow1 hrow2 ht; intro q; subst q; simp_all
                                refine rn ?_
                                exact retq (.cons _ _ _ _ (.tmp _ _ rfl) .nil) (.drop [_, _, _, _] _ _) ⟨rfl, congrArg bv (Eq.symm (sameB_f fun q => by subst q; exact hne (hx0.trans hy0.symm)))⟩
                              · have hxy : x = y := by clear hx0 hy0 hrow1 hrow2 ht; cases x; cases y; simp_all
                                refine rn ?_
                                exact ⟨k + 1, ⟨by omega, by rw [List.take_succ_eq_append_getElem hk2, List.take_succ_eq_append_getElem hk3, ht, ← hx0, ← hy0, hxy]⟩, (ent_trans (ent_drop (h1 := [_, _])) (ent_sub (.cons _ _ _ rfl (.cons _ _ _ rfl (.cons _ _ _ rfl (.cons _ _ _ rfl (.cons _ _ _ rfl (.nil)))))))), by omega⟩
                      · have hk2 : ¬ k < a.mats.length := by simpa using hc129
                        have Emats : a.mats = b.mats := by
                          have hk3 : k = a.mats.length := by omega
                          rw [hk3, List.take_length] at ht
                          rw [ht, Lmats, List.take_length]
                        clear ht hk
                        refine rn ?_
                        refine aw_loop' (fun k : Nat => k ≤ a.wants.length ∧ a.wants.take k = b.wants.take k) (fun k => ⟨[(169, iv k), (168, iv (a.wants.map wanR).length), (2, .v (.pointer (some ⟨b2, 0, none⟩))), (3, .v (.pointer (some ⟨b3, 0, none⟩)))], [.box b3 28 (histC b), .box b2 28 (histC a)], []⟩) (fun k => a.wants.length - k) 0 ⟨Nat.zero_le _, by simp⟩
                          (ent_sub (.cons _ _ _ rfl (.cons _ _ _ rfl (.cons _ _ _ rfl (.cons _ _ _ rfl (.nil)))))) ?_
                        rintro k ⟨hk, ht⟩
                        refine rn ?_
                        refine aw_cond rfl (fun hc170 => ?_) (fun hc170 => ?_)
                        · have hbig := la.wants
                          have hk2 : k < a.wants.length := by simpa using hc170
                          have hk3 : k < b.wants.length := by omega
                          obtain ⟨x, hx0⟩ : ∃ x, x = a.wants[k] := ⟨_, rfl⟩
                          obtain ⟨y, hy0⟩ : ∃ y, y = b.wants[k] := ⟨_, rfl⟩
                          have hrow1 : (a.wants.map wanR)[k]? = some (wanR x) := by rw [hx0]; simp [hk2]
                          have hrow2 : (b.wants.map wanR)[k]? = some (wanR y) := by rw [hy0]; simp [hk3]
                          refine rn ?_
                          refine aw_draw 10 rfl ?_
                          refine rn ?_
                          refine aw_cond rfl (fun hc182 => ?_) (fun hc182 => ?_)
                          · have hne : x ≠ y := by clear hx0 hy0 hrow1 hrow2 ht; intro q; subst q; simp_all
                            refine rn ?_
                            exact retq (.cons _ _ _ _ (.tmp _ _ rfl) .nil) (.drop [_, _] _ _) ⟨rfl, congrArg bv (Eq.symm (sameB_f fun q => by subst q; exact hne (hx0.trans hy0.symm)))⟩
                          · have hxy : x = y := by clear hx0 hy0 hrow1 hrow2 ht; cases x; cases y; simp_all
                            refine rn ?_
                            exact ⟨k + 1, ⟨by omega, by rw [List.take_succ_eq_append_getElem hk2, List.take_succ_eq_append_getElem hk3, ht, ← hx0, ← hy0, hxy]⟩, (ent_sub (.cons _ _ _ rfl (.cons _ _ _ rfl (.cons _ _ _ rfl (.cons _ _ _ rfl (.nil)))))), by omega⟩
                        · have hk2 : ¬ k < a.wants.length := by simpa using hc170
                          have Ewants : a.wants = b.wants := by
                            have hk3 : k = a.wants.length := by omega
                            rw [hk3, List.take_length] at ht
                            rw [ht, Lwants, List.take_length]
                          clear ht hk
                          refine rn ?_
                          exact retq (.cons _ _ _ _ (.tmp _ _ rfl) .nil) (.drop [_, _] _ _) ⟨rfl, congrArg bv (Eq.symm (sameB_t (by cases a; cases b; simp_all)))⟩
end Go.Proofs
/- The walk of IndexSees. Conditions: none. -/
set_option linter.unusedVariables false
set_option linter.unusedSimpArgs false
set_option maxRecDepth 10000
namespace Go.Proofs
open Go Go.Ab
attribute [local irreducible] QR QV OE aops aw dsoup dsoupM dalloc dallocM thn inBlk jsoup jch lsoup
open Go.H
theorem same16 (h : Hist) (la : Lim 4611686018427387904 h) : ACall Tryz.prog 20 [.agg (histC h), .agg (histC h)] [] (fun r h' => h' = [] ∧ r = bv true) := (refSame h h la la).mono fun _ _ q => ⟨q.1, by rw [q.2, sameB_self]⟩
end Go.Proofs
/- Structs of numbers that are the same. Conditions: none. -/
set_option linter.unusedVariables false
namespace Go.Ab
open Go
section
variable {P : Program} {h : List Res} {f : Operand → Option AV} {dst : Option Tmp} {ty : TypeId} {pos : String} {after : Array Edge} {guard : Option (Nat × Bool)} {x y : Operand}
end
end Go.Ab
/- The walks of law 15's cut and few. Conditions: none. -/
set_option linter.unusedVariables false
set_option linter.unusedSimpArgs false
set_option maxRecDepth 10000
namespace Go.Proofs
open Go Go.Ab
attribute [local irreducible] QR QV OE aops aw dsoup dsoupM dalloc dallocM thn inBlk jsoup jch lsoup
open Go.H
theorem cut {full : Bool} (l : List ByteArray) (most : Nat) (hm : most ≤ 1000) : ACall Tryz.prog 67 [.list full 1 (l.map strR), iv most] [] (fun r h' => h' = [] ∧ r = strsA (cutL most l)) := by
  refine acall_of_aw Tryz.func67 rfl rfl rfl ?_
  refine aw_seq (aw_region ?_)
  refine q1 ?_
  refine aops_nil (thn_n ?_)
  refine aw_seq (aw_region ?_)
  refine q1 ?_
  refine q1 ?_
  refine q1 ?_
  refine q1 ?_
  refine qq rfl rfl (qr_minN (l.map strR).length most rfl rfl) ?_
  refine qq rfl rfl (qr_slice_hE (rows' := (l.take most).map strR) rfl rfl (by omega) (by rw [List.length_map]; exact take_min strR l most)) ?_
  refine aops_e rfl (oe_call rfl rfl (FCall.rowS (FCall.of_fun (cloneRowStr _ (by simp; omega) (one_str _)))) rfl ?_)
  rintro _ _ ⟨s, rfl, rfl⟩
  refine rn ?_
  refine aw_loop' (fun k : Nat => k ≤ (l.take most).length) (fun k => ⟨[(17, iv k), (16, iv ((l.take most).map strR).length), (15, .v s.v), (5, .v s.v)], [.row s.v 1 9 ((((l.take most).take k).map cutS).map strR ++ ((l.take most).drop k).map strR)], []⟩) (fun k => (l.take most).length - k) 0 (by omega)
    (by simp only [List.take_zero, List.map_nil, List.nil_append, List.drop_zero]; exact (ent_sub (.cons _ _ _ rfl (.cons _ _ _ rfl (.cons _ _ _ rfl (.cons _ _ _ rfl (.nil))))))) ?_
  intro k hk
  refine rn ?_
  refine aw_cond rfl (fun hc18 => ?_) (fun hc18 => ?_)
  · have hk2 : k < (l.take most).length := by simpa using hc18
    obtain ⟨b, hb⟩ : ∃ b, b = (l.take most)[k] := ⟨_, rfl⟩
    have hd := List.drop_eq_getElem_cons hk2
    rw [← hb] at hd
    have hL := List.length_take_le most l
    have hkl : (((l.take most).take k).map cutS).length = k := by rw [List.length_map, List.length_take]; omega
    have hrow := mid_get (f := strR) (g := strR) (xs := ((l.take most).take k).map cutS) (k := k) hkl hd
    have hk3 : k < ((((l.take most).take k).map cutS).map strR ++ ((l.take most).drop k).map strR).length := by rw [mid_len hkl hk]; exact hk2
    refine aw_skip ?_
    refine thn_n ?_
    refine aw_seq ?_
    refine aw_block ?_
    refine aw_seq (aw_region ?_)
    refine q1 ?_
    refine q1 ?_
    refine qq rfl rfl (qr_load_rp_one rfl hrow rfl) ?_
    refine q1 ?_
    refine q1 ?_
    refine aops_nil (thn_n ?_)
    refine aw_region ?_
    refine q1 ?_
    refine q1 ?_
    refine q1 ?_
    refine q1 ?_
    refine q1 ?_
    refine qq rfl rfl (qr_minN b.size 40 rfl rfl) ?_
    refine qq rfl rfl (qr_slice_string_h rfl rfl (by omega)) ?_
    refine rn ?_
    refine aops_e rfl (oe_store_rp rfl rfl rfl hrow rfl (Nat.le_of_ble_eq_true rfl) ?_)
    refine rn ?_
    have hset := mid_set (f := strR) (g := strR) (l := (l.take most)) (xs := ((l.take most).take k).map cutS) (a := cutS b) (r := (strR b).take 0 ++ [sv (cutS b)] ++ (strR b).drop (0 + 1)) hkl hd rfl
    have hx : ((l.take most).take k).map cutS ++ [cutS b] = ((l.take most).take (k + 1)).map cutS := by rw [List.take_succ_eq_append_getElem hk2, hb]; simp
    rw [hx] at hset
    exact ⟨k + 1, by omega, (by rw [← hset]; exact (ent_sub (.cons _ _ _ rfl (.cons _ _ _ rfl (.cons _ _ _ rfl (.cons _ _ _ rfl (.nil))))))), by omega⟩
  · obtain rfl : k = (l.take most).length := by
      have : ¬ k < (l.take most).length := by simpa using hc18
      omega
    rw [List.take_length, List.drop_length, List.map_nil, List.append_nil]
    refine rn ?_
    exact retq (.cons _ _ _ _ (.tmp _ _ rfl) .nil) vent_freeze ⟨rfl, rfl⟩
end Go.Proofs
/- The walk of law 15's wakes. Conditions: none. -/
set_option linter.unusedVariables false
set_option linter.unusedSimpArgs false
set_option maxRecDepth 10000
namespace Go.Proofs
open Go Go.Ab
attribute [local irreducible] QR QV OE aops aw dsoup dsoupM dalloc dallocM thn inBlk jsoup jch lsoup
open Go.H
end Go.Proofs
/- The walk of RulesFirst. Conditions: none. -/
set_option linter.unusedVariables false
set_option linter.unusedSimpArgs false
set_option maxRecDepth 10000
namespace Go.Proofs
open Go Go.Ab
attribute [local irreducible] QR QV OE aops aw dsoup dsoupM dalloc dallocM thn inBlk jsoup jch lsoup
open Go.H
end Go.Proofs
/- The walk of RulesPlaces. Conditions: none. -/
set_option linter.unusedVariables false
set_option linter.unusedSimpArgs false
set_option maxRecDepth 10000
namespace Go.Proofs
open Go Go.Ab
attribute [local irreducible] QR QV OE aops aw dsoup dsoupM dalloc dallocM thn inBlk jsoup jch lsoup
open Go.H
theorem qr_isB {P : Program} {h : List Res} {f : Operand → Option AV} {o : Oper} {b c : Bool} (hq : QR P h f o (.v (.bool b))) (e : b = c) : QR P h f o (.v (.bool c)) := by subst e; exact hq
end Go.Proofs
/- The walk of IndexRanks. Conditions: none. -/
set_option linter.unusedVariables false
set_option linter.unusedSimpArgs false
set_option maxRecDepth 10000
namespace Go.Proofs
open Go Go.Ab
attribute [local irreducible] QR QV OE aops aw dsoup dsoupM dalloc dallocM thn inBlk jsoup jch lsoup
open Go.H
theorem isY {a b : Int} (h : 0 ≤ a ∧ a < b) : ACall Tryz.prog 29 [iv a, iv b] [] (fun r h' => h' = [] ∧ r = bv true) := (isI a b).mono fun _ _ q => ⟨q.1, by rw [q.2, decide_eq_true h]⟩
theorem isN {a b : Int} (h : ¬ (0 ≤ a ∧ a < b)) : ACall Tryz.prog 29 [iv a, iv b] [] (fun r h' => h' = [] ∧ r = bv false) := (isI a b).mono fun _ _ q => ⟨q.1, by rw [q.2, decide_eq_false h]⟩
theorem tri2r {p : Prop} (c : Prop) [Decidable c] (a : c → p) (b : ¬ c → p) : p := if h : c then a h else b h
theorem fin_out {h : Hist} (hs : soundB h = true) {t x : Int} (hn : ¬ (0 ≤ x ∧ x < h.os.length) ∨ ¬ (0 ≤ t ∧ t < h.ts.length)) : finW h.evs t x = none := by
  cases hf : finW h.evs t x with
  | none => rfl
  | some p =>
    obtain ⟨v, i⟩ := p
    obtain ⟨hi, hv, hw, vt, vk, _⟩ := fin_parts hs hf
    obtain ⟨h2, ht, hx⟩ := wroteQ_iff.1 hw
    obtain ⟨o0, o1, _, _⟩ := write_parts (sound_ev hs _ (List.getElem_mem hi)) h2
    have := may_t (sound_may hs).1 _ (List.getElem_mem hi)
    rw [ht] at this; rw [hx] at o0 o1
    rcases hn with hn | hn
    · exact absurd ⟨o0, o1⟩ hn
    · exact absurd this hn
theorem rk_c {h : Hist} (hc : ¬ checkI h = 0) (t x n : Int) : finI h t x = none ∧ nextI h x n = none ∧ ∀ v, rankA h x v = (0, false) := by
  have e : ¬ askE h x h.os.length = 0 := by rw [ask_c hc]; exact hc
  exact ⟨by rw [finI, if_neg hc], by rw [nextI, if_neg e], fun v => by rw [rankA, if_neg e]⟩
theorem rk_n {h : Hist} (hc : checkI h = 0) (t : Int) {x : Int} (n : Int) (hx : ¬ (0 ≤ x ∧ x < h.os.length)) : finI h t x = none ∧ nextI h x n = none ∧ ∀ v, rankA h x v = (0, false) := by
  have e : ¬ askE h x h.os.length = 0 := by rw [ask_a hc hx]; decide
  exact ⟨by rw [finI, if_pos hc, fin_out (checkI_0.1 hc) (.inl hx)], by rw [nextI, if_neg e], fun v => by rw [rankA, if_neg e]⟩
theorem rk_y {h : Hist} (hc : checkI h = 0) (t : Int) {x : Int} (n : Int) (hx : 0 ≤ x ∧ x < h.os.length) : finI h t x = finW h.evs t x ∧ nextI h x n = nextR h x n ∧ ∀ v, rankA h x v = rankR h x v := by
  have e : askE h x h.os.length = 0 := ask_y hc hx
  have hi := ins_eq (checkI_0.1 hc) hx.1 hx.2
  refine ⟨by rw [finI, if_pos hc], by rw [nextI, if_pos e, hi]; rfl, fun v => ?_⟩
  rw [rankA, if_pos e, rankR]
  by_cases hv : v = ⟨0, 0⟩
  · rw [if_pos hv, if_pos hv]
  · rw [if_neg hv, if_neg hv, rankI, hi]
    have hq : (fun t => verO (finW h.evs t x) == v) = rkQ h x v := rfl
    rw [hq]
    by_cases h0 : fidx (rkQ h x v) 0 (insR h x) ≥ 0
    · rw [if_pos h0, decide_eq_true h0]
    · have := fidx_in (rkQ h x v) (insR h x) 0
      rw [if_neg h0, decide_eq_false h0, show fidx (rkQ h x v) 0 (insR h x) + 1 = 0 by omega]
theorem rk_all {h : Hist} (hc : checkI h = 0) (t x n : Int) : finI h t x = (if 0 ≤ x ∧ x < (h.os.length : Int) then (if 0 ≤ t ∧ t < (h.ts.length : Int) then finW h.evs t x else none) else none) ∧ nextI h x n = (if 0 ≤ x ∧ x < (h.os.length : Int) then nextR h x n else none) ∧ ∀ v, rankA h x v = (if 0 ≤ x ∧ x < (h.os.length : Int) then rankR h x v else (0, false)) := by
  by_cases hx : 0 ≤ x ∧ x < (h.os.length : Int)
  · obtain ⟨a, b, c⟩ := rk_y hc t n hx
    refine ⟨?_, by rw [if_pos hx, b], fun v => by rw [if_pos hx, c]⟩
    rw [if_pos hx, a]
    by_cases ht : 0 ≤ t ∧ t < (h.ts.length : Int)
    · rw [if_pos ht]
    · rw [if_neg ht, fin_out (checkI_0.1 hc) (.inr ht)]
  · obtain ⟨a, b, c⟩ := rk_n hc t n hx
    exact ⟨by rw [if_neg hx, a], by rw [if_neg hx, b], fun v => by rw [if_neg hx, c]⟩
set_option maxHeartbeats 4000000 in
theorem ranksN (x : Hist) (l : List (Int × Int × Int)) (vs : List Ver) (lb : Big x) (hl : l.length ≤ 4611686018427387904) (hv : vs.length ≤ 4611686018427387904) (hc : ¬ checkI (ownX x) = 0) : ACall Tryz.prog 5 [.agg (histC x), trisA l, versA vs] (.glob 1 112 limitsC :: .glob 2 234 firstC :: .glob 3 237 acceptC :: .glob 0 102 asksC :: []) (fun r h' => h' = .glob 1 112 limitsC :: .glob 2 234 firstC :: .glob 3 237 acceptC :: .glob 0 102 asksC :: [] ∧ r = bv true) := by
  refine acall_of_aw Tryz.func5 rfl rfl rfl ?_
  refine rn ?_
  refine aops_e rfl (oe_box rfl rfl rfl fun b3 => ?_)
  refine rn ?_
  refine qv rfl rfl (qv_call rfl rfl (FCall.qt (FCall.of_fun wakes16) ((pt1 _ _ _).trans (.cons _ ((pt1 _ _ _).trans (.cons _ ((pt1 _ _ _).trans (.cons _ (pt1 _ _ _))))))))) ?_
  refine rn ?_
  refine aw_cond rfl (fun hc29 => ?_) (fun hc29 => ?_)
  · exact absurd hc29 (by decide)
  · refine rn ?_
    refine qv rfl rfl (qv_call rfl rfl (pcall (own16 x lb) (Sbs.refl _))) ?_
    refine aops_e rfl (oe_alloc rfl fun b7 => ?_)
    refine rn ?_
    refine qv rfl rfl (qv_call rfl rfl (pcall (refCheck16 (ownX x) (ownX_lim lb.lim)) (Sbs.refl _))) ?_
    refine qq rfl rfl (qr_cmp (c := false) rfl rfl (congrArg some (by simpa using hc))) ?_
    refine rn ?_
    refine aw_rng (l.length) (fun j : Nat => True) (fun j => [(37, iv j)]) [(2, _), (3, _), (7, _), (8, _), (35, _), (36, _)] trivial ?_
    intro j lj _
    refine rn ?_
    refine aw_cond rfl (fun hc38 => ?_) (fun hc38 => ?_)
    · have hj := ltMap hc38
      have rj := atRow (f := triR) hj
      generalize l[j] = n at rj
      obtain ⟨p, q, n⟩ := n
      replace rj : (l.map triR)[j]? = some [iv p, iv q, iv n] := rj
      refine rn ?_
      refine aops_e rfl (oe_alloc rfl fun b10 => ?_)
      refine rn ?_
      refine aw_cond rfl (fun hc43 => ?_) (fun hc43 => ?_)
      · refine rn ?_
        refine aw_draw 3 rfl ?_
        refine rn ?_
        refine dv rfl rfl (by exact qv_call rfl rfl (pcall (own16 x lb) (Sbs.refl _))) ?_
        refine rn ?_
        refine qv rfl rfl (qv_call rfl rfl (pcall (same16 (ownX x) (ownX_lim lb.lim)) (Sbs.refl _))) ?_
        refine rn ?_
        first | (refine rq 2 ?_; exact ⟨rfl, rfl⟩) | (refine rq 3 ?_; exact ⟨rfl, rfl⟩)
      · refine rn ?_
        refine aops_e rfl (oe_alloc rfl fun b12 => ?_)
        refine rn ?_
        refine aw_cond rfl (fun hc61 => ?_) (fun hc61 => ?_)
        · first | cases hc61 | exact absurd hc61 (by decide) | (exfalso; simp_all; done)
        · refine rn ?_
          refine aw_cond rfl (fun hc72 => ?_) (fun hc72 => ?_)
          · first | cases hc72 | exact absurd hc72 (by decide) | (exfalso; simp_all; done)
          · refine rn ?_
            refine qq rfl rfl (qr_indexAddr_int rfl rfl (by decide) (by decide)) ?_
            refine rn ?_
            refine qq rfl rfl (qr_indexAddr_int rfl rfl (by decide) (by decide)) ?_
            refine rn ?_
            refine qv rfl rfl (qv_call rfl rfl (FCall.qt (FCall.of_fun (ixFinal (ownX x) (ownX_lim lb.lim) p q)) ((pt4 _ _ _ _ _ _).trans (.cons _ ((pt4 _ _ _ _ _ _).trans (.cons _ ((pt4 _ _ _ _ _ _).trans (.cons _ (pt4 _ _ _ _ _ _))))))))) ?_
            refine rn ?_
            refine aops_e rfl (oe_alloc rfl fun b17 => ?_)
            refine rn ?_
            refine qq rfl rfl (qr_indexAddr_int rfl rfl (by decide) (by decide)) ?_
            refine rn ?_
            refine qq rfl rfl (qr_indexAddr_int rfl rfl (by decide) (by decide)) ?_
            refine rn ?_
            refine qv rfl rfl (qv_call rfl rfl (FCall.qt (FCall.of_fun (ixNext (ownX x) (ownX_lim lb.lim) q n)) ((pt5 _ _ _ _ _ _ _).trans (.cons _ ((pt5 _ _ _ _ _ _ _).trans (.cons _ ((pt5 _ _ _ _ _ _ _).trans (.cons _ (pt5 _ _ _ _ _ _ _))))))))) ?_
            refine rn0 ?_
            refine aw_seq ?_
            refine aw_seq ?_
            obtain ⟨u1, u2, hrk⟩ := rk_c hc p q n
            rw [u1, u2]
            refine aw_region ?_
            refine q1 ?_
            refine q1 ?_
            refine qq rfl rfl (qr_isB (c := false) (qr_neagg rfl rfl rfl rfl) (by simp [verO])) ?_
            refine q1 ?_
            refine q1 ?_
            refine q1 ?_
            refine qq rfl rfl (qr_cmp (c := false) rfl rfl (congrArg some (bne_self_eq_false _))) ?_
            refine q1 ?_
            refine q1 ?_
            refine q1 ?_
            refine q1 ?_
            refine qq rfl rfl (qr_isB (c := false) (qr_nebool rfl rfl) (by simp)) ?_
            refine q1 ?_
            refine q1 ?_
            refine q1 ?_
            refine q1 ?_
            refine qq rfl rfl (qr_cmp (c := false) rfl rfl (congrArg some (bne_self_eq_false _))) ?_
            refine q1 ?_
            refine q1 ?_
            refine q1 ?_
            refine q1 ?_
            refine qq rfl rfl (qr_isB (c := false) (qr_nebool rfl rfl) (by simp)) ?_
            refine rn ?_
            refine aw_cond rfl (fun hc123 => ?_) (fun hc123 => ?_)
            · first | cases hc123 | exact absurd hc123 (by decide) | (exfalso; simp_all; done)
            · refine rn ?_
              refine aw_rng (vs.length) (fun k : Nat => True) (fun k => [(126, iv k)]) [(2, _), (3, _), (7, _), (8, _), (10, _), (11, _), (35, _), (36, _), (37, _), (124, _), (125, _)] trivial ?_
              intro k lk _
              refine rn ?_
              refine aw_cond rfl (fun hc127 => ?_) (fun hc127 => ?_)
              · have hk := ltMap hc127
                have rk := atRow (f := verR) hk
                refine rn ?_
                refine aops_e rfl (oe_alloc rfl fun b23 => ?_)
                refine rn ?_
                refine aw_cond rfl (fun hc132 => ?_) (fun hc132 => ?_)
                · refine rn ?_
                  exact ⟨hj, trivial, eA⟩
                · refine rn ?_
                  refine aw_cond rfl (fun hc133 => ?_) (fun hc133 => ?_)
                  · first | cases hc133 | exact absurd hc133 (by decide) | (exfalso; simp_all; done)
                  · refine rn ?_
                    refine qq rfl rfl (qr_indexAddr_int rfl rfl (by decide) (by decide)) ?_
                    refine rn ?_
                    refine qv rfl rfl (qv_call rfl rfl (FCall.qt (FCall.of_fun (ixRank (ownX x) (ownX_lim lb.lim) q vs[k])) ((pt6 _ _ _ _ _ _ _ _).trans (.cons _ ((pt6 _ _ _ _ _ _ _ _).trans (.cons _ ((pt6 _ _ _ _ _ _ _ _).trans (.cons _ (pt6 _ _ _ _ _ _ _ _))))))))) ?_
                    rw [hrk]
                    refine q1 ?_
                    refine q1 ?_
                    refine q1 ?_
                    refine q1 ?_
                    refine q1 ?_
                    refine aops_nil (thn_n ?_)
                    refine aw_seq (aw_region ?_)
                    refine q1 ?_
                    refine q1 ?_
                    refine qq rfl rfl (qr_cmp (c := false) rfl rfl (congrArg some (bne_self_eq_false _))) ?_
                    refine q1 ?_
                    refine q1 ?_
                    refine q1 ?_
                    refine qq rfl rfl (qr_isB (c := false) (qr_nebool rfl rfl) (by simp)) ?_
                    refine rn ?_
                    refine aw_cond rfl (fun hc157 => ?_) (fun hc157 => ?_)
                    · first | cases hc157 | exact absurd hc157 (by decide) | (exfalso; simp_all; done)
                    · refine rn ?_
                      exact ⟨hk, trivial, eA⟩
              · have qk := geMap hc127 lk
                refine rn ?_
                exact ⟨hj, trivial, eA⟩
    · have qj := geMap hc38 lj
      refine rn ?_
      refine aw_draw 3 rfl ?_
      refine rn ?_
      refine dv rfl rfl (by exact qv_call rfl rfl (pcall (own16 x lb) (Sbs.refl _))) ?_
      refine rn ?_
      refine qv rfl rfl (qv_call rfl rfl (pcall (same16 (ownX x) (ownX_lim lb.lim)) (Sbs.refl _))) ?_
      refine rn ?_
      first | (refine rq 2 ?_; exact ⟨rfl, rfl⟩) | (refine rq 3 ?_; exact ⟨rfl, rfl⟩)
set_option maxHeartbeats 4000000 in
theorem ranksY (x : Hist) (l : List (Int × Int × Int)) (vs : List Ver) (lb : Big x) (hl : l.length ≤ 4611686018427387904) (hv : vs.length ≤ 4611686018427387904) (hc : checkI (ownX x) = 0) : ACall Tryz.prog 5 [.agg (histC x), trisA l, versA vs] (.glob 1 112 limitsC :: .glob 2 234 firstC :: .glob 3 237 acceptC :: .glob 0 102 asksC :: []) (fun r h' => h' = .glob 1 112 limitsC :: .glob 2 234 firstC :: .glob 3 237 acceptC :: .glob 0 102 asksC :: [] ∧ r = bv true) := by
  refine acall_of_aw Tryz.func5 rfl rfl rfl ?_
  refine rn ?_
  refine aops_e rfl (oe_box rfl rfl rfl fun b3 => ?_)
  refine rn ?_
  refine qv rfl rfl (qv_call rfl rfl (FCall.qt (FCall.of_fun wakes16) ((pt1 _ _ _).trans (.cons _ ((pt1 _ _ _).trans (.cons _ ((pt1 _ _ _).trans (.cons _ (pt1 _ _ _))))))))) ?_
  refine rn ?_
  refine aw_cond rfl (fun hc29 => ?_) (fun hc29 => ?_)
  · exact absurd hc29 (by decide)
  · refine rn ?_
    refine qv rfl rfl (qv_call rfl rfl (pcall (own16 x lb) (Sbs.refl _))) ?_
    refine aops_e rfl (oe_alloc rfl fun b7 => ?_)
    refine rn ?_
    refine qv rfl rfl (qv_call rfl rfl (pcall (refCheck16 (ownX x) (ownX_lim lb.lim)) (Sbs.refl _))) ?_
    refine qq rfl rfl (qr_cmp (c := true) rfl rfl (congrArg some (by rw [hc]; rfl))) ?_
    refine rn ?_
    refine aw_rng (l.length) (fun j : Nat => True) (fun j => [(37, iv j)]) [(2, _), (3, _), (7, _), (8, _), (35, _), (36, _)] trivial ?_
    intro j lj _
    refine rn ?_
    refine aw_cond rfl (fun hc38 => ?_) (fun hc38 => ?_)
    · have hj := ltMap hc38
      have rj := atRow (f := triR) hj
      generalize l[j] = n at rj
      obtain ⟨p, q, n⟩ := n
      replace rj : (l.map triR)[j]? = some [iv p, iv q, iv n] := rj
      refine rn ?_
      refine aops_e rfl (oe_alloc rfl fun b10 => ?_)
      refine rn ?_
      refine aw_cond rfl (fun hc43 => ?_) (fun hc43 => ?_)
      · refine rn ?_
        refine aw_draw 3 rfl ?_
        refine rn ?_
        refine dv rfl rfl (by exact qv_call rfl rfl (pcall (own16 x lb) (Sbs.refl _))) ?_
        refine rn ?_
        refine qv rfl rfl (qv_call rfl rfl (pcall (same16 (ownX x) (ownX_lim lb.lim)) (Sbs.refl _))) ?_
        refine rn ?_
        first | (refine rq 2 ?_; exact ⟨rfl, rfl⟩) | (refine rq 3 ?_; exact ⟨rfl, rfl⟩)
      · refine rn ?_
        refine qq rfl rfl (qr_indexAddr_int rfl rfl (by decide) (by decide)) ?_
        refine q1 ?_
        refine q1 ?_
        refine q1 ?_
        refine q1 ?_
        refine tri2r (0 ≤ q ∧ q < ((ownX x).os.length : Int)) (fun hX => qv rfl rfl (qv_call rfl rfl (pcall (isY (a := q) (b := (((ownX x).os.map strR).length : Int)) (by rw [List.length_map]; exact hX)) (Sbs.refl _))) ?_) (fun hX => qv rfl rfl (qv_call rfl rfl (pcall (isN (a := q) (b := (((ownX x).os.map strR).length : Int)) (by rw [List.length_map]; exact hX)) (Sbs.refl _))) ?_)
        · refine rn ?_
          refine aops_e rfl (oe_alloc rfl fun b12 => ?_)
          refine rn ?_
          refine qq rfl rfl (qr_indexAddr_int rfl rfl (by decide) (by decide)) ?_
          refine q1 ?_
          refine q1 ?_
          refine q1 ?_
          refine q1 ?_
          have hQ := hX
          clear hX
          refine tri2r (0 ≤ p ∧ p < ((ownX x).ts.length : Int)) (fun hX => qv rfl rfl (qv_call rfl rfl (pcall (isY (a := p) (b := (((ownX x).ts.map strR).length : Int)) (by rw [List.length_map]; exact hX)) (Sbs.refl _))) ?_) (fun hX => qv rfl rfl (qv_call rfl rfl (pcall (isN (a := p) (b := (((ownX x).ts.map strR).length : Int)) (by rw [List.length_map]; exact hX)) (Sbs.refl _))) ?_)
          · refine rn ?_
            refine aw_cond rfl (fun hc61 => ?_) (fun hc61 => ?_)
            · refine rn ?_
              refine qq rfl rfl (qr_indexAddr_int rfl rfl (by decide) (by decide)) ?_
              refine rn ?_
              refine qq rfl rfl (qr_indexAddr_int rfl rfl (by decide) (by decide)) ?_
              refine rn ?_
              refine qv rfl rfl (qv_call rfl rfl (pcall (refFinal16 (ownX x) (Nat.le_trans (ownX_evs x) (by decide)) p q) (Sbs.refl _))) ?_
              refine rn ?_
              refine aw_cond rfl (fun hc72 => ?_) (fun hc72 => ?_)
              · refine rn ?_
                refine qq rfl rfl (qr_indexAddr_int rfl rfl (by decide) (by decide)) ?_
                refine rn ?_
                refine qq rfl rfl (qr_indexAddr_int rfl rfl (by decide) (by decide)) ?_
                refine rn ?_
                refine qv rfl rfl (qv_call rfl rfl (pcall (refNext16 (ownX x) ((chk_lim hc).mono (by decide) : Lim 1000000 (ownX x)) q n) (Sbs.refl _))) ?_
                refine rn ?_
                refine qq rfl rfl (qr_indexAddr_int rfl rfl (by decide) (by decide)) ?_
                refine rn ?_
                refine qq rfl rfl (qr_indexAddr_int rfl rfl (by decide) (by decide)) ?_
                refine rn ?_
                refine qv rfl rfl (qv_call rfl rfl (FCall.qt (FCall.of_fun (ixFinal (ownX x) (ownX_lim lb.lim) p q)) ((pt4 _ _ _ _ _ _).trans (.cons _ ((pt4 _ _ _ _ _ _).trans (.cons _ ((pt4 _ _ _ _ _ _).trans (.cons _ (pt4 _ _ _ _ _ _))))))))) ?_
                refine rn ?_
                refine aops_e rfl (oe_alloc rfl fun b17 => ?_)
                refine rn ?_
                refine qq rfl rfl (qr_indexAddr_int rfl rfl (by decide) (by decide)) ?_
                refine rn ?_
                refine qq rfl rfl (qr_indexAddr_int rfl rfl (by decide) (by decide)) ?_
                refine rn ?_
                refine qv rfl rfl (qv_call rfl rfl (FCall.qt (FCall.of_fun (ixNext (ownX x) (ownX_lim lb.lim) q n)) ((pt5 _ _ _ _ _ _ _).trans (.cons _ ((pt5 _ _ _ _ _ _ _).trans (.cons _ ((pt5 _ _ _ _ _ _ _).trans (.cons _ (pt5 _ _ _ _ _ _ _))))))))) ?_
                refine rn0 ?_
                refine aw_seq ?_
                refine aw_seq ?_
                obtain ⟨u1, u2, hrk⟩ : finI (ownX x) p q = (if 0 ≤ q ∧ q < ((ownX x).os.length : Int) then (if 0 ≤ p ∧ p < ((ownX x).ts.length : Int) then finW (ownX x).evs p q else none) else none) ∧ nextI (ownX x) q n = (if 0 ≤ q ∧ q < ((ownX x).os.length : Int) then nextR (ownX x) q n else none) ∧ ∀ v, rankA (ownX x) q v = (if 0 ≤ q ∧ q < ((ownX x).os.length : Int) then rankR (ownX x) q v else (0, false)) := rk_all hc p q n
                first | rw [if_pos hQ, if_pos hX] at u1 | rw [if_pos hQ, if_neg hX] at u1 | rw [if_neg hX] at u1
                first | rw [if_pos hQ] at u2 | rw [if_neg hX] at u2
                first | simp only [if_pos hQ] at hrk | simp only [if_neg hX] at hrk
                rw [u1, u2]
                refine aw_region ?_
                refine q1 ?_
                refine q1 ?_
                refine qq rfl rfl (qr_isB (c := false) (qr_neagg rfl rfl rfl rfl) (by simp [verO])) ?_
                refine q1 ?_
                refine q1 ?_
                refine q1 ?_
                refine qq rfl rfl (qr_cmp (c := false) rfl rfl (congrArg some (bne_self_eq_false _))) ?_
                refine q1 ?_
                refine q1 ?_
                refine q1 ?_
                refine q1 ?_
                refine qq rfl rfl (qr_isB (c := false) (qr_nebool rfl rfl) (by simp)) ?_
                refine q1 ?_
                refine q1 ?_
                refine q1 ?_
                refine q1 ?_
                refine qq rfl rfl (qr_cmp (c := false) rfl rfl (congrArg some (bne_self_eq_false _))) ?_
                refine q1 ?_
                refine q1 ?_
                refine q1 ?_
                refine q1 ?_
                refine qq rfl rfl (qr_isB (c := false) (qr_nebool rfl rfl) (by simp)) ?_
                refine rn ?_
                refine aw_cond rfl (fun hc123 => ?_) (fun hc123 => ?_)
                · first | cases hc123 | exact absurd hc123 (by decide) | (exfalso; simp_all; done)
                · refine rn ?_
                  refine aw_rng (vs.length) (fun k : Nat => True) (fun k => [(126, iv k)]) [(2, _), (3, _), (7, _), (8, _), (10, _), (11, _), (35, _), (36, _), (37, _), (124, _), (125, _)] trivial ?_
                  intro k lk _
                  refine rn ?_
                  refine aw_cond rfl (fun hc127 => ?_) (fun hc127 => ?_)
                  · have hk := ltMap hc127
                    have rk := atRow (f := verR) hk
                    refine rn ?_
                    refine aops_e rfl (oe_alloc rfl fun b23 => ?_)
                    refine rn ?_
                    refine aw_cond rfl (fun hc132 => ?_) (fun hc132 => ?_)
                    · refine rn ?_
                      exact ⟨hj, trivial, eA⟩
                    · refine rn ?_
                      refine aw_cond rfl (fun hc133 => ?_) (fun hc133 => ?_)
                      · refine rn ?_
                        refine qq rfl rfl (qr_indexAddr_int rfl rfl (by decide) (by decide)) ?_
                        refine rn ?_
                        refine qv rfl rfl (qv_call rfl rfl (pcall (refRank16 (ownX x) ((chk_lim hc).mono (by decide) : Lim 1000000 (ownX x)) q vs[k]) (Sbs.refl _))) ?_
                        refine rn ?_
                        refine qq rfl rfl (qr_indexAddr_int rfl rfl (by decide) (by decide)) ?_
                        refine rn ?_
                        refine qv rfl rfl (qv_call rfl rfl (FCall.qt (FCall.of_fun (ixRank (ownX x) (ownX_lim lb.lim) q vs[k])) ((pt6 _ _ _ _ _ _ _ _).trans (.cons _ ((pt6 _ _ _ _ _ _ _ _).trans (.cons _ ((pt6 _ _ _ _ _ _ _ _).trans (.cons _ (pt6 _ _ _ _ _ _ _ _))))))))) ?_
                        rw [hrk]
                        refine q1 ?_
                        refine q1 ?_
                        refine q1 ?_
                        refine q1 ?_
                        refine q1 ?_
                        refine aops_nil (thn_n ?_)
                        refine aw_seq (aw_region ?_)
                        refine q1 ?_
                        refine q1 ?_
                        refine qq rfl rfl (qr_cmp (c := false) rfl rfl (congrArg some (bne_self_eq_false _))) ?_
                        refine q1 ?_
                        refine q1 ?_
                        refine q1 ?_
                        refine qq rfl rfl (qr_isB (c := false) (qr_nebool rfl rfl) (by simp)) ?_
                        refine rn ?_
                        refine aw_cond rfl (fun hc157 => ?_) (fun hc157 => ?_)
                        · first | cases hc157 | exact absurd hc157 (by decide) | (exfalso; simp_all; done)
                        · refine rn ?_
                          exact ⟨hk, trivial, eA⟩
                      · first | cases hc133 | exact absurd hc133 (by decide) | (exfalso; simp_all; done)
                  · have qk := geMap hc127 lk
                    refine rn ?_
                    exact ⟨hj, trivial, eA⟩
              · first | cases hc72 | exact absurd hc72 (by decide) | (exfalso; simp_all; done)
            · first | cases hc61 | exact absurd hc61 (by decide) | (exfalso; simp_all; done)
          · refine rn ?_
            refine aw_cond rfl (fun hc61 => ?_) (fun hc61 => ?_)
            · first | cases hc61 | exact absurd hc61 (by decide) | (exfalso; simp_all; done)
            · refine rn ?_
              refine aw_cond rfl (fun hc72 => ?_) (fun hc72 => ?_)
              · refine rn ?_
                refine qq rfl rfl (qr_indexAddr_int rfl rfl (by decide) (by decide)) ?_
                refine rn ?_
                refine qq rfl rfl (qr_indexAddr_int rfl rfl (by decide) (by decide)) ?_
                refine rn ?_
                refine qv rfl rfl (qv_call rfl rfl (pcall (refNext16 (ownX x) ((chk_lim hc).mono (by decide) : Lim 1000000 (ownX x)) q n) (Sbs.refl _))) ?_
                refine rn ?_
                refine qq rfl rfl (qr_indexAddr_int rfl rfl (by decide) (by decide)) ?_
                refine rn ?_
                refine qq rfl rfl (qr_indexAddr_int rfl rfl (by decide) (by decide)) ?_
                refine rn ?_
                refine qv rfl rfl (qv_call rfl rfl (FCall.qt (FCall.of_fun (ixFinal (ownX x) (ownX_lim lb.lim) p q)) ((pt4 _ _ _ _ _ _).trans (.cons _ ((pt4 _ _ _ _ _ _).trans (.cons _ ((pt4 _ _ _ _ _ _).trans (.cons _ (pt4 _ _ _ _ _ _))))))))) ?_
                refine rn ?_
                refine aops_e rfl (oe_alloc rfl fun b17 => ?_)
                refine rn ?_
                refine qq rfl rfl (qr_indexAddr_int rfl rfl (by decide) (by decide)) ?_
                refine rn ?_
                refine qq rfl rfl (qr_indexAddr_int rfl rfl (by decide) (by decide)) ?_
                refine rn ?_
                refine qv rfl rfl (qv_call rfl rfl (FCall.qt (FCall.of_fun (ixNext (ownX x) (ownX_lim lb.lim) q n)) ((pt5 _ _ _ _ _ _ _).trans (.cons _ ((pt5 _ _ _ _ _ _ _).trans (.cons _ ((pt5 _ _ _ _ _ _ _).trans (.cons _ (pt5 _ _ _ _ _ _ _))))))))) ?_
                refine rn0 ?_
                refine aw_seq ?_
                refine aw_seq ?_
                obtain ⟨u1, u2, hrk⟩ : finI (ownX x) p q = (if 0 ≤ q ∧ q < ((ownX x).os.length : Int) then (if 0 ≤ p ∧ p < ((ownX x).ts.length : Int) then finW (ownX x).evs p q else none) else none) ∧ nextI (ownX x) q n = (if 0 ≤ q ∧ q < ((ownX x).os.length : Int) then nextR (ownX x) q n else none) ∧ ∀ v, rankA (ownX x) q v = (if 0 ≤ q ∧ q < ((ownX x).os.length : Int) then rankR (ownX x) q v else (0, false)) := rk_all hc p q n
                first | rw [if_pos hQ, if_pos hX] at u1 | rw [if_pos hQ, if_neg hX] at u1 | rw [if_neg hX] at u1
                first | rw [if_pos hQ] at u2 | rw [if_neg hX] at u2
                first | simp only [if_pos hQ] at hrk | simp only [if_neg hX] at hrk
                rw [u1, u2]
                refine aw_region ?_
                refine q1 ?_
                refine q1 ?_
                refine qq rfl rfl (qr_isB (c := false) (qr_neagg rfl rfl rfl rfl) (by simp [verO])) ?_
                refine q1 ?_
                refine q1 ?_
                refine q1 ?_
                refine qq rfl rfl (qr_cmp (c := false) rfl rfl (congrArg some (bne_self_eq_false _))) ?_
                refine q1 ?_
                refine q1 ?_
                refine q1 ?_
                refine q1 ?_
                refine qq rfl rfl (qr_isB (c := false) (qr_nebool rfl rfl) (by simp)) ?_
                refine q1 ?_
                refine q1 ?_
                refine q1 ?_
                refine q1 ?_
                refine qq rfl rfl (qr_cmp (c := false) rfl rfl (congrArg some (bne_self_eq_false _))) ?_
                refine q1 ?_
                refine q1 ?_
                refine q1 ?_
                refine q1 ?_
                refine qq rfl rfl (qr_isB (c := false) (qr_nebool rfl rfl) (by simp)) ?_
                refine rn ?_
                refine aw_cond rfl (fun hc123 => ?_) (fun hc123 => ?_)
                · first | cases hc123 | exact absurd hc123 (by decide) | (exfalso; simp_all; done)
                · refine rn ?_
                  refine aw_rng (vs.length) (fun k : Nat => True) (fun k => [(126, iv k)]) [(2, _), (3, _), (7, _), (8, _), (10, _), (11, _), (35, _), (36, _), (37, _), (124, _), (125, _)] trivial ?_
                  intro k lk _
                  refine rn ?_
                  refine aw_cond rfl (fun hc127 => ?_) (fun hc127 => ?_)
                  · have hk := ltMap hc127
                    have rk := atRow (f := verR) hk
                    refine rn ?_
                    refine aops_e rfl (oe_alloc rfl fun b23 => ?_)
                    refine rn ?_
                    refine aw_cond rfl (fun hc132 => ?_) (fun hc132 => ?_)
                    · refine rn ?_
                      exact ⟨hj, trivial, eA⟩
                    · refine rn ?_
                      refine aw_cond rfl (fun hc133 => ?_) (fun hc133 => ?_)
                      · refine rn ?_
                        refine qq rfl rfl (qr_indexAddr_int rfl rfl (by decide) (by decide)) ?_
                        refine rn ?_
                        refine qv rfl rfl (qv_call rfl rfl (pcall (refRank16 (ownX x) ((chk_lim hc).mono (by decide) : Lim 1000000 (ownX x)) q vs[k]) (Sbs.refl _))) ?_
                        refine rn ?_
                        refine qq rfl rfl (qr_indexAddr_int rfl rfl (by decide) (by decide)) ?_
                        refine rn ?_
                        refine qv rfl rfl (qv_call rfl rfl (FCall.qt (FCall.of_fun (ixRank (ownX x) (ownX_lim lb.lim) q vs[k])) ((pt6 _ _ _ _ _ _ _ _).trans (.cons _ ((pt6 _ _ _ _ _ _ _ _).trans (.cons _ ((pt6 _ _ _ _ _ _ _ _).trans (.cons _ (pt6 _ _ _ _ _ _ _ _))))))))) ?_
                        rw [hrk]
                        refine q1 ?_
                        refine q1 ?_
                        refine q1 ?_
                        refine q1 ?_
                        refine q1 ?_
                        refine aops_nil (thn_n ?_)
                        refine aw_seq (aw_region ?_)
                        refine q1 ?_
                        refine q1 ?_
                        refine qq rfl rfl (qr_cmp (c := false) rfl rfl (congrArg some (bne_self_eq_false _))) ?_
                        refine q1 ?_
                        refine q1 ?_
                        refine q1 ?_
                        refine qq rfl rfl (qr_isB (c := false) (qr_nebool rfl rfl) (by simp)) ?_
                        refine rn ?_
                        refine aw_cond rfl (fun hc157 => ?_) (fun hc157 => ?_)
                        · first | cases hc157 | exact absurd hc157 (by decide) | (exfalso; simp_all; done)
                        · refine rn ?_
                          exact ⟨hk, trivial, eA⟩
                      · first | cases hc133 | exact absurd hc133 (by decide) | (exfalso; simp_all; done)
                  · have qk := geMap hc127 lk
                    refine rn ?_
                    exact ⟨hj, trivial, eA⟩
              · first | cases hc72 | exact absurd hc72 (by decide) | (exfalso; simp_all; done)
        · refine rn ?_
          refine aops_e rfl (oe_alloc rfl fun b12 => ?_)
          refine rn ?_
          refine aw_cond rfl (fun hc61 => ?_) (fun hc61 => ?_)
          · first | cases hc61 | exact absurd hc61 (by decide) | (exfalso; simp_all; done)
          · refine rn ?_
            refine aw_cond rfl (fun hc72 => ?_) (fun hc72 => ?_)
            · first | cases hc72 | exact absurd hc72 (by decide) | (exfalso; simp_all; done)
            · refine rn ?_
              refine qq rfl rfl (qr_indexAddr_int rfl rfl (by decide) (by decide)) ?_
              refine rn ?_
              refine qq rfl rfl (qr_indexAddr_int rfl rfl (by decide) (by decide)) ?_
              refine rn ?_
              refine qv rfl rfl (qv_call rfl rfl (FCall.qt (FCall.of_fun (ixFinal (ownX x) (ownX_lim lb.lim) p q)) ((pt4 _ _ _ _ _ _).trans (.cons _ ((pt4 _ _ _ _ _ _).trans (.cons _ ((pt4 _ _ _ _ _ _).trans (.cons _ (pt4 _ _ _ _ _ _))))))))) ?_
              refine rn ?_
              refine aops_e rfl (oe_alloc rfl fun b17 => ?_)
              refine rn ?_
              refine qq rfl rfl (qr_indexAddr_int rfl rfl (by decide) (by decide)) ?_
              refine rn ?_
              refine qq rfl rfl (qr_indexAddr_int rfl rfl (by decide) (by decide)) ?_
              refine rn ?_
              refine qv rfl rfl (qv_call rfl rfl (FCall.qt (FCall.of_fun (ixNext (ownX x) (ownX_lim lb.lim) q n)) ((pt5 _ _ _ _ _ _ _).trans (.cons _ ((pt5 _ _ _ _ _ _ _).trans (.cons _ ((pt5 _ _ _ _ _ _ _).trans (.cons _ (pt5 _ _ _ _ _ _ _))))))))) ?_
              refine rn0 ?_
              refine aw_seq ?_
              refine aw_seq ?_
              obtain ⟨u1, u2, hrk⟩ : finI (ownX x) p q = (if 0 ≤ q ∧ q < ((ownX x).os.length : Int) then (if 0 ≤ p ∧ p < ((ownX x).ts.length : Int) then finW (ownX x).evs p q else none) else none) ∧ nextI (ownX x) q n = (if 0 ≤ q ∧ q < ((ownX x).os.length : Int) then nextR (ownX x) q n else none) ∧ ∀ v, rankA (ownX x) q v = (if 0 ≤ q ∧ q < ((ownX x).os.length : Int) then rankR (ownX x) q v else (0, false)) := rk_all hc p q n
              first | rw [if_pos hQ, if_pos hX] at u1 | rw [if_pos hQ, if_neg hX] at u1 | rw [if_neg hX] at u1
              first | rw [if_pos hQ] at u2 | rw [if_neg hX] at u2
              first | simp only [if_pos hQ] at hrk | simp only [if_neg hX] at hrk
              rw [u1, u2]
              refine aw_region ?_
              refine q1 ?_
              refine q1 ?_
              refine qq rfl rfl (qr_isB (c := false) (qr_neagg rfl rfl rfl rfl) (by simp [verO])) ?_
              refine q1 ?_
              refine q1 ?_
              refine q1 ?_
              refine qq rfl rfl (qr_cmp (c := false) rfl rfl (congrArg some (bne_self_eq_false _))) ?_
              refine q1 ?_
              refine q1 ?_
              refine q1 ?_
              refine q1 ?_
              refine qq rfl rfl (qr_isB (c := false) (qr_nebool rfl rfl) (by simp)) ?_
              refine q1 ?_
              refine q1 ?_
              refine q1 ?_
              refine q1 ?_
              refine qq rfl rfl (qr_cmp (c := false) rfl rfl (congrArg some (bne_self_eq_false _))) ?_
              refine q1 ?_
              refine q1 ?_
              refine q1 ?_
              refine q1 ?_
              refine qq rfl rfl (qr_isB (c := false) (qr_nebool rfl rfl) (by simp)) ?_
              refine rn ?_
              refine aw_cond rfl (fun hc123 => ?_) (fun hc123 => ?_)
              · first | cases hc123 | exact absurd hc123 (by decide) | (exfalso; simp_all; done)
              · refine rn ?_
                refine aw_rng (vs.length) (fun k : Nat => True) (fun k => [(126, iv k)]) [(2, _), (3, _), (7, _), (8, _), (10, _), (11, _), (35, _), (36, _), (37, _), (124, _), (125, _)] trivial ?_
                intro k lk _
                refine rn ?_
                refine aw_cond rfl (fun hc127 => ?_) (fun hc127 => ?_)
                · have hk := ltMap hc127
                  have rk := atRow (f := verR) hk
                  refine rn ?_
                  refine aops_e rfl (oe_alloc rfl fun b23 => ?_)
                  refine rn ?_
                  refine aw_cond rfl (fun hc132 => ?_) (fun hc132 => ?_)
                  · refine rn ?_
                    exact ⟨hj, trivial, eA⟩
                  · refine rn ?_
                    refine aw_cond rfl (fun hc133 => ?_) (fun hc133 => ?_)
                    · first | cases hc133 | exact absurd hc133 (by decide) | (exfalso; simp_all; done)
                    · refine rn ?_
                      refine qq rfl rfl (qr_indexAddr_int rfl rfl (by decide) (by decide)) ?_
                      refine rn ?_
                      refine qv rfl rfl (qv_call rfl rfl (FCall.qt (FCall.of_fun (ixRank (ownX x) (ownX_lim lb.lim) q vs[k])) ((pt6 _ _ _ _ _ _ _ _).trans (.cons _ ((pt6 _ _ _ _ _ _ _ _).trans (.cons _ ((pt6 _ _ _ _ _ _ _ _).trans (.cons _ (pt6 _ _ _ _ _ _ _ _))))))))) ?_
                      rw [hrk]
                      refine q1 ?_
                      refine q1 ?_
                      refine q1 ?_
                      refine q1 ?_
                      refine q1 ?_
                      refine aops_nil (thn_n ?_)
                      refine aw_seq (aw_region ?_)
                      refine q1 ?_
                      refine q1 ?_
                      refine qq rfl rfl (qr_cmp (c := false) rfl rfl (congrArg some (bne_self_eq_false _))) ?_
                      refine q1 ?_
                      refine q1 ?_
                      refine q1 ?_
                      refine qq rfl rfl (qr_isB (c := false) (qr_nebool rfl rfl) (by simp)) ?_
                      refine rn ?_
                      refine aw_cond rfl (fun hc157 => ?_) (fun hc157 => ?_)
                      · first | cases hc157 | exact absurd hc157 (by decide) | (exfalso; simp_all; done)
                      · refine rn ?_
                        exact ⟨hk, trivial, eA⟩
                · have qk := geMap hc127 lk
                  refine rn ?_
                  exact ⟨hj, trivial, eA⟩
    · have qj := geMap hc38 lj
      refine rn ?_
      refine aw_draw 3 rfl ?_
      refine rn ?_
      refine dv rfl rfl (by exact qv_call rfl rfl (pcall (own16 x lb) (Sbs.refl _))) ?_
      refine rn ?_
      refine qv rfl rfl (qv_call rfl rfl (pcall (same16 (ownX x) (ownX_lim lb.lim)) (Sbs.refl _))) ?_
      refine rn ?_
      first | (refine rq 2 ?_; exact ⟨rfl, rfl⟩) | (refine rq 3 ?_; exact ⟨rfl, rfl⟩)
theorem indexRanks (x : Hist) (l : List (Int × Int × Int)) (vs : List Ver) (lb : Big x) (hl : l.length ≤ 4611686018427387904) (hv : vs.length ≤ 4611686018427387904) : ACall Tryz.prog 5 [.agg (histC x), trisA l, versA vs] (.glob 1 112 limitsC :: .glob 2 234 firstC :: .glob 3 237 acceptC :: .glob 0 102 asksC :: []) (fun r h' => h' = .glob 1 112 limitsC :: .glob 2 234 firstC :: .glob 3 237 acceptC :: .glob 0 102 asksC :: [] ∧ r = bv true) := by
  by_cases hc : checkI (ownX x) = 0
  · exact ranksY x l vs lb hl hv hc
  · exact ranksN x l vs lb hl hv hc
end Go.Proofs
