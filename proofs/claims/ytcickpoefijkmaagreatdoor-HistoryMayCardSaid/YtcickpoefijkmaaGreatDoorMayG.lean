/- The walk of the reference's test of an event. Conditions: none. -/
import Derived.Test.YtcickpoefijkmaaGreatDoorMayF
set_option linter.unusedVariables false
set_option linter.unusedSimpArgs false
set_option maxRecDepth 10000
namespace Go.Proofs
open Go Go.Ab
attribute [local irreducible] QR QV OE aops aw dsoup dsoupM dalloc dallocM thn inBlk
open Go.H
theorem refRightEv (h : Hist) (e : Ev) (hl : e.scan.length ≤ 4611686018427387904) : ACall Tryz.prog 48 [.agg (histC h), .agg (evR e)] [] (fun r h' => h' = [] ∧ r = bv (rightEv h e)) := by
  refine acall_of_aw Tryz.func48 rfl rfl rfl ?_
  refine rn ?_
  refine aops_e rfl (oe_box rfl rfl rfl fun b2 => ?_)
  refine aops_e rfl (oe_box rfl rfl rfl fun b3 => ?_)
  refine rn ?_
  refine qv rfl rfl (qv_call rfl rfl (pcall (refIs _ _) (Sbs.refl _))) ?_
  refine rn ?_
  refine aw_cond rfl (fun hc16 => ?_) (fun hc16 => ?_)
  · refine rn ?_
    exact retq (.cons _ _ _ _ (.tmp _ _ rfl) .nil) (.drop [_, _] _ _) ⟨rfl, congrArg bv (by first | (simp only [rightEv, bareE, *, Bool.true_and, Bool.false_and, Bool.and_false, Bool.and_true, Bool.true_or, Bool.or_false, Bool.false_or, Bool.or_true, if_true, if_false, Bool.false_eq_true, Bool.not_true, Bool.not_false]; done) | (simp_all [rightEv, bareE]; done) | (simp_all [rightEv, bareE] <;> omega))⟩
  · refine rn ?_
    refine aops_e rfl (oe_alloc rfl fun b6 => ?_)
    refine rn ?_
    refine aw_cond rfl (fun hc24 => ?_) (fun hc24 => ?_)
    · refine rn ?_
      refine aw_drawS 6 [(b6, 39, _)] rfl (List.perm_append_comm (l₁ := [_])) ?_
      refine rn ?_
      refine dw 0 rfl rfl rfl rfl rfl (Nat.le_of_ble_eq_true rfl) ?_
      refine rn2 ?_
      show aops _ _ _ _ _ _ ⟨_, .box b6 39 [iv e.kind, iv e.t, iv e.s, iv 0, iv 0, iv 0, iv 0, iv 0, .v (.slice none 0 0)] :: .box b3 39 (evR e) :: .box b2 28 (histC h) :: [], _⟩
      refine rn0 ?_
      refine aw_seq ?_
      show aw _ _ _ _ _ ⟨_, .box b6 39 [iv e.kind, iv e.t, iv e.s, iv e.l, iv 0, iv 0, iv 0, iv 0, .v (.slice none 0 0)] :: .box b3 39 (evR e) :: .box b2 28 (histC h) :: [], _⟩
      refine rn ?_
      refine qv rfl rfl (qv_call rfl rfl (pcall (refEvent ⟨e.kind, e.t, e.s, e.l, 0, ⟨0, 0⟩, 0, []⟩ e (by simp [hl]) hl) (by exact ⟨(by exact Sb.aggs (by exact ⟨.refl _, .refl _, .refl _, .refl _, .refl _, .refl _, .refl _, .refl _, .nil _ _, trivial⟩)), .refl _, trivial⟩))) ?_
      refine rn ?_
      refine asplit (fun hg8_3 => ?_) (fun hg8_3 => ?_)
      · refine rn ?_
        refine qv rfl rfl (qv_call rfl rfl (pcall (refIs _ _) (Sbs.refl _))) ?_
        refine rn ?_
        refine asplit (fun hg8_11 => ?_) (fun hg8_11 => ?_)
        · refine rn ?_
          refine qv rfl rfl (qv_call rfl rfl (pcall (ref9 _) (Sbs.refl _))) ?_
          refine rn ?_
          exact retq (.cons _ _ _ _ (.tmp _ _ rfl) .nil) (.drop [_, _, _] _ _) ⟨rfl, congrArg bv (by first | (simp only [rightEv, bareE, *, Bool.true_and, Bool.false_and, Bool.and_false, Bool.and_true, Bool.true_or, Bool.or_false, Bool.false_or, Bool.or_true, if_true, if_false, Bool.false_eq_true, Bool.not_true, Bool.not_false]; done) | (simp_all [rightEv, bareE]; done) | (simp_all [rightEv, bareE] <;> omega))⟩
        · refine rn ?_
          exact retq (.cons _ _ _ _ (.tmp _ _ rfl) .nil) (.drop [_, _, _] _ _) ⟨rfl, congrArg bv (by first | (simp only [rightEv, bareE, *, Bool.true_and, Bool.false_and, Bool.and_false, Bool.and_true, Bool.true_or, Bool.or_false, Bool.false_or, Bool.or_true, if_true, if_false, Bool.false_eq_true, Bool.not_true, Bool.not_false]; done) | (simp_all [rightEv, bareE]; done) | (simp_all [rightEv, bareE] <;> omega))⟩
      · refine rn ?_
        exact retq (.cons _ _ _ _ (.tmp _ _ rfl) .nil) (.drop [_, _, _] _ _) ⟨rfl, congrArg bv (by first | (simp only [rightEv, bareE, *, Bool.true_and, Bool.false_and, Bool.and_false, Bool.and_true, Bool.true_or, Bool.or_false, Bool.false_or, Bool.or_true, if_true, if_false, Bool.false_eq_true, Bool.not_true, Bool.not_false]; done) | (simp_all [rightEv, bareE]; done) | (simp_all [rightEv, bareE] <;> omega))⟩
    · refine rn ?_
      refine aw_cond rfl (fun hc48 => ?_) (fun hc48 => ?_)
      · refine rn ?_
        refine aw_cond rfl (fun hc48 => ?_) (fun hc48 => ?_)
        · refine rn ?_
          refine aw_drawS 6 [(b6, 39, _)] rfl (List.perm_append_comm (l₁ := [_])) ?_
          refine rn ?_
          refine dw 0 rfl rfl rfl rfl rfl (Nat.le_of_ble_eq_true rfl) ?_
          refine rn2 ?_
          show aops _ _ _ _ _ _ ⟨_, .box b6 39 [iv e.kind, iv e.t, iv 0, iv 0, iv e.o, iv 0, iv 0, iv 0, .v (.slice none 0 0)] :: .box b3 39 (evR e) :: .box b2 28 (histC h) :: [], _⟩
          refine rn0 ?_
          refine aw_seq ?_
          refine aw_seq ?_
          show aw _ _ _ _ _ ⟨_, .box b6 39 [iv e.kind, iv e.t, iv 0, iv 0, iv e.o, iv e.v.t, iv e.v.k, iv 0, .v (.slice none 0 0)] :: .box b3 39 (evR e) :: .box b2 28 (histC h) :: [], _⟩
          refine rn ?_
          refine asplit (fun hg12_3 => ?_) (fun hg12_3 => ?_)
          · refine rn ?_
            refine asplit (fun hg12_8 => ?_) (fun hg12_8 => ?_)
            · refine rn ?_
              refine aw_ct rfl ?_
              refine rn ?_
              exact retq (.cons _ _ _ _ (.tmp _ _ rfl) .nil) (.drop [_, _, _] _ _) ⟨rfl, congrArg bv (by first | (simp only [rightEv, bareE, *, Bool.true_and, Bool.false_and, Bool.and_false, Bool.and_true, Bool.true_or, Bool.or_false, Bool.false_or, Bool.or_true, if_true, if_false, Bool.false_eq_true, Bool.not_true, Bool.not_false]; done) | (simp_all [rightEv, bareE]; done) | (simp_all [rightEv, bareE] <;> omega))⟩
            · refine rn ?_
              refine aw_cond rfl (fun hc73 => ?_) (fun hc73 => ?_)
              · refine rn ?_
                exact retq (.cons _ _ _ _ (.tmp _ _ rfl) .nil) (.drop [_, _, _] _ _) ⟨rfl, congrArg bv (by first | (simp only [rightEv, bareE, *, Bool.true_and, Bool.false_and, Bool.and_false, Bool.and_true, Bool.true_or, Bool.or_false, Bool.false_or, Bool.or_true, if_true, if_false, Bool.false_eq_true, Bool.not_true, Bool.not_false]; done) | (simp_all [rightEv, bareE]; done) | (simp_all [rightEv, bareE] <;> omega))⟩
              · refine rn ?_
                refine qv rfl rfl (qv_call rfl rfl (pcall (refEvent ⟨e.kind, e.t, 0, 0, e.o, e.v, 0, []⟩ e (by simp [hl]) hl) (by exact ⟨(by exact Sb.aggs (by exact ⟨.refl _, .refl _, .refl _, .refl _, .refl _, .refl _, .refl _, .refl _, .nil _ _, trivial⟩)), .refl _, trivial⟩))) ?_
                refine rn ?_
                refine asplit (fun hg14_3 => ?_) (fun hg14_3 => ?_)
                · refine rn ?_
                  refine qv rfl rfl (qv_call rfl rfl (pcall (refIs _ _) (Sbs.refl _))) ?_
                  refine rn ?_
                  refine asplit (fun hg14_11 => ?_) (fun hg14_11 => ?_)
                  · refine rn ?_
                    refine qv rfl rfl (qv_call rfl rfl (pcall (refVersion e.v _) (Sbs.refl _))) ?_
                    refine rn ?_
                    exact retq (.cons _ _ _ _ (.tmp _ _ rfl) .nil) (.drop [_, _, _] _ _) ⟨rfl, congrArg bv (by first | (simp only [rightEv, bareE, *, Bool.true_and, Bool.false_and, Bool.and_false, Bool.and_true, Bool.true_or, Bool.or_false, Bool.false_or, Bool.or_true, if_true, if_false, Bool.false_eq_true, Bool.not_true, Bool.not_false]; done) | (simp_all [rightEv, bareE]; done) | (simp_all [rightEv, bareE] <;> omega))⟩
                  · refine rn ?_
                    exact retq (.cons _ _ _ _ (.tmp _ _ rfl) .nil) (.drop [_, _, _] _ _) ⟨rfl, congrArg bv (by first | (simp only [rightEv, bareE, *, Bool.true_and, Bool.false_and, Bool.and_false, Bool.and_true, Bool.true_or, Bool.or_false, Bool.false_or, Bool.or_true, if_true, if_false, Bool.false_eq_true, Bool.not_true, Bool.not_false]; done) | (simp_all [rightEv, bareE]; done) | (simp_all [rightEv, bareE] <;> omega))⟩
                · refine rn ?_
                  exact retq (.cons _ _ _ _ (.tmp _ _ rfl) .nil) (.drop [_, _, _] _ _) ⟨rfl, congrArg bv (by first | (simp only [rightEv, bareE, *, Bool.true_and, Bool.false_and, Bool.and_false, Bool.and_true, Bool.true_or, Bool.or_false, Bool.false_or, Bool.or_true, if_true, if_false, Bool.false_eq_true, Bool.not_true, Bool.not_false]; done) | (simp_all [rightEv, bareE]; done) | (simp_all [rightEv, bareE] <;> omega))⟩
          · refine rn ?_
            refine aw_cf rfl ?_
            refine rn ?_
            refine qv rfl rfl (qv_call rfl rfl (pcall (refEvent ⟨e.kind, e.t, 0, 0, e.o, e.v, 0, []⟩ e (by simp [hl]) hl) (by exact ⟨(by exact Sb.aggs (by exact ⟨.refl _, .refl _, .refl _, .refl _, .refl _, .refl _, .refl _, .refl _, .nil _ _, trivial⟩)), .refl _, trivial⟩))) ?_
            refine rn ?_
            refine asplit (fun hg14_3 => ?_) (fun hg14_3 => ?_)
            · refine rn ?_
              refine qv rfl rfl (qv_call rfl rfl (pcall (refIs _ _) (Sbs.refl _))) ?_
              refine rn ?_
              refine asplit (fun hg14_11 => ?_) (fun hg14_11 => ?_)
              · refine rn ?_
                refine qv rfl rfl (qv_call rfl rfl (pcall (refVersion e.v _) (Sbs.refl _))) ?_
                refine rn ?_
                exact retq (.cons _ _ _ _ (.tmp _ _ rfl) .nil) (.drop [_, _, _] _ _) ⟨rfl, congrArg bv (by first | (simp only [rightEv, bareE, *, Bool.true_and, Bool.false_and, Bool.and_false, Bool.and_true, Bool.true_or, Bool.or_false, Bool.false_or, Bool.or_true, if_true, if_false, Bool.false_eq_true, Bool.not_true, Bool.not_false]; done) | (simp_all [rightEv, bareE]; done) | (simp_all [rightEv, bareE] <;> omega))⟩
              · refine rn ?_
                exact retq (.cons _ _ _ _ (.tmp _ _ rfl) .nil) (.drop [_, _, _] _ _) ⟨rfl, congrArg bv (by first | (simp only [rightEv, bareE, *, Bool.true_and, Bool.false_and, Bool.and_false, Bool.and_true, Bool.true_or, Bool.or_false, Bool.false_or, Bool.or_true, if_true, if_false, Bool.false_eq_true, Bool.not_true, Bool.not_false]; done) | (simp_all [rightEv, bareE]; done) | (simp_all [rightEv, bareE] <;> omega))⟩
            · refine rn ?_
              exact retq (.cons _ _ _ _ (.tmp _ _ rfl) .nil) (.drop [_, _, _] _ _) ⟨rfl, congrArg bv (by first | (simp only [rightEv, bareE, *, Bool.true_and, Bool.false_and, Bool.and_false, Bool.and_true, Bool.true_or, Bool.or_false, Bool.false_or, Bool.or_true, if_true, if_false, Bool.false_eq_true, Bool.not_true, Bool.not_false]; done) | (simp_all [rightEv, bareE]; done) | (simp_all [rightEv, bareE] <;> omega))⟩
        · first | cases hc48 | exact absurd hc48 (by decide) | (exfalso; simp_all; done)
      · refine rn ?_
        refine aw_cond rfl (fun hc48 => ?_) (fun hc48 => ?_)
        · refine rn ?_
          refine aw_drawS 6 [(b6, 39, _)] rfl (List.perm_append_comm (l₁ := [_])) ?_
          refine rn ?_
          refine dw 0 rfl rfl rfl rfl rfl (Nat.le_of_ble_eq_true rfl) ?_
          refine rn2 ?_
          show aops _ _ _ _ _ _ ⟨_, .box b6 39 [iv e.kind, iv e.t, iv 0, iv 0, iv e.o, iv 0, iv 0, iv 0, .v (.slice none 0 0)] :: .box b3 39 (evR e) :: .box b2 28 (histC h) :: [], _⟩
          refine rn0 ?_
          refine aw_seq ?_
          refine aw_seq ?_
          show aw _ _ _ _ _ ⟨_, .box b6 39 [iv e.kind, iv e.t, iv 0, iv 0, iv e.o, iv e.v.t, iv e.v.k, iv 0, .v (.slice none 0 0)] :: .box b3 39 (evR e) :: .box b2 28 (histC h) :: [], _⟩
          refine rn ?_
          refine asplit (fun hg12_3 => ?_) (fun hg12_3 => ?_)
          · refine rn ?_
            refine asplit (fun hg12_8 => ?_) (fun hg12_8 => ?_)
            · refine rn ?_
              refine aw_ct rfl ?_
              refine rn ?_
              exact retq (.cons _ _ _ _ (.tmp _ _ rfl) .nil) (.drop [_, _, _] _ _) ⟨rfl, congrArg bv (by first | (simp only [rightEv, bareE, *, Bool.true_and, Bool.false_and, Bool.and_false, Bool.and_true, Bool.true_or, Bool.or_false, Bool.false_or, Bool.or_true, if_true, if_false, Bool.false_eq_true, Bool.not_true, Bool.not_false]; done) | (simp_all [rightEv, bareE]; done) | (simp_all [rightEv, bareE] <;> omega))⟩
            · refine rn ?_
              refine aw_cond rfl (fun hc73 => ?_) (fun hc73 => ?_)
              · refine rn ?_
                exact retq (.cons _ _ _ _ (.tmp _ _ rfl) .nil) (.drop [_, _, _] _ _) ⟨rfl, congrArg bv (by first | (simp only [rightEv, bareE, *, Bool.true_and, Bool.false_and, Bool.and_false, Bool.and_true, Bool.true_or, Bool.or_false, Bool.false_or, Bool.or_true, if_true, if_false, Bool.false_eq_true, Bool.not_true, Bool.not_false]; done) | (simp_all [rightEv, bareE]; done) | (simp_all [rightEv, bareE] <;> omega))⟩
              · refine rn ?_
                refine qv rfl rfl (qv_call rfl rfl (pcall (refEvent ⟨e.kind, e.t, 0, 0, e.o, e.v, 0, []⟩ e (by simp [hl]) hl) (by exact ⟨(by exact Sb.aggs (by exact ⟨.refl _, .refl _, .refl _, .refl _, .refl _, .refl _, .refl _, .refl _, .nil _ _, trivial⟩)), .refl _, trivial⟩))) ?_
                refine rn ?_
                refine asplit (fun hg14_3 => ?_) (fun hg14_3 => ?_)
                · refine rn ?_
                  refine qv rfl rfl (qv_call rfl rfl (pcall (refIs _ _) (Sbs.refl _))) ?_
                  refine rn ?_
                  refine asplit (fun hg14_11 => ?_) (fun hg14_11 => ?_)
                  · refine rn ?_
                    refine qv rfl rfl (qv_call rfl rfl (pcall (refVersion e.v _) (Sbs.refl _))) ?_
                    refine rn ?_
                    exact retq (.cons _ _ _ _ (.tmp _ _ rfl) .nil) (.drop [_, _, _] _ _) ⟨rfl, congrArg bv (by first | (simp only [rightEv, bareE, *, Bool.true_and, Bool.false_and, Bool.and_false, Bool.and_true, Bool.true_or, Bool.or_false, Bool.false_or, Bool.or_true, if_true, if_false, Bool.false_eq_true, Bool.not_true, Bool.not_false]; done) | (simp_all [rightEv, bareE]; done) | (simp_all [rightEv, bareE] <;> omega))⟩
                  · refine rn ?_
                    exact retq (.cons _ _ _ _ (.tmp _ _ rfl) .nil) (.drop [_, _, _] _ _) ⟨rfl, congrArg bv (by first | (simp only [rightEv, bareE, *, Bool.true_and, Bool.false_and, Bool.and_false, Bool.and_true, Bool.true_or, Bool.or_false, Bool.false_or, Bool.or_true, if_true, if_false, Bool.false_eq_true, Bool.not_true, Bool.not_false]; done) | (simp_all [rightEv, bareE]; done) | (simp_all [rightEv, bareE] <;> omega))⟩
                · refine rn ?_
                  exact retq (.cons _ _ _ _ (.tmp _ _ rfl) .nil) (.drop [_, _, _] _ _) ⟨rfl, congrArg bv (by first | (simp only [rightEv, bareE, *, Bool.true_and, Bool.false_and, Bool.and_false, Bool.and_true, Bool.true_or, Bool.or_false, Bool.false_or, Bool.or_true, if_true, if_false, Bool.false_eq_true, Bool.not_true, Bool.not_false]; done) | (simp_all [rightEv, bareE]; done) | (simp_all [rightEv, bareE] <;> omega))⟩
          · refine rn ?_
            refine aw_cf rfl ?_
            refine rn ?_
            refine qv rfl rfl (qv_call rfl rfl (pcall (refEvent ⟨e.kind, e.t, 0, 0, e.o, e.v, 0, []⟩ e (by simp [hl]) hl) (by exact ⟨(by exact Sb.aggs (by exact ⟨.refl _, .refl _, .refl _, .refl _, .refl _, .refl _, .refl _, .refl _, .nil _ _, trivial⟩)), .refl _, trivial⟩))) ?_
            refine rn ?_
            refine asplit (fun hg14_3 => ?_) (fun hg14_3 => ?_)
            · refine rn ?_
              refine qv rfl rfl (qv_call rfl rfl (pcall (refIs _ _) (Sbs.refl _))) ?_
              refine rn ?_
              refine asplit (fun hg14_11 => ?_) (fun hg14_11 => ?_)
              · refine rn ?_
                refine qv rfl rfl (qv_call rfl rfl (pcall (refVersion e.v _) (Sbs.refl _))) ?_
                refine rn ?_
                exact retq (.cons _ _ _ _ (.tmp _ _ rfl) .nil) (.drop [_, _, _] _ _) ⟨rfl, congrArg bv (by first | (simp only [rightEv, bareE, *, Bool.true_and, Bool.false_and, Bool.and_false, Bool.and_true, Bool.true_or, Bool.or_false, Bool.false_or, Bool.or_true, if_true, if_false, Bool.false_eq_true, Bool.not_true, Bool.not_false]; done) | (simp_all [rightEv, bareE]; done) | (simp_all [rightEv, bareE] <;> omega))⟩
              · refine rn ?_
                exact retq (.cons _ _ _ _ (.tmp _ _ rfl) .nil) (.drop [_, _, _] _ _) ⟨rfl, congrArg bv (by first | (simp only [rightEv, bareE, *, Bool.true_and, Bool.false_and, Bool.and_false, Bool.and_true, Bool.true_or, Bool.or_false, Bool.false_or, Bool.or_true, if_true, if_false, Bool.false_eq_true, Bool.not_true, Bool.not_false]; done) | (simp_all [rightEv, bareE]; done) | (simp_all [rightEv, bareE] <;> omega))⟩
            · refine rn ?_
              exact retq (.cons _ _ _ _ (.tmp _ _ rfl) .nil) (.drop [_, _, _] _ _) ⟨rfl, congrArg bv (by first | (simp only [rightEv, bareE, *, Bool.true_and, Bool.false_and, Bool.and_false, Bool.and_true, Bool.true_or, Bool.or_false, Bool.false_or, Bool.or_true, if_true, if_false, Bool.false_eq_true, Bool.not_true, Bool.not_false]; done) | (simp_all [rightEv, bareE]; done) | (simp_all [rightEv, bareE] <;> omega))⟩
        · refine rn ?_
          refine aw_cond rfl (fun hc91 => ?_) (fun hc91 => ?_)
          · refine rn ?_
            refine aw_drawS 6 [(b6, 39, _)] rfl (List.perm_append_comm (l₁ := [_])) ?_
            refine rn ?_
            refine dw 0 rfl rfl rfl rfl rfl (Nat.le_of_ble_eq_true rfl) ?_
            refine rn2 ?_
            show aops _ _ _ _ _ _ ⟨_, .box b6 39 [iv e.kind, iv e.t, iv 0, iv 0, iv 0, iv 0, iv 0, iv e.p, .v (.slice none 0 0)] :: .box b3 39 (evR e) :: .box b2 28 (histC h) :: [], _⟩
            refine rn0 ?_
            refine aw_seq ?_
            refine aw_seq ?_
            show aw _ _ _ _ _ ⟨_, .box b6 39 [iv e.kind, iv e.t, iv 0, iv 0, iv 0, iv 0, iv 0, iv e.p, seensA e.scan] :: .box b3 39 (evR e) :: .box b2 28 (histC h) :: [], _⟩
            refine rn ?_
            refine aw_loop' (fun k : Nat => k ≤ e.scan.length ∧ e.scan.all (rightSeen h) = (e.scan.drop k).all (rightSeen h)) (fun k => ⟨[(102, iv k), (101, iv (e.scan.map seenR).length), (100, seensA e.scan), (2, .v (.pointer (some ⟨b2, 0, none⟩))), (3, .v (.pointer (some ⟨b3, 0, none⟩))), (6, .v (.pointer (some ⟨b6, 0, none⟩))), (5, iv (h.ts.map strR).length)], [.box b6 39 (evR ⟨e.kind, e.t, 0, 0, 0, ⟨0, 0⟩, e.p, e.scan⟩), .box b3 39 (evR e), .box b2 28 (histC h)], []⟩) (fun k => e.scan.length - k) 0 ⟨Nat.zero_le _, by simp⟩
              (ent_sub (.cons _ _ _ rfl (.cons _ _ _ rfl (.cons _ _ _ rfl (.cons _ _ _ rfl (.cons _ _ _ rfl (.cons _ _ _ rfl (.cons _ _ _ rfl (.nil))))))))) ?_
            rintro k ⟨hk, hz⟩
            refine rn ?_
            refine aw_cond rfl (fun hc103 => ?_) (fun hc103 => ?_)
            · have hk2 : k < e.scan.length := by simpa using hc103
              obtain ⟨s, hs⟩ : ∃ s, s = e.scan[k] := ⟨_, rfl⟩
              have hrow : (e.scan.map seenR)[k]? = some (seenR s) := by rw [hs]; simp [hk2]
              have hd := List.drop_eq_getElem_cons hk2
              rw [← hs] at hd
              refine rn ?_
              refine aops_e rfl (oe_alloc rfl fun b8 => ?_)
              refine rn ?_
              refine qv rfl rfl (qv_call rfl rfl (pcall (refIs _ _) (Sbs.refl _))) ?_
              refine rn ?_
              refine asplit (fun hg20_7 => ?_) (fun hg20_7 => ?_)
              · refine rn ?_
                refine aw_ct rfl ?_
                have hx : rightSeen h s = false := by clear hz hd hrow hs hc103 hk2 hk; simp_all [rightSeen]
                have hall : e.scan.all (rightSeen h) = false := by rw [hz, hd, List.all_cons, hx, Bool.false_and]
                clear hz hd hx hrow
                refine rn ?_
                exact retq (.cons _ _ _ _ (.tmp _ _ rfl) .nil) (.drop [_, _, _, _] _ _) ⟨rfl, congrArg bv (by first | (simp only [rightEv, bareE, *, Bool.true_and, Bool.false_and, Bool.and_false, Bool.and_true, Bool.true_or, Bool.or_false, Bool.false_or, Bool.or_true, if_true, if_false, Bool.false_eq_true, Bool.not_true, Bool.not_false]; done) | (simp_all [rightEv, bareE]; done) | (simp_all [rightEv, bareE] <;> omega))⟩
              · refine rn ?_
                refine qv rfl rfl (qv_call rfl rfl (pcall (refVersion s.v _) (Sbs.refl _))) ?_
                refine rn ?_
                refine aw_cond rfl (fun hc119 => ?_) (fun hc119 => ?_)
                · have hx : rightSeen h s = false := by clear hz hd hrow hs hc103 hk2 hk; simp_all [rightSeen]
                  have hall : e.scan.all (rightSeen h) = false := by rw [hz, hd, List.all_cons, hx, Bool.false_and]
                  clear hz hd hx hrow
                  refine rn ?_
                  exact retq (.cons _ _ _ _ (.tmp _ _ rfl) .nil) (.drop [_, _, _, _] _ _) ⟨rfl, congrArg bv (by first | (simp only [rightEv, bareE, *, Bool.true_and, Bool.false_and, Bool.and_false, Bool.and_true, Bool.true_or, Bool.or_false, Bool.false_or, Bool.or_true, if_true, if_false, Bool.false_eq_true, Bool.not_true, Bool.not_false]; done) | (simp_all [rightEv, bareE]; done) | (simp_all [rightEv, bareE] <;> omega))⟩
                · have hx : rightSeen h s = true := by clear hz hd hrow hs hc103 hk2 hk; simp_all [rightSeen]
                  refine rn ?_
                  exact ⟨k + 1, ⟨by omega, by rw [hz, hd, List.all_cons, hx, Bool.true_and]⟩, (ent_trans (ent_drop (h1 := [_])) (ent_sub (.cons _ _ _ rfl (.cons _ _ _ rfl (.cons _ _ _ rfl (.cons _ _ _ rfl (.cons _ _ _ rfl (.cons _ _ _ rfl (.cons _ _ _ rfl (.nil)))))))))), by omega⟩
            · have hk3 : k = e.scan.length := by
                have : e.scan.length ≤ k := by simpa using hc103
                omega
              rw [hk3, List.drop_length, List.all_nil] at hz
              refine rn ?_
              refine qv rfl rfl (qv_call rfl rfl (pcall (refEvent ⟨e.kind, e.t, 0, 0, 0, ⟨0, 0⟩, e.p, e.scan⟩ e (by simp [hl]) hl) (by exact ⟨(by exact Sb.aggs (by exact ⟨.refl _, .refl _, .refl _, .refl _, .refl _, .refl _, .refl _, .refl _, .refl _, trivial⟩)), .refl _, trivial⟩))) ?_
              refine rn ?_
              refine asplit (fun hg23_3 => ?_) (fun hg23_3 => ?_)
              · refine rn ?_
                refine qv rfl rfl (qv_call rfl rfl (pcall (refIs _ _) (Sbs.refl _))) ?_
                refine rn ?_
                refine asplit (fun hg23_11 => ?_) (fun hg23_11 => ?_)
                · refine rn ?_
                  exact retq (.cons _ _ _ _ (.tmp _ _ rfl) .nil) (.drop [_, _, _] _ _) ⟨rfl, congrArg bv (by first | (simp only [rightEv, bareE, *, Bool.true_and, Bool.false_and, Bool.and_false, Bool.and_true, Bool.true_or, Bool.or_false, Bool.false_or, Bool.or_true, if_true, if_false, Bool.false_eq_true, Bool.not_true, Bool.not_false]; done) | (simp_all [rightEv, bareE]; done) | (simp_all [rightEv, bareE] <;> omega))⟩
                · refine rn ?_
                  exact retq (.cons _ _ _ _ (.tmp _ _ rfl) .nil) (.drop [_, _, _] _ _) ⟨rfl, congrArg bv (by first | (simp only [rightEv, bareE, *, Bool.true_and, Bool.false_and, Bool.and_false, Bool.and_true, Bool.true_or, Bool.or_false, Bool.false_or, Bool.or_true, if_true, if_false, Bool.false_eq_true, Bool.not_true, Bool.not_false]; done) | (simp_all [rightEv, bareE]; done) | (simp_all [rightEv, bareE] <;> omega))⟩
              · refine rn ?_
                exact retq (.cons _ _ _ _ (.tmp _ _ rfl) .nil) (.drop [_, _, _] _ _) ⟨rfl, congrArg bv (by first | (simp only [rightEv, bareE, *, Bool.true_and, Bool.false_and, Bool.and_false, Bool.and_true, Bool.true_or, Bool.or_false, Bool.false_or, Bool.or_true, if_true, if_false, Bool.false_eq_true, Bool.not_true, Bool.not_false]; done) | (simp_all [rightEv, bareE]; done) | (simp_all [rightEv, bareE] <;> omega))⟩
          · refine rn ?_
            refine qv rfl rfl (qv_call rfl rfl (pcall (refEvent ⟨e.kind, e.t, 0, 0, 0, ⟨0, 0⟩, 0, []⟩ e (by simp [hl]) hl) (by exact ⟨(by exact Sb.aggs (by exact ⟨.refl _, .refl _, .refl _, .refl _, .refl _, .refl _, .refl _, .refl _, .nil _ _, trivial⟩)), .refl _, trivial⟩))) ?_
            refine rn ?_
            refine asplit (fun hg24_3 => ?_) (fun hg24_3 => ?_)
            · refine rn ?_
              refine asplit (fun hg24_7 => ?_) (fun hg24_7 => ?_)
              · refine rn ?_
                exact retq (.cons _ _ _ _ (.tmp _ _ rfl) .nil) (.drop [_, _, _] _ _) ⟨rfl, congrArg bv (by first | (simp only [rightEv, bareE, *, Bool.true_and, Bool.false_and, Bool.and_false, Bool.and_true, Bool.true_or, Bool.or_false, Bool.false_or, Bool.or_true, if_true, if_false, Bool.false_eq_true, Bool.not_true, Bool.not_false]; done) | (simp_all [rightEv, bareE]; done) | (simp_all [rightEv, bareE] <;> omega))⟩
              · refine rn ?_
                exact retq (.cons _ _ _ _ (.tmp _ _ rfl) .nil) (.drop [_, _, _] _ _) ⟨rfl, congrArg bv (by first | (simp only [rightEv, bareE, *, Bool.true_and, Bool.false_and, Bool.and_false, Bool.and_true, Bool.true_or, Bool.or_false, Bool.false_or, Bool.or_true, if_true, if_false, Bool.false_eq_true, Bool.not_true, Bool.not_false]; done) | (simp_all [rightEv, bareE]; done) | (simp_all [rightEv, bareE] <;> omega))⟩
            · refine rn ?_
              exact retq (.cons _ _ _ _ (.tmp _ _ rfl) .nil) (.drop [_, _, _] _ _) ⟨rfl, congrArg bv (by first | (simp only [rightEv, bareE, *, Bool.true_and, Bool.false_and, Bool.and_false, Bool.and_true, Bool.true_or, Bool.or_false, Bool.false_or, Bool.or_true, if_true, if_false, Bool.false_eq_true, Bool.not_true, Bool.not_false]; done) | (simp_all [rightEv, bareE]; done) | (simp_all [rightEv, bareE] <;> omega))⟩
end Go.Proofs
/- The abstract logic, part 27: short words for what ends a piece of a walk. Conditions: none (lemmas over any program). -/
set_option linter.unusedVariables false
namespace Go.Ab
open Go
section
variable {P : Program} {ro : Option Nat} {nt : Nat} {Q : Exit → St → Prop} {t t' : Fr} {h h' : List Res} {ds : List Nat} {c : Code}
theorem es (hs : SubF t t' := by repeat (first | exact .nil | refine .cons _ _ _ rfl ?_)) : Ent nt ⟨t, h, ds⟩ ⟨t', h, ds⟩ := ent_sub hs
theorem ed (n : Nat) (hd : h.drop n = h' := by rfl) (hs : SubF t t' := by repeat (first | exact .nil | refine .cons _ _ _ rfl ?_)) : Ent nt ⟨t, h, ds⟩ ⟨t', h', ds⟩ := by
  subst hd
  refine ent_trans ?_ (ent_sub hs)
  have := ent_drop (nt := nt) (t := t) (h1 := h.take n) (h2 := h.drop n) (ds := ds)
  rwa [List.take_append_drop] at this
theorem vdrop (n : Nat) (a : AV) : VEnt h a (h.drop n) a := by
  have := VEnt.drop (h.take n) (h.drop n) a
  rwa [List.take_append_drop] at this
theorem rq (n : Nat) {rs : List ResultVar} {R : AV → List Res → Prop} {av : List AV} (hR : R (packAV av) (h.drop n)) (hr : RVs P t h rs av := by first | exact .cons _ _ _ _ (.tmp _ _ rfl) .nil | exact .cons _ _ _ _ (.tmp _ _ rfl) (.cons _ _ _ _ (.tmp _ _ rfl) .nil) | exact .cons _ _ _ _ (.tmp _ _ rfl) (.cons _ _ _ _ (.tmp _ _ rfl) (.cons _ _ _ _ (.tmp _ _ rfl) .nil)) | exact .cons _ _ _ _ (.tmp _ _ rfl) (.cons _ _ _ _ (.tmp _ _ rfl) (.cons _ _ _ _ (.tmp _ _ rfl) (.cons _ _ _ _ (.tmp _ _ rfl) .nil)))) : RetQ P rs R .ret ⟨t, h, []⟩ :=
  retq hr (vdrop n _) hR
theorem rqn (n : Nat) {rs : List ResultVar} {R : AV → List Res → Prop} {av : List AV} (hR : R (packAV av) (h.drop n)) (hr : RVs P t h rs av := by first | exact .cons _ _ _ _ (.tmp _ _ rfl) .nil | exact .cons _ _ _ _ (.tmp _ _ rfl) (.cons _ _ _ _ (.tmp _ _ rfl) .nil) | exact .cons _ _ _ _ (.tmp _ _ rfl) (.cons _ _ _ _ (.tmp _ _ rfl) (.cons _ _ _ _ (.tmp _ _ rfl) .nil)) | exact .cons _ _ _ _ (.tmp _ _ rfl) (.cons _ _ _ _ (.tmp _ _ rfl) (.cons _ _ _ _ (.tmp _ _ rfl) (.cons _ _ _ _ (.tmp _ _ rfl) .nil)))) : RetQ P rs R .normal ⟨t, h, []⟩ :=
  retq_n hr (vdrop n _) hR
/-- What a truth is, by what is known of its parts. -/
theorem fin {p : Prop} (hp : p := by first | (simp only [*, Bool.true_and, Bool.false_and, Bool.and_false, Bool.and_true, Bool.true_or, Bool.or_false, Bool.false_or, Bool.or_true, if_true, if_false, Bool.false_eq_true, Bool.not_true, Bool.not_false]; done) | (simp_all; done) | (simp_all <;> omega)) : p := hp
/-- Less is known of the frame, and what was made on top is dropped. -/
theorem eA (hs : Ent nt ⟨t, h, ds⟩ ⟨t', h', ds⟩ := by first | exact ed 0 | exact ed 1 | exact ed 2 | exact ed 3 | exact ed 4 | exact ed 5 | exact ed 6) : Ent nt ⟨t, h, ds⟩ ⟨t', h', ds⟩ := hs
/-- A loop over so many places: v is what varies, c stays; the memory stays. -/
theorem aw_rng (n : Nat) (p : Nat → Prop) (v : Nat → Fr) (cs : Fr) (hp : p 0)
    (round : ∀ k, k ≤ n → p k → aw P ro nt c (thn (fun s' => k < n ∧ p (k + 1) ∧ Ent nt s' ⟨v (k + 1) ++ cs, h, ds⟩) Q) ⟨v k ++ cs, h, ds⟩)
    (hs : SubF t (v 0 ++ cs) := by repeat (first | exact .nil | refine .cons _ _ _ rfl ?_)) : aw P ro nt (.loop c) Q ⟨t, h, ds⟩ :=
  aw_loop' (fun k => k ≤ n ∧ p k) (fun k => ⟨v k ++ cs, h, ds⟩) (fun k => n - k) 0 ⟨Nat.zero_le _, hp⟩ (ent_sub hs) fun k hk => aw_mono (fun e s' hq => by
    cases e with
    | normal => exact ⟨k + 1, ⟨hq.1, hq.2.1⟩, hq.2.2, by have := hq.1; omega⟩
    | _ => exact hq) (round k hk.1 hk.2)
/-- A loop over so many places. -/
theorem aw_range (n : Nat) (p : Nat → Prop) (inv : Nat → St) (hp : p 0) (h0 : Ent nt ⟨t, h, ds⟩ (inv 0))
    (round : ∀ k, k ≤ n → p k → aw P ro nt c (thn (fun s' => k < n ∧ p (k + 1) ∧ Ent nt s' (inv (k + 1))) Q) (inv k)) : aw P ro nt (.loop c) Q ⟨t, h, ds⟩ :=
  aw_loop' (fun k => k ≤ n ∧ p k) inv (fun k => n - k) 0 ⟨Nat.zero_le _, hp⟩ h0 fun k hk => aw_mono (fun e s' hq => by
    cases e with
    | normal => exact ⟨k + 1, ⟨hq.1, hq.2.1⟩, hq.2.2, by have := hq.1; omega⟩
    | _ => exact hq) (round k hk.1 hk.2)
/-- A loop over so many places, in which a slice changes. -/
theorem aw_rng1 (n : Nat) (inv : Nat → SV → St) (a : SV) (h0 : Ent nt ⟨t, h, ds⟩ (inv 0 a))
    (round : ∀ k a, k ≤ n → aw P ro nt c (thn (fun s' => k < n ∧ ∃ a, Ent nt s' (inv (k + 1) a)) Q) (inv k a)) : aw P ro nt (.loop c) Q ⟨t, h, ds⟩ :=
  aw_loop' (fun x : Nat × SV => x.1 ≤ n) (fun x => inv x.1 x.2) (fun x => n - x.1) (0, a) (Nat.zero_le _) h0 fun x hx => aw_mono (fun e s' hq => by
    cases e with
    | normal =>
      obtain ⟨h1, a', h2⟩ := hq
      exact ⟨(x.1 + 1, a'), h1, h2, by simp only; omega⟩
    | _ => exact hq) (round x.1 x.2 hx)
/-- A loop over so many places, in which four slices change. -/
theorem aw_rng4 (n : Nat) (inv : Nat → SV → SV → SV → SV → St) (a b e f : SV) (h0 : Ent nt ⟨t, h, ds⟩ (inv 0 a b e f))
    (round : ∀ k a b e f, k ≤ n → aw P ro nt c (thn (fun s' => k < n ∧ ∃ a b e f, Ent nt s' (inv (k + 1) a b e f)) Q) (inv k a b e f)) : aw P ro nt (.loop c) Q ⟨t, h, ds⟩ :=
  aw_loop' (fun x : Nat × SV × SV × SV × SV => x.1 ≤ n) (fun x => inv x.1 x.2.1 x.2.2.1 x.2.2.2.1 x.2.2.2.2) (fun x => n - x.1) (0, a, b, e, f) (Nat.zero_le _) h0 fun x hx => aw_mono (fun e s' hq => by
    cases e with
    | normal =>
      obtain ⟨h1, a', b', e', f', h2⟩ := hq
      exact ⟨(x.1 + 1, a', b', e', f'), h1, h2, by simp only; omega⟩
    | _ => exact hq) (round x.1 x.2.1 x.2.2.1 x.2.2.2.1 x.2.2.2.2 hx)
theorem aw_cut4 {x y : Code} {s : St} (m : SV → SV → SV → SV → St) (hh : aw P ro nt x (thn (fun s' => ∃ a b e f, Ent nt s' (m a b e f)) Q) s) (k : ∀ a b e f, aw P ro nt y Q (m a b e f)) : aw P ro nt (.seq x y) Q s :=
  aw_cutE (fun _ : SV × SV × SV × SV => True) (fun x => m x.1 x.2.1 x.2.2.1 x.2.2.2) (aw_mono (fun e s' hq => by
    cases e with
    | normal => obtain ⟨a, b, e, f, h2⟩ := hq; exact ⟨(a, b, e, f), trivial, h2⟩
    | _ => exact hq) hh) fun x _ => k x.1 x.2.1 x.2.2.1 x.2.2.2
/-- A loop that goes on while a number of steps is left. -/
theorem aw_while {σ : Type} (p : σ → Prop) (inv : σ → St) (μ : σ → Nat) (x0 : σ) (hp : p x0) (h0 : Ent nt ⟨t, h, ds⟩ (inv x0))
    (round : ∀ x, p x → aw P ro nt c (thn (fun s' => ∃ x', p x' ∧ Ent nt s' (inv x') ∧ μ x' < μ x) Q) (inv x)) : aw P ro nt (.loop c) Q ⟨t, h, ds⟩ :=
  aw_loop' p inv μ x0 hp h0 round
end
/-- A call that is lent one row of ours, and gives it back. -/
theorem fcall_row {P : Program} {fv : AV} {args : List AV} {s : Value} {i sz : Nat} {T : TypeId} {rows rows' : List (List AV)} {h : List Res} {h' : Res → List Res} [hr : HasRow h s i sz T rows] [hset : ∀ y, SetAt h i y (h' y)]
    (hc : FCall P fv args [.row s sz T rows] (fun r h2 => ∃ s' : SV, h2 = [.row s'.v sz T rows'] ∧ r = .v s'.v)) : FCall P fv args h (fun r h2 => ∃ s' : SV, h2 = h' (.row s'.v sz T rows') ∧ r = .v s'.v) := by
  have hi : i < h.length := (List.getElem?_eq_some_iff.1 hr.h).1
  have hp := get_perm hr.h
  refine (FCall.perm hp (FCall.permR ((FCall.frame (h.eraseIdx i) hc).mono ?_)))
  rintro av h2 ⟨h1', rfl, s', rfl, rfl⟩
  refine ⟨h' (.row s'.v sz T rows'), ?_, s', rfl, rfl⟩
  rw [← (hset (.row s'.v sz T rows')).h]
  exact (set_perm hi).symm
/-- A call that is lent one row of ours, and gives it back in its place. -/
theorem fcall_row0 {P : Program} {fv r0 : AV} {args : List AV} {s : Value} {i sz : Nat} {T : TypeId} {rows rows' : List (List AV)} {h : List Res} {h' : Res → List Res} [hr : HasRow h s i sz T rows] [hset : ∀ y, SetAt h i y (h' y)]
    (hc : FCall P fv args [.row s sz T rows] (fun r h2 => h2 = [.row s sz T rows'] ∧ r = r0)) : FCall P fv args h (fun r h2 => h2 = h' (.row s sz T rows') ∧ r = r0) := by
  have hi : i < h.length := (List.getElem?_eq_some_iff.1 hr.h).1
  have hp := get_perm hr.h
  refine (FCall.perm hp (FCall.permR ((FCall.frame (h.eraseIdx i) hc).mono ?_)))
  rintro av h2 ⟨h1', rfl, rfl, rfl⟩
  refine ⟨h' (.row s sz T rows'), ?_, rfl, rfl⟩
  rw [← (hset (.row s sz T rows')).h]
  exact (set_perm hi).symm
section
variable {P : Program} {h : List Res} {f : Operand → Option AV} {dst : Option Tmp} {ty : TypeId} {pos : String} {after : Array Edge} {g : Option (Nat × Bool)} {x y : Operand}
theorem qr_index_int {T E : TypeId} {full : Bool} {sz : Nat} {i : Int} {rows : List (List AV)} {row : List AV} (hx : f x = some (.list full sz rows)) (hy : f y = some (.v (.int .i64 i))) [Und P T (.slice E)] [Siz P E sz] (h0 : 0 ≤ i)
    (hi : rows[i.toNat]? = some row) : QR P h f ⟨dst, .indexAddr T x y, ty, pos, after, g⟩ (.pp row) := qr_index_list (i := i.toNat) hx (by rw [Int.toNat_of_nonneg h0]; exact hy) hi
end
/-- What is looked at in a loop over a row. -/
theorem atRow {A : Type} {f : A → List AV} {l : List A} {k : Nat} (hk : k < l.length) : (l.map f)[k]? = some (f l[k]) := by simp [hk]
theorem ltMap {A B : Type} {f : A → B} {l : List A} {k : Nat} (h : decide ((k : Int) < ((l.map f).length : Nat)) = true) : k < l.length := by simpa using h
theorem geMap {A B : Type} {f : A → B} {l : List A} {k : Nat} (h : decide ((k : Int) < ((l.map f).length : Nat)) = false) (hk : k ≤ l.length) : k = l.length := by
  have : l.length ≤ k := by simpa using h
  omega
theorem allT {A : Type} {q : A → Bool} {l : List A} {k : Nat} (hk : k < l.length) (hz : l.all q = (l.drop k).all q) (hq : q l[k] = true) : l.all q = (l.drop (k + 1)).all q := by
  rw [hz, List.drop_eq_getElem_cons hk, List.all_cons, hq, Bool.true_and]
theorem allF {A : Type} {q : A → Bool} {l : List A} {k : Nat} (hk : k < l.length) (hq : q l[k] = false) : l.all q = false := by
  cases h : l.all q with
  | false => rfl
  | true => rw [List.all_eq_true] at h; rw [h _ (List.getElem_mem hk)] at hq; cases hq
theorem allE {A : Type} {q : A → Bool} {l : List A} {k : Nat} (hk : k = l.length) (hz : l.all q = (l.drop k).all q) : l.all q = true := by
  rw [hz, hk, List.drop_length]; rfl
end Go.Ab
/- The walk of the reference's first. Conditions: none. -/
set_option linter.unusedVariables false
set_option linter.unusedSimpArgs false
set_option maxRecDepth 10000
namespace Go.Proofs
open Go Go.Ab
attribute [local irreducible] QR QV OE aops aw dsoup dsoupM dalloc dallocM thn inBlk
open Go.H
theorem ref2First (s : ByteArray) : ACall Tryz.prog 119 [sv s] [] (fun r h' => h' = [] ∧ r = .tup [.v (.int .i32 (firstR s).1), iv (firstR s).2]) := by
  refine acall_of_aw Tryz.func119 rfl rfl rfl ?_
  refine rn ?_
  refine aops_e rfl (oe_range_str rfl rfl fun b8 => ?_)
  refine rn ?_
  refine aw_loop' (fun x : Unit => True) (fun x => ⟨[(8, .v (.pointer (some ⟨b8, 0, none⟩))), (0, sv s), (2, .v (.int .i32 0)), (3, iv 0)], [.obj b8 (.stringIter s 0)], []⟩) (fun x => 0) () trivial
    (ent_sub (.cons _ _ _ rfl (.cons _ _ _ rfl (.cons _ _ _ rfl (.cons _ _ _ rfl (.nil)))))) ?_
  rintro _ _
  refine aw_seq (aw_region ?_)
  refine aops_e rfl (oe_next_str rfl rfl (fun hp => ?_) (fun hp => ?_))
  · refine rn ?_
    refine aw_cond rfl (fun hc10 => ?_) (fun hc10 => ?_)
    · first | cases hc10 | exact absurd hc10 (by decide) | (exfalso; simp_all; done)
    · refine rn ?_
      exact retq (.cons _ _ _ _ (.tmp _ _ rfl) (.cons _ _ _ _ (.tmp _ _ rfl) .nil)) (.drop1 _ _ _) ⟨rfl, by first | (rw [firstR, if_pos hp]; rfl) | (rw [firstR, if_neg (by omega)]; split <;> first | rfl | (exfalso; simp_all; done) | (exfalso; simp_all; omega))⟩
  · refine rn ?_
    refine aw_cond rfl (fun hc10 => ?_) (fun hc10 => ?_)
    · refine rn ?_
      refine aw_cond rfl (fun hc14 => ?_) (fun hc14 => ?_)
      · exact absurd hc14 (by decide)
      · refine aw_skip ?_
        refine thn_n ?_
        refine aw_seq (aw_region ?_)
        refine q1 ?_
        refine qq rfl rfl (qr_convert_str rfl) ?_
        refine rn ?_
        refine asplit (fun hg6_2 => ?_) (fun hg6_2 => ?_)
        · refine rn ?_
          refine asplit (fun hg6_6 => ?_) (fun hg6_6 => ?_)
          · refine rn ?_
            refine aw_cond rfl (fun hc29 => ?_) (fun hc29 => ?_)
            · refine rn ?_
              exact retq (.cons _ _ _ _ (.tmp _ _ rfl) (.cons _ _ _ _ (.tmp _ _ rfl) .nil)) (.drop1 _ _ _) ⟨rfl, by first | (rw [firstR, if_pos hp]; rfl) | (rw [firstR, if_neg (by omega)]; split <;> first | rfl | (exfalso; simp_all; done) | (exfalso; simp_all; omega))⟩
            · first | cases hc29 | exact absurd hc29 (by decide) | (exfalso; simp_all; done)
          · refine q1 ?_
            refine qq rfl rfl (qr_slice_string_h (k := 3) rfl rfl (by have := hg6_6; simp at this; omega)) ?_
            refine rn ?_
            refine aw_cond rfl (fun hc29 => ?_) (fun hc29 => ?_)
            · refine rn ?_
              exact retq (.cons _ _ _ _ (.tmp _ _ rfl) (.cons _ _ _ _ (.tmp _ _ rfl) .nil)) (.drop1 _ _ _) ⟨rfl, by first | (rw [firstR, if_pos hp]; rfl) | (rw [firstR, if_neg (by omega)]; split <;> first | rfl | (exfalso; simp_all; done) | (exfalso; simp_all; omega))⟩
            · refine rn ?_
              exact retq (.cons _ _ _ _ (.tmp _ _ rfl) (.cons _ _ _ _ (.tmp _ _ rfl) .nil)) (.drop1 _ _ _) ⟨rfl, by first | (rw [firstR, if_pos hp]; rfl) | (rw [firstR, if_neg (by omega)]; split <;> first | rfl | (exfalso; simp_all; done) | (exfalso; simp_all; omega))⟩
        · refine rn ?_
          refine aw_cond rfl (fun hc29 => ?_) (fun hc29 => ?_)
          · first | cases hc29 | exact absurd hc29 (by decide) | (exfalso; simp_all; done)
          · refine rn ?_
            exact retq (.cons _ _ _ _ (.tmp _ _ rfl) (.cons _ _ _ _ (.tmp _ _ rfl) .nil)) (.drop1 _ _ _) ⟨rfl, by first | (rw [firstR, if_pos hp]; rfl) | (rw [firstR, if_neg (by omega)]; split <;> first | rfl | (exfalso; simp_all; done) | (exfalso; simp_all; omega))⟩
    · first | cases hc10 | exact absurd hc10 (by decide) | (exfalso; simp_all; done)
end Go.Proofs
/- The walks of the reference's Word and RightNames. Conditions: none. -/
set_option linter.unusedVariables false
set_option linter.unusedSimpArgs false
set_option maxRecDepth 10000
namespace Go.Proofs
open Go Go.Ab
attribute [local irreducible] QR QV OE aops aw dsoup dsoupM dalloc dallocM thn inBlk
open Go.H
theorem ref2FirstN (s : ByteArray) (c n : Int) (h : firstR s = (c, n)) : ACall Tryz.prog 119 [sv s] [] (fun r h' => h' = [] ∧ r = .tup [.v (.int .i32 c), iv n]) :=
  (ref2First s).mono fun _ _ q => ⟨q.1, by rw [q.2, h]⟩
theorem ref2Word (s : ByteArray) : ACall Tryz.prog 82 [sv s] [] (fun r h' => h' = [] ∧ r = bv (wordB s)) := by
  refine acall_of_aw Tryz.func82 rfl rfl rfl ?_
  refine rn ?_
  refine asplit (fun hg1_2 => ?_) (fun hg1_2 => ?_)
  · refine rn ?_
    refine aw_ct rfl ?_
    refine rn ?_
    refine rq 0 ?_
    exact ⟨rfl, congrArg bv (by first | (rw [wordB_eq, ← emptyL, hg1_2]; rfl) | (rw [wordB_eq, decide_eq_false (show ¬ (s.size : Int) ≤ 24 by simp at hc12; omega), Bool.and_false]; rfl))⟩
  · refine rn ?_
    refine aw_cond rfl (fun hc12 => ?_) (fun hc12 => ?_)
    · refine rn ?_
      refine rq 0 ?_
      exact ⟨rfl, congrArg bv (by first | (rw [wordB_eq, ← emptyL, hg1_2]; rfl) | (rw [wordB_eq, decide_eq_false (show ¬ (s.size : Int) ≤ 24 by simp at hc12; omega), Bool.and_false]; rfl))⟩
    · have hlen : s.size ≤ 24 := by simp at hc12; omega
      refine rn ?_
      refine aw_while (fun i : Nat => wordR s 0 = wordR s i ∧ i ≤ 48) (fun i => ⟨[(3, iv i), (0, sv s)], [], []⟩) (fun i => s.size - i) 0 ⟨rfl, by omega⟩ es ?_
      rintro i ⟨hz, hi⟩
      refine rn ?_
      refine aw_cond rfl (fun hc16 => ?_) (fun hc16 => ?_)
      · have h1 : i < s.size := by simpa using hc16
        refine aw_skip ?_
        refine thn_n ?_
        refine aw_block ?_
        refine aw_seq (aw_region ?_)
        refine q1 ?_
        refine q1 ?_
        refine qq rfl rfl (qr_slice_string_l (k := i) rfl rfl (by omega)) ?_
        obtain ⟨c, n, hw, hn1, hn4⟩ := firstR_w h1
        refine qv rfl rfl (qv_call rfl rfl (pcall (ref2FirstN _ c n hw) (Sbs.refl _))) ?_
        refine rn ?_
        refine qv rfl rfl (qv_call rfl rfl (pcall (ref2Letter _) (Sbs.refl _))) ?_
        refine rn ?_
        refine asplit (fun hg6_3 => ?_) (fun hg6_3 => ?_)
        · refine rn ?_
          refine asplit (fun hg6_6 => ?_) (fun hg6_6 => ?_)
          · refine rn ?_
            refine aw_ct rfl ?_
            refine rn ?_
            refine rq 0 ?_
            exact ⟨rfl, congrArg bv (by rw [wordB_eq, hz, wordR_stop h1 hw (by simpa using hg6_3) (by first | exact .inl (by simpa using hg6_6) | exact .inr (by simpa using hc35)), Bool.and_false])⟩
          · refine rn ?_
            refine qv rfl rfl (qv_call rfl rfl (pcall (ref2Digit _) (Sbs.refl _))) ?_
            refine rn ?_
            refine aw_cond rfl (fun hc35 => ?_) (fun hc35 => ?_)
            · refine rn ?_
              refine rq 0 ?_
              exact ⟨rfl, congrArg bv (by rw [wordB_eq, hz, wordR_stop h1 hw (by simpa using hg6_3) (by first | exact .inl (by simpa using hg6_6) | exact .inr (by simpa using hc35)), Bool.and_false])⟩
            · refine rn ?_
              exact ⟨i + n, ⟨hz.trans (wordR_go h1 hw hn1 (.inr ⟨by simpa using hg6_6, by simpa using hc35⟩)), by omega⟩, eA, by omega⟩
        · refine rn ?_
          first | (refine qv rfl rfl (qv_call rfl rfl (pcall (ref2Digit _) (Sbs.refl _))) ?_) | refine qs rfl rfl ?_ | skip
          refine rn ?_
          refine aw_cf rfl ?_
          refine rn ?_
          exact ⟨i + n, ⟨hz.trans (wordR_go h1 hw hn1 (.inl (by simpa using hg6_3))), by omega⟩, eA, by omega⟩
      · have h1 : ¬ i < s.size := by simpa using hc16
        refine rn ?_
        refine rq 0 ?_
        exact ⟨rfl, congrArg bv (by rw [wordB_eq, ← emptyL, hg1_2, hz, wordR_end h1, decide_eq_true (show (s.size : Int) ≤ 24 by omega)]; rfl)⟩
theorem refRightNames (l : List ByteArray) (most : Nat) (hl : l.length ≤ 4611686018427387904) : ACall Tryz.prog 47 [strsA l, iv most] [] (fun r h' => h' = [] ∧ r = bv (namesB most l)) := by
  refine acall_of_aw Tryz.func47 rfl rfl rfl ?_
  refine rn ?_
  refine aw_rng (l.length) (fun k : Nat => freshB [] l = freshB (l.take k) (l.drop k)) (fun k => [(11, iv k)]) [(0, _), (1, _), (9, _), (10, _)] rfl ?_
  intro k lk zk
  refine rn ?_
  refine aw_cond rfl (fun hc12 => ?_) (fun hc12 => ?_)
  · have hk := ltMap hc12
    have rk := atRow (f := strR) hk
    refine rn ?_
    refine qv rfl rfl (qv_call rfl rfl (pcall (ref2Word _) (Sbs.refl _))) ?_
    refine rn ?_
    refine aw_cond rfl (fun hc18 => ?_) (fun hc18 => ?_)
    · refine rn ?_
      refine rq 0 ?_
      exact ⟨rfl, congrArg bv (by rw [namesB, fresh_w hk zk (by simpa using hc18), Bool.and_false])⟩
    · refine aw_skip ?_
      refine thn_n ?_
      refine aw_seq (aw_region ?_)
      refine q1 ?_
      refine q1 ?_
      refine qq rfl rfl (qr_slice_h (k := k) rfl rfl (by simp; omega)) ?_
      rw [← List.map_take]
      refine rn ?_
      refine aw_rng ((l.take k).length) (fun j : Nat => (l.take k).all (fun t => !(l[k].toList == t.toList)) = ((l.take k).drop j).all (fun t => !(l[k].toList == t.toList))) (fun j => [(23, iv j)]) [(0, _), (1, _), (6, _), (9, _), (10, _), (11, _), (21, _), (22, _)] rfl ?_
      intro j lj zj
      refine rn ?_
      refine aw_cond rfl (fun hc24 => ?_) (fun hc24 => ?_)
      · have hj := ltMap hc24
        have rj := atRow (f := strR) hj
        have bj : (l.take k).length ≤ 4611686018427387904 := by simp; omega
        refine rn ?_
        refine aw_cond rfl (fun hc29 => ?_) (fun hc29 => ?_)
        · refine rn ?_
          refine rq 0 ?_
          exact ⟨rfl, congrArg bv (by rw [namesB, fresh_m hk zk (allF hj (by simpa using hc29)), Bool.and_false])⟩
        · refine rn ?_
          exact ⟨hj, allT hj zj (by simpa using hc29), eA⟩
      · have qj := geMap hc24 lj
        have aj := allE qj zj
        refine rn ?_
        exact ⟨hk, fresh_step hk zk (by simpa using hc18) aj, eA⟩
  · have qk := geMap hc12 lk
    refine rn ?_
    refine rq 0 ?_
    exact ⟨rfl, congrArg bv (by rw [namesB, fresh_e qk zk]; simp)⟩
end Go.Proofs
/- The walk of the reference's Shaped. Conditions: none. -/
set_option linter.unusedVariables false
set_option linter.unusedSimpArgs false
set_option maxRecDepth 10000
namespace Go.Proofs
open Go Go.Ab
attribute [local irreducible] QR QV OE aops aw dsoup dsoupM dalloc dallocM thn inBlk
open Go.H
theorem refRightEvE (h : Hist) (e : Ev) (hl : e.scan.length ≤ 4611686018427387904) : ACall Tryz.prog 48 [.agg (histC h), .agg (evR e)] [] (fun r h' => h' = [] ∧ r = bv (eventB h e)) :=
  (refRightEv h e hl).mono fun _ _ q => ⟨q.1, by rw [q.2, rightEv_eq]⟩
theorem refShaped (h : Hist) (la : Lim 4611686018427387904 h) : ACall Tryz.prog 16 [.agg (histC h)] [] (fun r h' => h' = [] ∧ r = bv (shapedB h)) := by
  refine acall_of_aw Tryz.func16 rfl rfl rfl ?_
  refine rn ?_
  refine aops_e rfl (oe_box rfl rfl rfl fun b1 => ?_)
  refine rn ?_
  refine qv rfl rfl (qv_call rfl rfl (pcall (refRightNames h.ts 300 la.ts) (Sbs.refl _))) ?_
  refine rn ?_
  refine asplit (fun hg1_4 => ?_) (fun hg1_4 => ?_)
  · refine rn ?_
    refine aw_ct rfl ?_
    refine rn ?_
    refine rq 1 ?_
    exact ⟨rfl, congrArg bv (by rw [shaped_fn (by simp_all)])⟩
  · refine rn ?_
    refine qv rfl rfl (qv_call rfl rfl (pcall (refRightNames h.ss 60 la.ss) (Sbs.refl _))) ?_
    refine rn ?_
    refine asplit (fun hg1_10 => ?_) (fun hg1_10 => ?_)
    · refine rn ?_
      refine aw_ct rfl ?_
      refine rn ?_
      refine rq 1 ?_
      exact ⟨rfl, congrArg bv (by rw [shaped_fn (by simp_all)])⟩
    · refine rn ?_
      refine qv rfl rfl (qv_call rfl rfl (pcall (refRightNames h.os 300 la.os) (Sbs.refl _))) ?_
      refine rn ?_
      refine asplit (fun hg1_16 => ?_) (fun hg1_16 => ?_)
      · refine rn ?_
        refine aw_ct rfl ?_
        refine rn ?_
        refine rq 1 ?_
        exact ⟨rfl, congrArg bv (by rw [shaped_fn (by simp_all)])⟩
      · refine rn ?_
        refine qv rfl rfl (qv_call rfl rfl (pcall (refRightNames h.ps 60 la.ps) (Sbs.refl _))) ?_
        refine rn ?_
        refine aw_cond rfl (fun hc32 => ?_) (fun hc32 => ?_)
        · refine rn ?_
          refine rq 1 ?_
          exact ⟨rfl, congrArg bv (by rw [shaped_fn (by simp_all)])⟩
        · refine rn ?_
          refine aw_rng (h.evs.length) (fun i : Nat => h.evs.all (eventB h) = (h.evs.drop i).all (eventB h)) (fun i => [(36, iv i)]) [(1, _), (34, _), (35, _)] rfl ?_
          intro i li zi
          refine rn ?_
          refine aw_cond rfl (fun hc37 => ?_) (fun hc37 => ?_)
          · have hi := ltMap hc37
            have ri := atRow (f := evR) hi
            have bi := la.evs
            have si := la.scans h.evs[i] (List.getElem_mem hi)
            refine rn ?_
            refine aops_e rfl (oe_alloc rfl fun b4 => ?_)
            refine rn ?_
            refine qv rfl rfl (qv_call rfl rfl (pcall (refRightEvE h h.evs[i] si) (Sbs.refl _))) ?_
            refine rn ?_
            refine aw_cond rfl (fun hc43 => ?_) (fun hc43 => ?_)
            · refine rn ?_
              refine rq 2 ?_
              exact ⟨rfl, congrArg bv (by rw [shaped_fe (allF hi (by simpa using hc43))])⟩
            · refine rn ?_
              exact ⟨hi, allT hi zi (by simpa using hc43), eA⟩
          · have qi := geMap hc37 li
            have ai := allE qi zi
            refine rn ?_
            refine aw_rng (h.ords.length) (fun j : Nat => h.ords.all (ordB h) = (h.ords.drop j).all (ordB h)) (fun j => [(48, iv j)]) [(1, _), (46, _), (47, _)] rfl ?_
            intro j lj zj
            refine rn ?_
            refine aw_cond rfl (fun hc49 => ?_) (fun hc49 => ?_)
            · have hj := ltMap hc49
              have rj := atRow (f := ordR) hj
              have bj := la.ords
              have sj := la.ordts h.ords[j] (List.getElem_mem hj)
              refine rn ?_
              refine aops_e rfl (oe_alloc rfl fun b6 => ?_)
              refine rn ?_
              refine qv rfl rfl (qv_call rfl rfl (pcall (refIs _ _) (Sbs.refl _))) ?_
              refine rn ?_
              refine asplit (fun hg12_7 => ?_) (fun hg12_7 => ?_)
              · refine rn ?_
                refine aw_ct rfl ?_
                refine rn ?_
                refine rq 2 ?_
                exact ⟨rfl, congrArg bv (by rw [shaped_fo (allF hj (by rw [ordB_eq]; simp_all))])⟩
              · refine rn ?_
                refine qv rfl rfl (qv_call rfl rfl (pcall (refTs h h.ords[j].ts sj) (Sbs.refl _))) ?_
                refine rn ?_
                refine aw_cond rfl (fun hc65 => ?_) (fun hc65 => ?_)
                · refine rn ?_
                  refine rq 2 ?_
                  exact ⟨rfl, congrArg bv (by rw [shaped_fo (allF hj (by rw [ordB_eq]; simp_all))])⟩
                · refine rn ?_
                  exact ⟨hj, allT hj zj (by rw [ordB_eq]; simp_all), eA⟩
            · have qj := geMap hc49 lj
              have aj := allE qj zj
              refine rn ?_
              refine aw_rng (h.mats.length) (fun k : Nat => h.mats.all (matB h) = (h.mats.drop k).all (matB h)) (fun k => [(70, iv k)]) [(1, _), (68, _), (69, _)] rfl ?_
              intro k lk zk
              refine rn ?_
              refine aw_cond rfl (fun hc71 => ?_) (fun hc71 => ?_)
              · have hk := ltMap hc71
                have rk := atRow (f := matR) hk
                have bk := la.mats
                have sk := la.matts h.mats[k] (List.getElem_mem hk)
                refine rn ?_
                refine aops_e rfl (oe_alloc rfl fun b8 => ?_)
                refine rn ?_
                refine qv rfl rfl (qv_call rfl rfl (pcall (refIs _ _) (Sbs.refl _))) ?_
                refine rn ?_
                refine asplit (fun hg18_7 => ?_) (fun hg18_7 => ?_)
                · refine rn ?_
                  refine aw_ct rfl ?_
                  refine rn ?_
                  refine rq 2 ?_
                  exact ⟨rfl, congrArg bv (by rw [shaped_fm (allF hk (by rw [matB_eq]; simp_all))])⟩
                · refine rn ?_
                  refine qv rfl rfl (qv_call rfl rfl (pcall (refIs _ _) (Sbs.refl _))) ?_
                  refine rn ?_
                  refine asplit (fun hg18_16 => ?_) (fun hg18_16 => ?_)
                  · refine rn ?_
                    refine aw_ct rfl ?_
                    refine rn ?_
                    refine rq 2 ?_
                    exact ⟨rfl, congrArg bv (by rw [shaped_fm (allF hk (by rw [matB_eq]; simp_all))])⟩
                  · refine rn ?_
                    refine qv rfl rfl (qv_call rfl rfl (pcall (refTs h h.mats[k].ts sk) (Sbs.refl _))) ?_
                    refine rn ?_
                    refine aw_cond rfl (fun hc96 => ?_) (fun hc96 => ?_)
                    · refine rn ?_
                      refine rq 2 ?_
                      exact ⟨rfl, congrArg bv (by rw [shaped_fm (allF hk (by rw [matB_eq]; simp_all))])⟩
                    · refine rn ?_
                      exact ⟨hk, allT hk zk (by rw [matB_eq]; simp_all), eA⟩
              · have qk := geMap hc71 lk
                have ak := allE qk zk
                refine rn ?_
                refine aw_rng (h.wants.length) (fun m : Nat => h.wants.all (wanB h) = (h.wants.drop m).all (wanB h)) (fun m => [(101, iv m)]) [(1, _), (99, _), (100, _)] rfl ?_
                intro m lm zm
                refine rn ?_
                refine aw_cond rfl (fun hc102 => ?_) (fun hc102 => ?_)
                · have hm := ltMap hc102
                  have rm := atRow (f := wanR) hm
                  have bm := la.wants
                  refine rn ?_
                  refine aops_e rfl (oe_alloc rfl fun b10 => ?_)
                  refine rn ?_
                  refine qv rfl rfl (qv_call rfl rfl (pcall (refIs _ _) (Sbs.refl _))) ?_
                  refine rn ?_
                  refine asplit (fun hg24_7 => ?_) (fun hg24_7 => ?_)
                  · refine rn ?_
                    refine aw_ct rfl ?_
                    refine rn ?_
                    refine rq 2 ?_
                    exact ⟨rfl, congrArg bv (by rw [shaped_fw (allF hm (by rw [wanB_eq]; simp_all))])⟩
                  · refine rn ?_
                    refine qv rfl rfl (qv_call rfl rfl (pcall (refIs _ _) (Sbs.refl _))) ?_
                    refine rn ?_
                    refine aw_cond rfl (fun hc117 => ?_) (fun hc117 => ?_)
                    · refine rn ?_
                      refine rq 2 ?_
                      exact ⟨rfl, congrArg bv (by rw [shaped_fw (allF hm (by rw [wanB_eq]; simp_all))])⟩
                    · refine rn ?_
                      exact ⟨hm, allT hm zm (by rw [wanB_eq]; simp_all), eA⟩
                · have qm := geMap hc102 lm
                  have am := allE qm zm
                  refine rn ?_
                  refine asplit (fun hg27_4 => ?_) (fun hg27_4 => ?_)
                  · refine rn ?_
                    refine asplit (fun hg27_10 => ?_) (fun hg27_10 => ?_)
                    · refine rn ?_
                      refine asplit (fun hg27_16 => ?_) (fun hg27_16 => ?_)
                      · refine rn ?_
                        refine rq 1 ?_
                        exact ⟨rfl, congrArg bv (by rw [shaped_is (by simp_all) (by simp_all) (by simp_all) (by simp_all) ai aj ak am]; first | (simp_all; done) | (simp_all; intros; omega))⟩
                      · refine rn ?_
                        refine rq 1 ?_
                        exact ⟨rfl, congrArg bv (by rw [shaped_is (by simp_all) (by simp_all) (by simp_all) (by simp_all) ai aj ak am]; first | (simp_all; done) | (simp_all; intros; omega))⟩
                    · refine rn ?_
                      refine rq 1 ?_
                      exact ⟨rfl, congrArg bv (by rw [shaped_is (by simp_all) (by simp_all) (by simp_all) (by simp_all) ai aj ak am]; first | (simp_all; done) | (simp_all; intros; omega))⟩
                  · refine rn ?_
                    refine rq 1 ?_
                    exact ⟨rfl, congrArg bv (by rw [shaped_is (by simp_all) (by simp_all) (by simp_all) (by simp_all) ai aj ak am]; first | (simp_all; done) | (simp_all; intros; omega))⟩
end Go.Proofs
/- The walks of the reference's first and made. Conditions: none. -/
set_option linter.unusedVariables false
set_option linter.unusedSimpArgs false
set_option maxRecDepth 10000
namespace Go.Proofs
open Go Go.Ab
attribute [local irreducible] QR QV OE aops aw dsoup dsoupM dalloc dallocM thn inBlk
open Go.H
theorem ref11First (s : SV) (l : List Int) (n : Int) (hl : l.length ≤ 1000000000) : ACall Tryz.prog 77 [.v s.v, iv n] [.row s.v 1 3 (l.map intR)] (fun r h' => ∃ s' : SV, h' = [.row s'.v 1 3 ((addF l n).map intR)] ∧ r = .v s'.v) := by
  refine acall_of_aw Tryz.func77 rfl rfl rfl ?_
  refine rn ?_
  refine qv rfl rfl (qv_call rfl rfl (FCall.lend (R := fun x => x = iv (atI n 0 l)) (FCall.of_fun (refAt (f := false) l n (by omega))) (fun r hr => by rw [hr]; rfl) (.refl _ _) ⟨ble_row, .refl _ _, trivial⟩)) ?_
  refine rn ?_
  refine aw_cond rfl (fun hc8 => ?_) (fun hc8 => ?_)
  · refine rn ?_
    refine rq 0 ?_
    exact ⟨s, by rw [addF, if_pos (by simpa using hc8)]; rfl, rfl⟩
  · refine rn ?_
    refine qv rfl rfl (qv_buildSlice rfl rfl) ?_
    refine aops_e rfl (oe_append_row rfl rfl (by simp; omega) rfl (fun s13 => ?_) (fun r hr => by simp at hr; subst hr; rfl))
    refine aops_slice s13 fun sv hsv => ?_
    subst hsv
    refine rn ?_
    refine rq 0 ?_
    exact ⟨sv, by rw [addF, if_neg (by simpa using hc8), List.map_append]; rfl, rfl⟩
theorem ref11Made (s : SV) (l : List Int) (v : Ver) (hl : l.length ≤ 1000000000) : ACall Tryz.prog 78 [.v s.v, .agg (verR v)] [.row s.v 1 3 (l.map intR)] (fun r h' => ∃ s' : SV, h' = [.row s'.v 1 3 ((addV l v).map intR)] ∧ r = .v s'.v) := by
  refine acall_of_aw Tryz.func78 rfl rfl rfl ?_
  refine rn ?_
  refine aops_e rfl (oe_box rfl rfl rfl fun b3 => ?_)
  refine rn ?_
  refine aw_cond rfl (fun hc7 => ?_) (fun hc7 => ?_)
  · refine rn ?_
    refine rq 1 ?_
    exact ⟨s, by rw [addV, if_pos (by simpa using hc7)]; rfl, rfl⟩
  · refine rn ?_
    refine aops_e rfl (oe_call rfl rfl (fcall_row (FCall.of_fun (ref11First s l v.t hl))) rfl ?_)
    rintro _ _ ⟨s', rfl, rfl⟩
    refine rn ?_
    refine rq 1 ?_
    exact ⟨s', by rw [addV, if_neg (by simpa using hc7)]; rfl, rfl⟩
end Go.Proofs
/- The walk of the reference's Spoken. Conditions: none. -/
set_option linter.unusedVariables false
set_option linter.unusedSimpArgs false
set_option maxRecDepth 10000
namespace Go.Proofs
open Go Go.Ab
attribute [local irreducible] QR QV OE aops aw dsoup dsoupM dalloc dallocM thn inBlk
open Go.H
set_option maxHeartbeats 4000000 in
theorem refSpoken (h : Hist) (la : Lim 3000 h) : ACall Tryz.prog 34 [.agg (histC h)] [] (fun r h' => h' = [] ∧ r = .agg [intsA (spokenF h 0), intsA (spokenF h 1), intsA (spokenF h 2), intsA (spokenF h 3)]) := by
  refine acall_of_aw Tryz.func34 rfl rfl rfl ?_
  refine rn ?_
  refine aops_e rfl (oe_box rfl rfl rfl fun b1 => ?_)
  refine aops_e rfl (oe_alloc rfl fun b2 => ?_)
  refine rn ?_
  refine aops_e rfl (oe_alloc rfl fun b3 => ?_)
  refine rn ?_
  refine aw_rng4 h.evs.length (fun k s0 s1 s2 s3 => ⟨[(21, iv k), (1, .v (.pointer (some ⟨b1, 0, none⟩))), (2, .v (.pointer (some ⟨b2, 0, none⟩))), (3, .v (.pointer (some ⟨b3, 0, none⟩))), (19, evsA h.evs), (20, iv (h.evs.map evR).length)], [.row s0.v 1 3 (((spE h k) 0).map intR), .row s1.v 1 3 (((spE h k) 1).map intR), .row s2.v 1 3 (((spE h k) 2).map intR), .row s3.v 1 3 (((spE h k) 3).map intR), .box b3 76 [.v s0.v, .v s1.v, .v s2.v, .v s3.v], .box b2 76 [.v (.slice none 0 0), .v (.slice none 0 0), .v (.slice none 0 0), .v (.slice none 0 0)], .box b1 28 (histC h)], []⟩) (⟨none, 0, 0⟩) (⟨none, 0, 0⟩) (⟨none, 0, 0⟩) (⟨none, 0, 0⟩) (ent_trans (ent_nilrow 1 3) (ent_trans (ent_nilrow 1 3) (ent_trans (ent_nilrow 1 3) (ent_trans (ent_nilrow 1 3) es)))) ?_
  intro k s0 s1 s2 s3 lk
  refine rn ?_
  refine aw_cond rfl (fun hc22 => ?_) (fun hc22 => ?_)
  · have hk := ltMap hc22
    have rk := atRow (f := evR) hk
    have bd := bdE la k lk
    have ls := la.scans h.evs[k] (List.getElem_mem hk)
    have le := la.evs
    refine rn ?_
    refine aops_e rfl (oe_alloc rfl fun b5 => ?_)
    refine rn ?_
    refine qq rfl rfl (qr_indexAddr_int rfl rfl (by decide) (by decide)) ?_
    refine rn ?_
    refine aops_e rfl (oe_call rfl rfl (fcall_row (FCall.of_fun (ref11First _ _ _ (by have := bd 0; omega)))) rfl ?_)
    rintro _ _ ⟨s', rfl, rfl⟩
    refine qq rfl rfl (qr_indexAddr_int rfl rfl (by decide) (by decide)) ?_
    refine rn0 ?_
    refine aw_cut4 (fun s0 s1 s2 s3 => ⟨[(5, .v (.pointer (some ⟨b5, 0, none⟩))), (21, iv k), (20, iv (h.evs.map evR).length), (19, evsA h.evs), (1, .v (.pointer (some ⟨b1, 0, none⟩))), (2, .v (.pointer (some ⟨b2, 0, none⟩))), (3, .v (.pointer (some ⟨b3, 0, none⟩)))], [.box b5 39 (evR h.evs[k]), .row s0.v 1 3 (((stepK (stepF (spE h k) (0, h.evs[k].t)) h.evs[k]) 0).map intR), .row s1.v 1 3 (((stepK (stepF (spE h k) (0, h.evs[k].t)) h.evs[k]) 1).map intR), .row s2.v 1 3 (((stepK (stepF (spE h k) (0, h.evs[k].t)) h.evs[k]) 2).map intR), .row s3.v 1 3 (((stepK (stepF (spE h k) (0, h.evs[k].t)) h.evs[k]) 3).map intR), .box b3 76 [.v s0.v, .v s1.v, .v s2.v, .v s3.v], .box b2 76 [.v (.slice none 0 0), .v (.slice none 0 0), .v (.slice none 0 0), .v (.slice none 0 0)], .box b1 28 (histC h)], []⟩) ?_ ?_
    · refine rn ?_
      refine aw_cond rfl (fun hc33 => ?_) (fun hc33 => ?_)
      · refine rn ?_
        refine qq rfl rfl (qr_indexAddr_int rfl rfl (by decide) (by decide)) ?_
        refine rn ?_
        refine aops_e rfl (oe_call rfl rfl (fcall_row (FCall.of_fun (ref11First _ _ _ (by have := bd 1; omega)))) rfl ?_)
        rintro _ _ ⟨s', rfl, rfl⟩
        refine qq rfl rfl (qr_indexAddr_int rfl rfl (by decide) (by decide)) ?_
        refine rn ?_
        exact ⟨_, _, _, _, by unfold stepK; first | (rw [if_pos (by simpa using hc33)]; exact eA) | (rw [if_neg (by simpa using hc33), if_pos (by simp at hc33; simp_all)]; exact eA) | (rw [if_neg (by simpa using hc33), if_neg (by simp at hc33; simp_all), if_pos (by simpa using hc56)]; exact eA) | (rw [if_neg (by simpa using hc33), if_neg (by simp at hc33; simp_all), if_neg (by simpa using hc56)]; exact eA)⟩
      · refine rn ?_
        refine aw_cond rfl (fun hc41 => ?_) (fun hc41 => ?_)
        · refine rn ?_
          refine aw_cond rfl (fun hc41 => ?_) (fun hc41 => ?_)
          · refine rn ?_
            refine qq rfl rfl (qr_indexAddr_int rfl rfl (by decide) (by decide)) ?_
            refine rn ?_
            refine aops_e rfl (oe_call rfl rfl (fcall_row (FCall.of_fun (ref11First _ _ _ (by have := bd 2; omega)))) rfl ?_)
            rintro _ _ ⟨s', rfl, rfl⟩
            refine qq rfl rfl (qr_indexAddr_int rfl rfl (by decide) (by decide)) ?_
            refine rn ?_
            refine qq rfl rfl (qr_indexAddr_int rfl rfl (by decide) (by decide)) ?_
            refine rn ?_
            refine aops_e rfl (oe_call rfl rfl (fcall_row (FCall.of_fun (ref11Made _ _ _ (by have := (bd.f (0, h.evs[k].t)) 0; exact Nat.le_trans this (by omega))))) rfl ?_)
            rintro _ _ ⟨s', rfl, rfl⟩
            refine qq rfl rfl (qr_indexAddr_int rfl rfl (by decide) (by decide)) ?_
            refine rn ?_
            exact ⟨_, _, _, _, by unfold stepK; first | (rw [if_pos (by simpa using hc33)]; exact eA) | (rw [if_neg (by simpa using hc33), if_pos (by simp at hc33; simp_all)]; exact eA) | (rw [if_neg (by simpa using hc33), if_neg (by simp at hc33; simp_all), if_pos (by simpa using hc56)]; exact eA) | (rw [if_neg (by simpa using hc33), if_neg (by simp at hc33; simp_all), if_neg (by simpa using hc56)]; exact eA)⟩
          · first | cases hc41 | exact absurd hc41 (by decide) | (exfalso; simp_all; done)
        · refine rn ?_
          refine aw_cond rfl (fun hc41 => ?_) (fun hc41 => ?_)
          · refine rn ?_
            refine qq rfl rfl (qr_indexAddr_int rfl rfl (by decide) (by decide)) ?_
            refine rn ?_
            refine aops_e rfl (oe_call rfl rfl (fcall_row (FCall.of_fun (ref11First _ _ _ (by have := bd 2; omega)))) rfl ?_)
            rintro _ _ ⟨s', rfl, rfl⟩
            refine qq rfl rfl (qr_indexAddr_int rfl rfl (by decide) (by decide)) ?_
            refine rn ?_
            refine qq rfl rfl (qr_indexAddr_int rfl rfl (by decide) (by decide)) ?_
            refine rn ?_
            refine aops_e rfl (oe_call rfl rfl (fcall_row (FCall.of_fun (ref11Made _ _ _ (by have := (bd.f (0, h.evs[k].t)) 0; exact Nat.le_trans this (by omega))))) rfl ?_)
            rintro _ _ ⟨s', rfl, rfl⟩
            refine qq rfl rfl (qr_indexAddr_int rfl rfl (by decide) (by decide)) ?_
            refine rn ?_
            exact ⟨_, _, _, _, by unfold stepK; first | (rw [if_pos (by simpa using hc33)]; exact eA) | (rw [if_neg (by simpa using hc33), if_pos (by simp at hc33; simp_all)]; exact eA) | (rw [if_neg (by simpa using hc33), if_neg (by simp at hc33; simp_all), if_pos (by simpa using hc56)]; exact eA) | (rw [if_neg (by simpa using hc33), if_neg (by simp at hc33; simp_all), if_neg (by simpa using hc56)]; exact eA)⟩
          · refine rn ?_
            refine aw_cond rfl (fun hc56 => ?_) (fun hc56 => ?_)
            · refine rn ?_
              refine qq rfl rfl (qr_indexAddr_int rfl rfl (by decide) (by decide)) ?_
              refine rn ?_
              refine aops_e rfl (oe_call rfl rfl (fcall_row (FCall.of_fun (ref11First _ _ _ (by have := bd 3; omega)))) rfl ?_)
              rintro _ _ ⟨s', rfl, rfl⟩
              refine qq rfl rfl (qr_indexAddr_int rfl rfl (by decide) (by decide)) ?_
              refine rn ?_
              exact ⟨_, _, _, _, by unfold stepK; first | (rw [if_pos (by simpa using hc33)]; exact eA) | (rw [if_neg (by simpa using hc33), if_pos (by simp at hc33; simp_all)]; exact eA) | (rw [if_neg (by simpa using hc33), if_neg (by simp at hc33; simp_all), if_pos (by simpa using hc56)]; exact eA) | (rw [if_neg (by simpa using hc33), if_neg (by simp at hc33; simp_all), if_neg (by simpa using hc56)]; exact eA)⟩
            · refine rn ?_
              exact ⟨_, _, _, _, by unfold stepK; first | (rw [if_pos (by simpa using hc33)]; exact eA) | (rw [if_neg (by simpa using hc33), if_pos (by simp at hc33; simp_all)]; exact eA) | (rw [if_neg (by simpa using hc33), if_neg (by simp at hc33; simp_all), if_pos (by simpa using hc56)]; exact eA) | (rw [if_neg (by simpa using hc33), if_neg (by simp at hc33; simp_all), if_neg (by simpa using hc56)]; exact eA)⟩
    · intro s0 s1 s2 s3
      refine rn ?_
      refine aw_rng4 h.evs[k].scan.length (fun j s0 s1 s2 s3 => ⟨[(67, iv j), (1, .v (.pointer (some ⟨b1, 0, none⟩))), (2, .v (.pointer (some ⟨b2, 0, none⟩))), (3, .v (.pointer (some ⟨b3, 0, none⟩))), (19, evsA h.evs), (20, iv (h.evs.map evR).length), (21, iv k), (65, seensA h.evs[k].scan), (66, iv (h.evs[k].scan.map seenR).length)], [.box b5 39 (evR h.evs[k]), .row s0.v 1 3 ((((h.evs[k].scan.take j).foldl stepS (stepK (stepF (spE h k) (0, h.evs[k].t)) h.evs[k])) 0).map intR), .row s1.v 1 3 ((((h.evs[k].scan.take j).foldl stepS (stepK (stepF (spE h k) (0, h.evs[k].t)) h.evs[k])) 1).map intR), .row s2.v 1 3 ((((h.evs[k].scan.take j).foldl stepS (stepK (stepF (spE h k) (0, h.evs[k].t)) h.evs[k])) 2).map intR), .row s3.v 1 3 ((((h.evs[k].scan.take j).foldl stepS (stepK (stepF (spE h k) (0, h.evs[k].t)) h.evs[k])) 3).map intR), .box b3 76 [.v s0.v, .v s1.v, .v s2.v, .v s3.v], .box b2 76 [.v (.slice none 0 0), .v (.slice none 0 0), .v (.slice none 0 0), .v (.slice none 0 0)], .box b1 28 (histC h)], []⟩) _ _ _ _ (es) ?_
      intro j s0 s1 s2 s3 lj
      refine rn ?_
      refine aw_cond rfl (fun hc68 => ?_) (fun hc68 => ?_)
      · have hj := ltMap hc68
        have rj := atRow (f := seenR) hj
        have bj := Bd.fold (c := 2) (l := h.evs[k].scan.take j) (fun s _ L n h => h.s s) ((bd.f (0, h.evs[k].t)).k h.evs[k])
        have bl : (h.evs[k].scan.take j).length ≤ 3000 := by rw [List.length_take]; omega
        refine rn ?_
        refine aops_e rfl (oe_alloc rfl fun b7 => ?_)
        refine rn ?_
        refine qq rfl rfl (qr_indexAddr_int rfl rfl (by decide) (by decide)) ?_
        refine rn ?_
        refine aops_e rfl (oe_call rfl rfl (fcall_row (FCall.of_fun (ref11First _ _ _ (by have := bj 2; omega)))) rfl ?_)
        rintro _ _ ⟨s', rfl, rfl⟩
        refine qq rfl rfl (qr_indexAddr_int rfl rfl (by decide) (by decide)) ?_
        refine rn ?_
        refine qq rfl rfl (qr_indexAddr_int rfl rfl (by decide) (by decide)) ?_
        refine rn ?_
        refine aops_e rfl (oe_call rfl rfl (fcall_row (FCall.of_fun (ref11Made _ _ _ (by have := bj 0; omega)))) rfl ?_)
        rintro _ _ ⟨s', rfl, rfl⟩
        refine qq rfl rfl (qr_indexAddr_int rfl rfl (by decide) (by decide)) ?_
        refine rn ?_
        have e : (h.evs[k].scan.take (j + 1)).foldl stepS (stepK (stepF (spE h k) (0, h.evs[k].t)) h.evs[k]) = stepS ((h.evs[k].scan.take j).foldl stepS (stepK (stepF (spE h k) (0, h.evs[k].t)) h.evs[k])) h.evs[k].scan[j] := foldTake _ _ hj
        exact ⟨hj, _, _, _, _, by simp only [e]; exact eA⟩
      · have qj := geMap hc68 lj
        refine rn ?_
        have e : spE h (k + 1) = (h.evs[k].scan.take j).foldl stepS (stepK (stepF (spE h k) (0, h.evs[k].t)) h.evs[k]) := by rw [spE, foldTake _ _ hk, H.stepE, foldEnd _ _ qj]; rfl
        exact ⟨hk, _, _, _, _, by simp only [e]; exact eA⟩
  · have qk := geMap hc22 lk
    refine rn ?_
    refine aw_rng4 h.ords.length (fun k s0 s1 s2 s3 => ⟨[(88, iv k), (1, .v (.pointer (some ⟨b1, 0, none⟩))), (2, .v (.pointer (some ⟨b2, 0, none⟩))), (3, .v (.pointer (some ⟨b3, 0, none⟩))), (86, ordsA h.ords), (87, iv (h.ords.map ordR).length)], [.row s0.v 1 3 (((spO h k) 0).map intR), .row s1.v 1 3 (((spO h k) 1).map intR), .row s2.v 1 3 (((spO h k) 2).map intR), .row s3.v 1 3 (((spO h k) 3).map intR), .box b3 76 [.v s0.v, .v s1.v, .v s2.v, .v s3.v], .box b2 76 [.v (.slice none 0 0), .v (.slice none 0 0), .v (.slice none 0 0), .v (.slice none 0 0)], .box b1 28 (histC h)], []⟩) _ _ _ _ (by rw [show spO h 0 = spE h k from (foldEnd stepE noR qk).symm]; exact es) ?_
    intro k s0 s1 s2 s3 lk
    refine rn ?_
    refine aw_cond rfl (fun hc89 => ?_) (fun hc89 => ?_)
    · have hk := ltMap hc89
      have rk := atRow (f := ordR) hk
      have bd := bdO la k lk
      have ls := la.ordts h.ords[k] (List.getElem_mem hk)
      have le := la.ords
      refine rn ?_
      refine aops_e rfl (oe_alloc rfl fun b9 => ?_)
      refine rn ?_
      refine qq rfl rfl (qr_indexAddr_int rfl rfl (by decide) (by decide)) ?_
      refine rn ?_
      refine aops_e rfl (oe_call rfl rfl (fcall_row (FCall.of_fun (ref11First _ _ _ (by have := bd 2; omega)))) rfl ?_)
      rintro _ _ ⟨s', rfl, rfl⟩
      refine qq rfl rfl (qr_indexAddr_int rfl rfl (by decide) (by decide)) ?_
      refine rn ?_
      refine aw_rng4 h.ords[k].ts.length (fun j s0 s1 s2 s3 => ⟨[(101, iv j), (1, .v (.pointer (some ⟨b1, 0, none⟩))), (2, .v (.pointer (some ⟨b2, 0, none⟩))), (3, .v (.pointer (some ⟨b3, 0, none⟩))), (86, ordsA h.ords), (87, iv (h.ords.map ordR).length), (88, iv k), (99, intsA h.ords[k].ts), (100, iv (h.ords[k].ts.map intR).length)], [.box b9 61 (ordR h.ords[k]), .row s0.v 1 3 ((((h.ords[k].ts.take j).foldl addT (stepF (spO h k) (2, h.ords[k].o))) 0).map intR), .row s1.v 1 3 ((((h.ords[k].ts.take j).foldl addT (stepF (spO h k) (2, h.ords[k].o))) 1).map intR), .row s2.v 1 3 ((((h.ords[k].ts.take j).foldl addT (stepF (spO h k) (2, h.ords[k].o))) 2).map intR), .row s3.v 1 3 ((((h.ords[k].ts.take j).foldl addT (stepF (spO h k) (2, h.ords[k].o))) 3).map intR), .box b3 76 [.v s0.v, .v s1.v, .v s2.v, .v s3.v], .box b2 76 [.v (.slice none 0 0), .v (.slice none 0 0), .v (.slice none 0 0), .v (.slice none 0 0)], .box b1 28 (histC h)], []⟩) _ _ _ _ (es) ?_
      intro j s0 s1 s2 s3 lj
      refine rn ?_
      refine aw_cond rfl (fun hc102 => ?_) (fun hc102 => ?_)
      · have hj := ltMap hc102
        have rj := atRow (f := intR) hj
        have bj := Bd.fold (c := 1) (l := h.ords[k].ts.take j) (fun s _ L n h => h.t s) (bd.f (2, h.ords[k].o))
        have bl : (h.ords[k].ts.take j).length ≤ 3000 := by rw [List.length_take]; omega
        refine rn ?_
        refine qq rfl rfl (qr_indexAddr_int rfl rfl (by decide) (by decide)) ?_
        refine rn ?_
        refine aops_e rfl (oe_call rfl rfl (fcall_row (FCall.of_fun (ref11First _ _ _ (by have := bj 0; omega)))) rfl ?_)
        rintro _ _ ⟨s', rfl, rfl⟩
        refine qq rfl rfl (qr_indexAddr_int rfl rfl (by decide) (by decide)) ?_
        refine rn ?_
        have e : (h.ords[k].ts.take (j + 1)).foldl addT (stepF (spO h k) (2, h.ords[k].o)) = addT ((h.ords[k].ts.take j).foldl addT (stepF (spO h k) (2, h.ords[k].o))) h.ords[k].ts[j] := foldTake _ _ hj
        exact ⟨hj, _, _, _, _, by simp only [e]; exact eA⟩
      · have qj := geMap hc102 lj
        refine rn ?_
        have e : spO h (k + 1) = (h.ords[k].ts.take j).foldl addT (stepF (spO h k) (2, h.ords[k].o)) := by rw [spO, foldTake _ _ hk, stepO, foldEnd _ _ qj]; rfl
        exact ⟨hk, _, _, _, _, by simp only [e]; exact eA⟩
    · have qk := geMap hc89 lk
      refine rn ?_
      refine aw_rng4 h.mats.length (fun k s0 s1 s2 s3 => ⟨[(115, iv k), (1, .v (.pointer (some ⟨b1, 0, none⟩))), (2, .v (.pointer (some ⟨b2, 0, none⟩))), (3, .v (.pointer (some ⟨b3, 0, none⟩))), (113, matsA h.mats), (114, iv (h.mats.map matR).length)], [.row s0.v 1 3 (((spM h k) 0).map intR), .row s1.v 1 3 (((spM h k) 1).map intR), .row s2.v 1 3 (((spM h k) 2).map intR), .row s3.v 1 3 (((spM h k) 3).map intR), .box b3 76 [.v s0.v, .v s1.v, .v s2.v, .v s3.v], .box b2 76 [.v (.slice none 0 0), .v (.slice none 0 0), .v (.slice none 0 0), .v (.slice none 0 0)], .box b1 28 (histC h)], []⟩) _ _ _ _ (by rw [show spM h 0 = spO h k from (foldEnd stepO _ qk).symm]; exact es) ?_
      intro k s0 s1 s2 s3 lk
      refine rn ?_
      refine aw_cond rfl (fun hc116 => ?_) (fun hc116 => ?_)
      · have hk := ltMap hc116
        have rk := atRow (f := matR) hk
        have bd := bdM la k lk
        have ls := la.matts h.mats[k] (List.getElem_mem hk)
        have le := la.mats
        refine rn ?_
        refine aops_e rfl (oe_alloc rfl fun b13 => ?_)
        refine rn ?_
        refine qq rfl rfl (qr_indexAddr_int rfl rfl (by decide) (by decide)) ?_
        refine rn ?_
        refine aops_e rfl (oe_call rfl rfl (fcall_row (FCall.of_fun (ref11First _ _ _ (by have := bd 3; omega)))) rfl ?_)
        rintro _ _ ⟨s', rfl, rfl⟩
        refine qq rfl rfl (qr_indexAddr_int rfl rfl (by decide) (by decide)) ?_
        refine rn ?_
        refine qq rfl rfl (qr_indexAddr_int rfl rfl (by decide) (by decide)) ?_
        refine rn ?_
        refine aops_e rfl (oe_call rfl rfl (fcall_row (FCall.of_fun (ref11First _ _ _ (by have := bd 2; omega)))) rfl ?_)
        rintro _ _ ⟨s', rfl, rfl⟩
        refine qq rfl rfl (qr_indexAddr_int rfl rfl (by decide) (by decide)) ?_
        refine rn ?_
        refine aw_rng4 h.mats[k].ts.length (fun j s0 s1 s2 s3 => ⟨[(134, iv j), (1, .v (.pointer (some ⟨b1, 0, none⟩))), (2, .v (.pointer (some ⟨b2, 0, none⟩))), (3, .v (.pointer (some ⟨b3, 0, none⟩))), (113, matsA h.mats), (114, iv (h.mats.map matR).length), (115, iv k), (132, intsA h.mats[k].ts), (133, iv (h.mats[k].ts.map intR).length)], [.box b13 64 (matR h.mats[k]), .row s0.v 1 3 ((((h.mats[k].ts.take j).foldl addT (stepF (stepF (spM h k) (3, h.mats[k].p)) (2, h.mats[k].o))) 0).map intR), .row s1.v 1 3 ((((h.mats[k].ts.take j).foldl addT (stepF (stepF (spM h k) (3, h.mats[k].p)) (2, h.mats[k].o))) 1).map intR), .row s2.v 1 3 ((((h.mats[k].ts.take j).foldl addT (stepF (stepF (spM h k) (3, h.mats[k].p)) (2, h.mats[k].o))) 2).map intR), .row s3.v 1 3 ((((h.mats[k].ts.take j).foldl addT (stepF (stepF (spM h k) (3, h.mats[k].p)) (2, h.mats[k].o))) 3).map intR), .box b3 76 [.v s0.v, .v s1.v, .v s2.v, .v s3.v], .box b2 76 [.v (.slice none 0 0), .v (.slice none 0 0), .v (.slice none 0 0), .v (.slice none 0 0)], .box b1 28 (histC h)], []⟩) _ _ _ _ (es) ?_
        intro j s0 s1 s2 s3 lj
        refine rn ?_
        refine aw_cond rfl (fun hc135 => ?_) (fun hc135 => ?_)
        · have hj := ltMap hc135
          have rj := atRow (f := intR) hj
          have bj := Bd.fold (c := 1) (l := h.mats[k].ts.take j) (fun s _ L n h => h.t s) ((bd.f (3, h.mats[k].p)).f (2, h.mats[k].o))
          have bl : (h.mats[k].ts.take j).length ≤ 3000 := by rw [List.length_take]; omega
          refine rn ?_
          refine qq rfl rfl (qr_indexAddr_int rfl rfl (by decide) (by decide)) ?_
          refine rn ?_
          refine aops_e rfl (oe_call rfl rfl (fcall_row (FCall.of_fun (ref11First _ _ _ (by have := bj 0; omega)))) rfl ?_)
          rintro _ _ ⟨s', rfl, rfl⟩
          refine qq rfl rfl (qr_indexAddr_int rfl rfl (by decide) (by decide)) ?_
          refine rn ?_
          have e : (h.mats[k].ts.take (j + 1)).foldl addT (stepF (stepF (spM h k) (3, h.mats[k].p)) (2, h.mats[k].o)) = addT ((h.mats[k].ts.take j).foldl addT (stepF (stepF (spM h k) (3, h.mats[k].p)) (2, h.mats[k].o))) h.mats[k].ts[j] := foldTake _ _ hj
          exact ⟨hj, _, _, _, _, by simp only [e]; exact eA⟩
        · have qj := geMap hc135 lj
          refine rn ?_
          have e : spM h (k + 1) = (h.mats[k].ts.take j).foldl addT (stepF (stepF (spM h k) (3, h.mats[k].p)) (2, h.mats[k].o)) := by rw [spM, foldTake _ _ hk, stepM, foldEnd _ _ qj]; rfl
          exact ⟨hk, _, _, _, _, by simp only [e]; exact eA⟩
      · have qk := geMap hc116 lk
        refine rn ?_
        refine aw_rng4 h.wants.length (fun k s0 s1 s2 s3 => ⟨[(148, iv k), (2, .v (.pointer (some ⟨b2, 0, none⟩))), (3, .v (.pointer (some ⟨b3, 0, none⟩))), (146, wansA h.wants), (147, iv (h.wants.map wanR).length)], [.row s0.v 1 3 (((spW h k) 0).map intR), .row s1.v 1 3 (((spW h k) 1).map intR), .row s2.v 1 3 (((spW h k) 2).map intR), .row s3.v 1 3 (((spW h k) 3).map intR), .box b3 76 [.v s0.v, .v s1.v, .v s2.v, .v s3.v], .box b2 76 [.v (.slice none 0 0), .v (.slice none 0 0), .v (.slice none 0 0), .v (.slice none 0 0)], .box b1 28 (histC h)], []⟩) _ _ _ _ (by rw [show spW h 0 = spM h k from (foldEnd stepM _ qk).symm]; exact es) ?_
        intro k s0 s1 s2 s3 lk
        refine rn ?_
        refine aw_cond rfl (fun hc149 => ?_) (fun hc149 => ?_)
        · have hk := ltMap hc149
          have rk := atRow (f := wanR) hk
          have bd := bdW la k lk
          have le := la.wants
          refine rn ?_
          refine aops_e rfl (oe_alloc rfl fun b17 => ?_)
          refine rn ?_
          refine qq rfl rfl (qr_indexAddr_int rfl rfl (by decide) (by decide)) ?_
          refine rn ?_
          refine aops_e rfl (oe_call rfl rfl (fcall_row (FCall.of_fun (ref11First _ _ _ (by have := bd 1; omega)))) rfl ?_)
          rintro _ _ ⟨s', rfl, rfl⟩
          refine qq rfl rfl (qr_indexAddr_int rfl rfl (by decide) (by decide)) ?_
          refine rn ?_
          have e : spW h (k + 1) = stepW (spW h k) h.wants[k] := foldTake _ _ hk
          exact ⟨hk, _, _, _, _, by simp only [e]; exact eA⟩
        · have qk := geMap hc149 lk
          refine rn ?_
          exact retq (.cons _ _ _ _ (.agg _ _ _ _ _ _ _ rfl inferInstance inferInstance inferInstance rfl) .nil) (.trans (vent_freeze_cell [] _) (.trans (vent_freeze_cell [_] _) (.trans (vent_freeze_cell [_, _] _) (.trans (vent_freeze_cell [_, _, _] _) (.drop [_, _, _] _ _))))) ⟨rfl, by rw [← show spW h k = spokenF h from foldEnd _ _ qk]; rfl⟩
end Go.Proofs
/- The walk of the reference's Right. Conditions: none. -/
set_option linter.unusedVariables false
set_option linter.unusedSimpArgs false
set_option maxRecDepth 10000
namespace Go.Proofs
open Go Go.Ab
attribute [local irreducible] QR QV OE aops aw dsoup dsoupM dalloc dallocM thn inBlk
open Go.H
theorem refRight (h : Hist) (la : Lim 4611686018427387904 h) : ACall Tryz.prog 10 [.agg (histC h)] [] (fun r h' => h' = [] ∧ r = bv (rightB h)) := by
  refine acall_of_aw Tryz.func10 rfl rfl rfl ?_
  refine rn ?_
  refine aops_e rfl (oe_box rfl rfl rfl fun b1 => ?_)
  refine rn ?_
  refine qv rfl rfl (qv_call rfl rfl (pcall (refShaped h la) (Sbs.refl _))) ?_
  refine rn ?_
  refine aw_cond rfl (fun hc10 => ?_) (fun hc10 => ?_)
  · refine rn ?_
    refine rq 1 ?_
    exact ⟨rfl, congrArg bv (by rw [right_s (by simpa using hc10)])⟩
  · have hs : shapedB h = true := by simpa using hc10
    have la3 := shaped_lim hs
    refine rn ?_
    refine qv rfl rfl (qv_call rfl rfl (pcall (refSpoken h la3) (Sbs.refl _))) ?_
    refine rn ?_
    refine aw_rng (4) (fun k : Nat => ∀ j, j < k → okS h j = true) (fun k => [(13, iv k)]) [(1, _), (12, _)] (fun j hj => by omega) ?_
    intro k lk zk
    refine rn ?_
    refine aw_cond rfl (fun hc14 => ?_) (fun hc14 => ?_)
    · have hk : k < 4 := by simp at hc14; omega
      have r0 := sp_at h hk
      have r1 := many_at h hk
      have bl := spoken_len la3 k
      refine rn ?_
      refine aw_cond rfl (fun hc35 => ?_) (fun hc35 => ?_)
      · refine rn ?_
        refine rq 1 ?_
        exact ⟨rfl, congrArg bv (by rw [right_f hk]; rw [okS, beq_eq_false_iff_ne.2 (by simp at hc35; omega), Bool.false_and])⟩
      · have hlen : (spokenF h k).length = (nmK h k).length := by simp at hc35; omega
        refine rn ?_
        refine aw_rng ((spokenF h k).length) (fun i : Nat => uptoF 0 (spokenF h k) = uptoF i ((spokenF h k).drop i)) (fun i => [(38, iv i)]) [(1, _), (12, _), (13, _), (36, _), (37, _)] rfl ?_
        intro i li zi
        refine rn ?_
        refine aw_cond rfl (fun hc39 => ?_) (fun hc39 => ?_)
        · have hi := ltMap hc39
          have ri := atRow (f := intR) hi
          refine rn ?_
          refine aw_cond rfl (fun hc45 => ?_) (fun hc45 => ?_)
          · refine rn ?_
            refine rq 1 ?_
            exact ⟨rfl, congrArg bv (by rw [right_f hk]; rw [okS, upto_f hi zi (by simp at hc45; omega), Bool.and_false])⟩
          · refine rn ?_
            exact ⟨hi, upto_step hi zi (by simp at hc45; omega), eA⟩
        · have qi := geMap hc39 li
          refine rn ?_
          exact ⟨hk, fun j hj => (Nat.lt_or_ge j k).elim (zk j) (fun q => by
            obtain rfl : j = k := by omega
            rw [okS, hlen, upto_e qi zi]; simp), eA⟩
    · have qk : k = 4 := by simp at hc14; omega
      subst qk
      refine rn ?_
      refine rq 1 ?_
      exact ⟨rfl, congrArg bv (by rw [right_t hs zk])⟩
theorem refRightM (h : Hist) (la : Lim 4611686018427387904 h) : ACall Tryz.prog 10 [.agg (histC h)] [] (fun r h' => h' = [] ∧ r = bv (mayB h)) :=
  (refRight h la).mono fun _ _ q => ⟨q.1, by rw [q.2, rightB_eq]⟩
end Go.Proofs
/- The walk of HistoryMay. Conditions: none. -/
set_option linter.unusedVariables false
set_option linter.unusedSimpArgs false
set_option maxRecDepth 10000
namespace Go.Proofs
open Go Go.Ab
attribute [local irreducible] QR QV OE aops aw dsoup dsoupM dalloc dallocM thn inBlk
open Go.H
theorem may_a (z : Hist) : ¬ (!(checkE z == 0) == mayB z) = true := by
  unfold checkE; cases mayB z <;> simp
theorem may_b (z : Hist) (h : ¬ checkE z = 0) : ¬ (checkE z != 210) = true := by
  rcases check_cases z with e | e
  · exact absurd e h
  · rw [e]; simp
theorem historyMay (x y : Hist) (la : Lim 4611686018427387904 x) (lb : Lim 4611686018427387904 y) : ACall Tryz.prog 3 [.agg (histC x), .agg (histC y)] [.glob 0 68 limitsC, .glob 1 168 firstC, .glob 2 171 acceptC] (fun r h' => h' = [.glob 0 68 limitsC, .glob 1 168 firstC, .glob 2 171 acceptC] ∧ r = bv true) := by
  refine acall_of_aw Tryz.func3 rfl rfl rfl ?_
  refine rn ?_
  refine aops_e rfl (oe_box rfl rfl rfl fun b2 => ?_)
  refine aops_e rfl (oe_box rfl rfl rfl fun b3 => ?_)
  refine rn ?_
  refine qv rfl rfl (qv_call rfl rfl (FCall.qt (FCall.of_fun wakes) ((pt2 _ _ _ _).trans (.cons _ ((pt2 _ _ _ _).trans (.cons _ (pt2 _ _ _ _))))))) ?_
  refine rn ?_
  refine aw_cond rfl (fun hc15 => ?_) (fun hc15 => ?_)
  · exact absurd hc15 (by decide)
  · refine rn ?_
    refine aw_draw 6 rfl ?_
    refine rn ?_
    refine dv rfl rfl (by exact qv_call rfl rfl (pcall (few x la) (Sbs.refl _))) ?_
    refine rn ?_
    refine dv rfl rfl (by exact qv_call rfl rfl (pcall (few y lb) (Sbs.refl _))) ?_
    refine rn ?_
    refine dalloc_a rfl fun b5 => ?_
    refine dalloc_a rfl fun b6 => ?_
    refine rn ?_
    refine aw_rng (2) (fun k : Nat => True) (fun k => [(23, iv k)]) [(2, _), (5, _), (6, _), (22, _)] trivial ?_
    intro k lk _
    refine rn ?_
    refine aw_cond rfl (fun hc24 => ?_) (fun hc24 => ?_)
    · have hk : k < 2 := by simp at hc24; omega
      obtain ⟨z, hz, lz⟩ : ∃ z, (((histC (fewH x) ++ histC (fewH y)).drop (k * 8)).take 8 = histC z) ∧ Lim 4611686018427387904 z := by
        rcases (by omega : k = 0 ∨ k = 1) with rfl | rfl
        · exact ⟨(fewH x), rfl, ((few_lim x).mono (by decide))⟩
        · exact ⟨(fewH y), rfl, ((few_lim y).mono (by decide))⟩
      refine aw_skip ?_
      refine thn_n ?_
      refine aw_seq ?_
      refine aw_block ?_
      refine aw_seq (aw_region ?_)
      refine qq rfl rfl (qr_index_arr_agg rfl rfl hk (by show k * 8 + 8 ≤ 16; omega) hz) ?_
      refine aops_e rfl (oe_alloc rfl fun b8 => ?_)
      refine rn ?_
      refine qv rfl rfl (qv_call rfl rfl (FCall.qt (FCall.of_fun (check z lz)) ((pt5 _ _ _ _ _ _ _).trans (.cons _ ((pt5 _ _ _ _ _ _ _).trans (.cons _ (pt5 _ _ _ _ _ _ _))))))) ?_
      refine rn ?_
      refine qv rfl rfl (qv_call rfl rfl (pcall (refRightM z lz) (Sbs.refl _))) ?_
      refine rn ?_
      refine asplit (fun hg8_5 => ?_) (fun hg8_5 => ?_)
      · refine rn ?_
        refine aw_ct rfl ?_
        refine rn ?_
        first | exact absurd hg8_5 (may_a z) | exact absurd hc40 (may_b z (by simpa using hg8_8))
      · refine rn ?_
        refine asplit (fun hg8_8 => ?_) (fun hg8_8 => ?_)
        · refine rn ?_
          refine aw_cond rfl (fun hc40 => ?_) (fun hc40 => ?_)
          · refine rn ?_
            first | exact absurd hg8_5 (may_a z) | exact absurd hc40 (may_b z (by simpa using hg8_8))
          · refine rn ?_
            exact ⟨hk, trivial, eA⟩
        · refine rn ?_
          refine aw_cf rfl ?_
          refine rn ?_
          exact ⟨hk, trivial, eA⟩
    · refine rn ?_
      refine aw_rng ((fewH x).evs.length) (fun i : Nat => True) (fun i => [(45, iv i)]) [(2, _), (5, _), (6, _), (43, _), (44, _)] trivial ?_
      intro i li _
      refine rn ?_
      refine aw_cond rfl (fun hc46 => ?_) (fun hc46 => ?_)
      · have hi := ltMap hc46
        have ri := atRow (f := evR) hi
        have bi := (few_lim x).evs
        have si : (fewH x).evs[i].scan.length ≤ 4611686018427387904 := Nat.le_trans ((few_lim x).scans _ (List.getElem_mem hi)) (by decide)
        refine rn ?_
        refine aops_e rfl (oe_alloc rfl fun b11 => ?_)
        refine rn ?_
        refine aw_rng ((fewH y).evs.length) (fun j : Nat => True) (fun j => [(53, iv j)]) [(2, _), (5, _), (6, _), (10, _), (11, _), (43, _), (44, _), (45, _), (51, _), (52, _)] trivial ?_
        intro j lj _
        refine rn ?_
        refine aw_cond rfl (fun hc54 => ?_) (fun hc54 => ?_)
        · have hj := ltMap hc54
          have rj := atRow (f := evR) hj
          have bj := (few_lim y).evs
          have sj : (fewH y).evs[j].scan.length ≤ 4611686018427387904 := Nat.le_trans ((few_lim y).scans _ (List.getElem_mem hj)) (by decide)
          refine rn ?_
          refine aops_e rfl (oe_alloc rfl fun b13 => ?_)
          refine rn ?_
          refine aw_draw 12 rfl ?_
          refine rn ?_
          refine dsplit (fun hg17_2 => ?_) (fun hg17_2 => ?_)
          · refine rn ?_
            refine dsplit (fun hg17_6 => ?_) (fun hg17_6 => ?_)
            · refine rn ?_
              refine dv rfl rfl (by exact qv_call rfl rfl (pcall (sameEvent _ _ si sj) (Sbs.refl _))) ?_
              refine rn ?_
              refine qv rfl rfl (qv_call rfl rfl (pcall (refEvent _ _ si sj) (Sbs.refl _))) ?_
              refine rn ?_
              refine aw_cond rfl (fun hc72 => ?_) (fun hc72 => ?_)
              · refine rn ?_
                exact absurd hc72 (by simp)
              · refine rn ?_
                exact ⟨hj, trivial, eA⟩
            · refine rn ?_
              refine aw_cf rfl ?_
              refine rn ?_
              exact ⟨hj, trivial, eA⟩
          · refine rn ?_
            refine aw_cf rfl ?_
            refine rn ?_
            exact ⟨hj, trivial, eA⟩
        · have qj := geMap hc54 lj
          refine rn ?_
          exact ⟨hi, trivial, eA⟩
      · have qi := geMap hc46 li
        refine rn ?_
        refine aw_draw 11 rfl ?_
        refine rn ?_
        refine dv rfl rfl (by exact qv_call rfl rfl (pcall (same (fewH x) (fewH y) ((few_lim x).mono (by decide)) ((few_lim y).mono (by decide))) (Sbs.refl _))) ?_
        refine rn ?_
        refine dv rfl rfl (by exact qv_call rfl rfl (pcall (refSame (fewH x) (fewH y) ((few_lim x).mono (by decide)) ((few_lim y).mono (by decide))) (Sbs.refl _))) ?_
        refine rn ?_
        refine dsplit (fun hg21_7 => ?_) (fun hg21_7 => ?_)
        · refine rn ?_
          refine dv rfl rfl (by exact qv_call rfl rfl (pcall (few x la) (Sbs.refl _))) ?_
          refine rn ?_
          refine qv rfl rfl (qv_call rfl rfl (pcall (same (fewH x) (fewH x) ((few_lim x).mono (by decide)) ((few_lim x).mono (by decide))) (Sbs.refl _))) ?_
          refine rn ?_
          refine rq 4 ?_
          exact ⟨rfl, congrArg bv (by first | (exact sameB_t rfl) | (exfalso; revert hg21_7; simp))⟩
        · refine rn ?_
          refine rq 4 ?_
          exact ⟨rfl, congrArg bv (by first | (exact sameB_t rfl) | (exfalso; revert hg21_7; simp))⟩
end Go.Proofs
