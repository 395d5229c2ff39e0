/- The walk of the reference's Same. Conditions: none. -/
import Derived.Test.YtkoaoaogmlpocaaGreatDoorDTelI
set_option linter.unusedSectionVars false
set_option linter.unusedSimpArgs false
set_option linter.unusedVariables false
set_option linter.unusedVariables false
set_option linter.unusedSimpArgs false
set_option maxRecDepth 10000
namespace Go.Proofs
open Go Go.Ab
attribute [local irreducible] QR QV OE aops aw dsoup dsoupM dalloc dallocM thn inBlk
open Go.H
theorem refNamesD {f g : Bool} (l m : List ByteArray) (hl : l.length ≤ 4611686018427387904) (hm : m.length ≤ 4611686018427387904) : ACall Tryz.prog 67 [.list f 1 (l.map strR), .list g 1 (m.map strR)] [] (fun r h' => h' = [] ∧ r = bv (decide (l = m))) :=
  (refNames l m hl hm).mono (fun r h' q => ⟨q.1, by rw [q.2, eqF_eq strEq_eq]⟩)
theorem refNumbersD {f g : Bool} (l m : List Int) (hl : l.length ≤ 4611686018427387904) (hm : m.length ≤ 4611686018427387904) : ACall Tryz.prog 69 [.list f 1 (l.map intR), .list g 1 (m.map intR)] [] (fun r h' => h' = [] ∧ r = bv (decide (l = m))) :=
  (refNumbers l m hl hm).mono (fun r h' q => ⟨q.1, by rw [q.2, eqF_eq intEq_eq]⟩)
theorem refEventD (a b : Ev) (ha : a.scan.length ≤ 4611686018427387904) (hb : b.scan.length ≤ 4611686018427387904) : ACall Tryz.prog 68 [.agg (evR a), .agg (evR b)] [] (fun r h' => h' = [] ∧ r = bv (decide (a = b))) :=
  (refEvent a b ha hb).mono (fun r h' q => ⟨q.1, by rw [q.2, evEq_eq]⟩)
theorem sameB_f {a b : Hist} (h : a ≠ b) : sameB a b = false := by
  cases q : sameB a b with
  | false => rfl
  | true => exact absurd ((sameB_iff a b).1 q) h
theorem sameB_t {a b : Hist} (h : a = b) : sameB a b = true := (sameB_iff a b).2 h
set_option maxHeartbeats 4000000 in
theorem refSame (a b : Hist) (la : Lim 4611686018427387904 a) (lb : Lim 4611686018427387904 b) : ACall Tryz.prog 21 [.agg (histC a), .agg (histC b)] [] (fun r h' => h' = [] ∧ r = bv (sameB a b)) := by
  refine acall_of_aw Tryz.func21 rfl rfl rfl ?_
  refine rn ?_
  refine aops_e rfl (oe_box rfl rfl rfl fun b2 => ?_)
  refine aops_e rfl (oe_box rfl rfl rfl fun b3 => ?_)
  refine rn ?_
  refine qv rfl rfl (qv_call rfl rfl (pcall (refNamesD a.ts b.ts la.ts lb.ts) (Sbs.refl _))) ?_
  refine rn ?_
  refine asplit (fun hg1_6 => ?_) (fun hg1_6 => ?_)
  · refine rn ?_
    refine aw_ct rfl ?_
    refine rn ?_
    exact retq (.cons _ _ _ _ (.tmp _ _ rfl) .nil) (.drop [_, _] _ _) ⟨rfl, congrArg bv (Eq.symm (sameB_f fun q => by subst q; simp_all))⟩
  · refine rn ?_
    refine qv rfl rfl (qv_call rfl rfl (pcall (refNamesD a.ss b.ss la.ss lb.ss) (Sbs.refl _))) ?_
    refine rn ?_
    refine asplit (fun hg1_14 => ?_) (fun hg1_14 => ?_)
    · refine rn ?_
      refine aw_ct rfl ?_
      refine rn ?_
      exact retq (.cons _ _ _ _ (.tmp _ _ rfl) .nil) (.drop [_, _] _ _) ⟨rfl, congrArg bv (Eq.symm (sameB_f fun q => by subst q; simp_all))⟩
    · refine rn ?_
      refine qv rfl rfl (qv_call rfl rfl (pcall (refNamesD a.os b.os la.os lb.os) (Sbs.refl _))) ?_
      refine rn ?_
      refine asplit (fun hg1_22 => ?_) (fun hg1_22 => ?_)
      · refine rn ?_
        refine aw_ct rfl ?_
        refine rn ?_
        exact retq (.cons _ _ _ _ (.tmp _ _ rfl) .nil) (.drop [_, _] _ _) ⟨rfl, congrArg bv (Eq.symm (sameB_f fun q => by subst q; simp_all))⟩
      · refine rn ?_
        refine qv rfl rfl (qv_call rfl rfl (pcall (refNamesD a.ps b.ps la.ps lb.ps) (Sbs.refl _))) ?_
        refine rn ?_
        refine asplit (fun hg1_30 => ?_) (fun hg1_30 => ?_)
        · refine rn ?_
          refine aw_ct rfl ?_
          refine rn ?_
          exact retq (.cons _ _ _ _ (.tmp _ _ rfl) .nil) (.drop [_, _] _ _) ⟨rfl, congrArg bv (Eq.symm (sameB_f fun q => by subst q; simp_all))⟩
        · refine rn ?_
          refine asplit (fun hg1_39 => ?_) (fun hg1_39 => ?_)
          · refine rn ?_
            refine aw_ct rfl ?_
            refine rn ?_
            exact retq (.cons _ _ _ _ (.tmp _ _ rfl) .nil) (.drop [_, _] _ _) ⟨rfl, congrArg bv (Eq.symm (sameB_f fun q => by subst q; simp_all))⟩
          · refine rn ?_
            refine asplit (fun hg1_48 => ?_) (fun hg1_48 => ?_)
            · refine rn ?_
              refine aw_ct rfl ?_
              refine rn ?_
              exact retq (.cons _ _ _ _ (.tmp _ _ rfl) .nil) (.drop [_, _] _ _) ⟨rfl, congrArg bv (Eq.symm (sameB_f fun q => by subst q; simp_all))⟩
            · refine rn ?_
              refine asplit (fun hg1_57 => ?_) (fun hg1_57 => ?_)
              · refine rn ?_
                refine aw_ct rfl ?_
                refine rn ?_
                exact retq (.cons _ _ _ _ (.tmp _ _ rfl) .nil) (.drop [_, _] _ _) ⟨rfl, congrArg bv (Eq.symm (sameB_f fun q => by subst q; simp_all))⟩
              · refine rn ?_
                refine aw_cond rfl (fun hc78 => ?_) (fun hc78 => ?_)
                · refine rn ?_
                  exact retq (.cons _ _ _ _ (.tmp _ _ rfl) .nil) (.drop [_, _] _ _) ⟨rfl, congrArg bv (Eq.symm (sameB_f fun q => by subst q; simp_all))⟩
                · have Ets : a.ts = b.ts := by simp_all
                  have Ess : a.ss = b.ss := by simp_all
                  have Eos : a.os = b.os := by simp_all
                  have Eps : a.ps = b.ps := by simp_all
                  have Levs : a.evs.length = b.evs.length := by simp at *; omega
                  have Lords : a.ords.length = b.ords.length := by simp at *; omega
                  have Lmats : a.mats.length = b.mats.length := by simp at *; omega
                  have Lwants : a.wants.length = b.wants.length := by simp at *; omega
                  refine rn ?_
                  refine aw_loop' (fun k : Nat => k ≤ a.evs.length ∧ a.evs.take k = b.evs.take k) (fun k => ⟨[(82, iv k), (81, iv (a.evs.map evR).length), (2, .v (.pointer (some ⟨b2, 0, none⟩))), (3, .v (.pointer (some ⟨b3, 0, none⟩)))], [.box b3 28 (histC b), .box b2 28 (histC a)], []⟩) (fun k => a.evs.length - k) 0 ⟨Nat.zero_le _, by simp⟩
                    (ent_sub (.cons _ _ _ rfl (.cons _ _ _ rfl (.cons _ _ _ rfl (.cons _ _ _ rfl (.nil)))))) ?_
                  rintro k ⟨hk, ht⟩
                  refine rn ?_
                  refine aw_cond rfl (fun hc83 => ?_) (fun hc83 => ?_)
                  · have hbig := la.evs
                    have hk2 : k < a.evs.length := by simpa using hc83
                    have hk3 : k < b.evs.length := by omega
                    obtain ⟨x, hx0⟩ : ∃ x, x = a.evs[k] := ⟨_, rfl⟩
                    obtain ⟨y, hy0⟩ : ∃ y, y = b.evs[k] := ⟨_, rfl⟩
                    have hrow1 : (a.evs.map evR)[k]? = some (evR x) := by rw [hx0]; simp [hk2]
                    have hrow2 : (b.evs.map evR)[k]? = some (evR y) := by rw [hy0]; simp [hk3]
                    refine rn ?_
                    refine aw_draw 10 rfl ?_
                    refine rn ?_
                    refine qv rfl rfl (qv_call rfl rfl (pcall (refEventD x y (la.scans _ (by rw [hx0]; exact List.getElem_mem _)) (lb.scans _ (by rw [hy0]; exact List.getElem_mem _))) (Sbs.refl _))) ?_
                    refine rn ?_
                    refine aw_cond rfl (fun hc96 => ?_) (fun hc96 => ?_)
                    · have hne : x ≠ y := by clear hx0 hy0 hrow1 hrow2 ht; intro q; subst q; simp_all
                      refine rn ?_
                      exact retq (.cons _ _ _ _ (.tmp _ _ rfl) .nil) (.drop [_, _] _ _) ⟨rfl, congrArg bv (Eq.symm (sameB_f fun q => by subst q; exact hne (hx0.trans hy0.symm)))⟩
                    · have hxy : x = y := by simpa using hc96
                      refine rn ?_
                      exact ⟨k + 1, ⟨by omega, by rw [List.take_succ_eq_append_getElem hk2, List.take_succ_eq_append_getElem hk3, ht, ← hx0, ← hy0, hxy]⟩, (ent_sub (.cons _ _ _ rfl (.cons _ _ _ rfl (.cons _ _ _ rfl (.cons _ _ _ rfl (.nil)))))), by omega⟩
                  · have hk2 : ¬ k < a.evs.length := by simpa using hc83
                    have Eevs : a.evs = b.evs := by
                      have hk3 : k = a.evs.length := by omega
                      rw [hk3, List.take_length] at ht
                      rw [ht, Levs, List.take_length]
                    clear ht hk
                    refine rn ?_
                    refine aw_loop' (fun k : Nat => k ≤ a.ords.length ∧ a.ords.take k = b.ords.take k) (fun k => ⟨[(101, iv k), (100, iv (a.ords.map ordR).length), (99, ordsA a.ords), (2, .v (.pointer (some ⟨b2, 0, none⟩))), (3, .v (.pointer (some ⟨b3, 0, none⟩)))], [.box b3 28 (histC b), .box b2 28 (histC a)], []⟩) (fun k => a.ords.length - k) 0 ⟨Nat.zero_le _, by simp⟩
                      (ent_sub (.cons _ _ _ rfl (.cons _ _ _ rfl (.cons _ _ _ rfl (.cons _ _ _ rfl (.cons _ _ _ rfl (.nil))))))) ?_
                    rintro k ⟨hk, ht⟩
                    refine rn ?_
                    refine aw_cond rfl (fun hc102 => ?_) (fun hc102 => ?_)
                    · have hbig := la.ords
                      have hk2 : k < a.ords.length := by simpa using hc102
                      have hk3 : k < b.ords.length := by omega
                      obtain ⟨x, hx0⟩ : ∃ x, x = a.ords[k] := ⟨_, rfl⟩
                      obtain ⟨y, hy0⟩ : ∃ y, y = b.ords[k] := ⟨_, rfl⟩
                      have hrow1 : (a.ords.map ordR)[k]? = some (ordR x) := by rw [hx0]; simp [hk2]
                      have hrow2 : (b.ords.map ordR)[k]? = some (ordR y) := by rw [hy0]; simp [hk3]
                      refine rn ?_
                      refine aops_e rfl (oe_alloc rfl fun b7 => ?_)
                      refine rn ?_
                      refine aops_e rfl (oe_alloc rfl fun b8 => ?_)
                      refine rn ?_
                      refine asplit (fun hg13_5 => ?_) (fun hg13_5 => ?_)
                      · refine rn ?_
                        refine aw_ct rfl ?_
                        have hne : x ≠ y := by clear hx0 hy0 hrow1 hrow2 ht; intro q; subst q; simp_all
                        refine rn ?_
                        exact retq (.cons _ _ _ _ (.tmp _ _ rfl) .nil) (.drop [_, _, _, _] _ _) ⟨rfl, congrArg bv (Eq.symm (sameB_f fun q => by subst q; exact hne (hx0.trans hy0.symm)))⟩
                      · refine rn ?_
                        refine qv rfl rfl (qv_call rfl rfl (pcall (refNumbersD x.ts y.ts (la.ordts _ (by rw [hx0]; exact List.getElem_mem _)) (lb.ordts _ (by rw [hy0]; exact List.getElem_mem _))) (Sbs.refl _))) ?_
                        refine rn ?_
                        refine aw_cond rfl (fun hc123 => ?_) (fun hc123 => ?_)
                        · have hne : x ≠ y := by clear hx0 hy0 hrow1 hrow2 ht; intro q; subst q; simp_all
                          refine rn ?_
                          exact retq (.cons _ _ _ _ (.tmp _ _ rfl) .nil) (.drop [_, _, _, _] _ _) ⟨rfl, congrArg bv (Eq.symm (sameB_f fun q => by subst q; exact hne (hx0.trans hy0.symm)))⟩
                        · have hxy : x = y := by clear hx0 hy0 hrow1 hrow2 ht; cases x; cases y; simp_all
                          refine rn ?_
                          exact ⟨k + 1, ⟨by omega, by rw [List.take_succ_eq_append_getElem hk2, List.take_succ_eq_append_getElem hk3, ht, ← hx0, ← hy0, hxy]⟩, (ent_trans (ent_drop (h1 := [_, _])) (ent_sub (.cons _ _ _ rfl (.cons _ _ _ rfl (.cons _ _ _ rfl (.cons _ _ _ rfl (.cons _ _ _ rfl (.nil)))))))), by omega⟩
                    · have hk2 : ¬ k < a.ords.length := by simpa using hc102
                      have Eords : a.ords = b.ords := by
                        have hk3 : k = a.ords.length := by omega
                        rw [hk3, List.take_length] at ht
                        rw [ht, Lords, List.take_length]
                      clear ht hk
                      refine rn ?_
                      refine aw_loop' (fun k : Nat => k ≤ a.mats.length ∧ a.mats.take k = b.mats.take k) (fun k => ⟨[(128, iv k), (127, iv (a.mats.map matR).length), (126, matsA a.mats), (2, .v (.pointer (some ⟨b2, 0, none⟩))), (3, .v (.pointer (some ⟨b3, 0, none⟩)))], [.box b3 28 (histC b), .box b2 28 (histC a)], []⟩) (fun k => a.mats.length - k) 0 ⟨Nat.zero_le _, by simp⟩
                        (ent_sub (.cons _ _ _ rfl (.cons _ _ _ rfl (.cons _ _ _ rfl (.cons _ _ _ rfl (.cons _ _ _ rfl (.nil))))))) ?_
                      rintro k ⟨hk, ht⟩
                      refine rn ?_
                      refine aw_cond rfl (fun hc129 => ?_) (fun hc129 => ?_)
                      · have hbig := la.mats
                        have hk2 : k < a.mats.length := by simpa using hc129
                        have hk3 : k < b.mats.length := by omega
                        obtain ⟨x, hx0⟩ : ∃ x, x = a.mats[k] := ⟨_, rfl⟩
                        obtain ⟨y, hy0⟩ : ∃ y, y = b.mats[k] := ⟨_, rfl⟩
                        have hrow1 : (a.mats.map matR)[k]? = some (matR x) := by rw [hx0]; simp [hk2]
                        have hrow2 : (b.mats.map matR)[k]? = some (matR y) := by rw [hy0]; simp [hk3]
                        refine rn ?_
                        refine aops_e rfl (oe_alloc rfl fun b10 => ?_)
                        refine rn ?_
                        refine aops_e rfl (oe_alloc rfl fun b11 => ?_)
                        refine rn ?_
                        refine asplit (fun hg20_5 => ?_) (fun hg20_5 => ?_)
                        · refine rn ?_
                          refine aw_ct rfl ?_
                          have hne : x ≠ y := by clear hx0 hy0 hrow1 hrow2 ht; intro q; subst q; simp_all
                          refine rn ?_
                          exact retq (.cons _ _ _ _ (.tmp _ _ rfl) .nil) (.drop [_, _, _, _] _ _) ⟨rfl, congrArg bv (Eq.symm (sameB_f fun q => by subst q; exact hne (hx0.trans hy0.symm)))⟩
                        · refine rn ?_
                          refine asplit (fun hg20_12 => ?_) (fun hg20_12 => ?_)
                          · refine rn ?_
                            refine aw_ct rfl ?_
                            have hne : x ≠ y := by clear hx0 hy0 hrow1 hrow2 ht; intro q; subst q; simp_all
                            refine rn ?_
                            exact retq (.cons _ _ _ _ (.tmp _ _ rfl) .nil) (.drop [_, _, _, _] _ _) ⟨rfl, congrArg bv (Eq.symm (sameB_f fun q => by subst q; exact hne (hx0.trans hy0.symm)))⟩
                          · refine rn ?_
                            refine asplit (fun hg20_19 => ?_) (fun hg20_19 => ?_)
                            · refine rn ?_
                              refine aw_ct rfl ?_
                              have hne : x ≠ y := by clear hx0 hy0 hrow1 hrow2 ht; intro q; subst q; simp_all
                              refine rn ?_
                              exact retq (.cons _ _ _ _ (.tmp _ _ rfl) .nil) (.drop [_, _, _, _] _ _) ⟨rfl, congrArg bv (Eq.symm (sameB_f fun q => by subst q; exact hne (hx0.trans hy0.symm)))⟩
                            · refine rn ?_
                              refine qv rfl rfl (qv_call rfl rfl (pcall (refNumbersD x.ts y.ts (la.matts _ (by rw [hx0]; exact List.getElem_mem _)) (lb.matts _ (by rw [hy0]; exact List.getElem_mem _))) (Sbs.refl _))) ?_
                              refine rn ?_
                              refine aw_cond rfl (fun hc164 => ?_) (fun hc164 => ?_)
                              · have hne : x ≠ y := by clear hx0 hy0 hrow1 hrow2 ht; intro q; subst q; simp_all
                                refine rn ?_
                                exact retq (.cons _ _ _ _ (.tmp _ _ rfl) .nil) (.drop [_, _, _, _] _ _) ⟨rfl, congrArg bv (Eq.symm (sameB_f fun q => by subst q; exact hne (hx0.trans hy0.symm)))⟩
                              · have hxy : x = y := by clear hx0 hy0 hrow1 hrow2 ht; cases x; cases y; simp_all
                                refine rn ?_
                                exact ⟨k + 1, ⟨by omega, by rw [List.take_succ_eq_append_getElem hk2, List.take_succ_eq_append_getElem hk3, ht, ← hx0, ← hy0, hxy]⟩, (ent_trans (ent_drop (h1 := [_, _])) (ent_sub (.cons _ _ _ rfl (.cons _ _ _ rfl (.cons _ _ _ rfl (.cons _ _ _ rfl (.cons _ _ _ rfl (.nil)))))))), by omega⟩
                      · have hk2 : ¬ k < a.mats.length := by simpa using hc129
                        have Emats : a.mats = b.mats := by
                          have hk3 : k = a.mats.length := by omega
                          rw [hk3, List.take_length] at ht
                          rw [ht, Lmats, List.take_length]
                        clear ht hk
                        refine rn ?_
                        refine aw_loop' (fun k : Nat => k ≤ a.wants.length ∧ a.wants.take k = b.wants.take k) (fun k => ⟨[(169, iv k), (168, iv (a.wants.map wanR).length), (2, .v (.pointer (some ⟨b2, 0, none⟩))), (3, .v (.pointer (some ⟨b3, 0, none⟩)))], [.box b3 28 (histC b), .box b2 28 (histC a)], []⟩) (fun k => a.wants.length - k) 0 ⟨Nat.zero_le _, by simp⟩
                          (ent_sub (.cons _ _ _ rfl (.cons _ _ _ rfl (.cons _ _ _ rfl (.cons _ _ _ rfl (.nil)))))) ?_
                        rintro k ⟨hk, ht⟩
                        refine rn ?_
                        refine aw_cond rfl (fun hc170 => ?_) (fun hc170 => ?_)
                        · have hbig := la.wants
                          have hk2 : k < a.wants.length := by simpa using hc170
                          have hk3 : k < b.wants.length := by omega
                          obtain ⟨x, hx0⟩ : ∃ x, x = a.wants[k] := ⟨_, rfl⟩
                          obtain ⟨y, hy0⟩ : ∃ y, y = b.wants[k] := ⟨_, rfl⟩
                          have hrow1 : (a.wants.map wanR)[k]? = some (wanR x) := by rw [hx0]; simp [hk2]
                          have hrow2 : (b.wants.map wanR)[k]? = some (wanR y) := by rw [hy0]; simp [hk3]
                          refine rn ?_
                          refine aw_draw 10 rfl ?_
                          refine rn ?_
                          refine aw_cond rfl (fun hc182 => ?_) (fun hc182 => ?_)
                          · have hne : x ≠ y := by clear hx0 hy0 hrow1 hrow2 ht; intro q; subst q; simp_all
                            refine rn ?_
                            exact retq (.cons _ _ _ _ (.tmp _ _ rfl) .nil) (.drop [_, _] _ _) ⟨rfl, congrArg bv (Eq.symm (sameB_f fun q => by subst q; exact hne (hx0.trans hy0.symm)))⟩
                          · have hxy : x = y := by clear hx0 hy0 hrow1 hrow2 ht; cases x; cases y; simp_all
                            refine rn ?_
                            exact ⟨k + 1, ⟨by omega, by rw [List.take_succ_eq_append_getElem hk2, List.take_succ_eq_append_getElem hk3, ht, ← hx0, ← hy0, hxy]⟩, (ent_sub (.cons _ _ _ rfl (.cons _ _ _ rfl (.cons _ _ _ rfl (.cons _ _ _ rfl (.nil)))))), by omega⟩
                        · have hk2 : ¬ k < a.wants.length := by simpa using hc170
                          have Ewants : a.wants = b.wants := by
                            have hk3 : k = a.wants.length := by omega
                            rw [hk3, List.take_length] at ht
                            rw [ht, Lwants, List.take_length]
                          clear ht hk
                          refine rn ?_
                          exact retq (.cons _ _ _ _ (.tmp _ _ rfl) .nil) (.drop [_, _] _ _) ⟨rfl, congrArg bv (Eq.symm (sameB_t (by cases a; cases b; simp_all)))⟩
end Go.Proofs
/- The walks of rows of dirty reads, and of seen ones. Conditions: none. -/
set_option linter.unusedVariables false
set_option linter.unusedSimpArgs false
set_option maxRecDepth 10000
namespace Go.Proofs
open Go Go.Ab
attribute [local irreducible] QR QV OE aops aw dsoup dsoupM dalloc dallocM thn inBlk jsoup jch lsoup
open Go.H
def dirEq (a b : Dirt) : Bool := ([a.kind, a.ev, a.o, a.v.t, a.v.k] : List Int) == [b.kind, b.ev, b.o, b.v.t, b.v.k]
theorem dirEq_eq (a b : Dirt) : dirEq a b = decide (a = b) := by rw [dirEq, dir_list]; rfl
theorem same23 (h : Hist) (la : Lim 4611686018427387904 h) : ACall Tryz.prog 21 [.agg (histC h), .agg (histC h)] [] (fun r h' => h' = [] ∧ r = bv true) := (refSame h h la la).mono fun _ _ q => ⟨q.1, by rw [q.2, sameB_self]⟩
theorem eqI (l : List Int) (hl : l.length ≤ 4611686018427387904) : ACall Tryz.prog 22 [intsA l, intsA l] [] (fun r h' => h' = [] ∧ r = bv true) := (equalInt l l hl hl).mono fun _ _ q => ⟨q.1, by rw [q.2, eqF_eq intEq_eq]; simp⟩
theorem qr_isB {P : Program} {h : List Res} {f : Operand → Option AV} {o : Oper} {b c : Bool} (hq : QR P h f o (.v (.bool b))) (e : b = c) : QR P h f o (.v (.bool c)) := by subst e; exact hq
theorem dirAll_len (h : Hist) (a : List Int) : (dirAll h a).length ≤ 20000000 := by
  rw [dirAll]
  split
  · exact dirL_len (dirC_0.1 ‹_›).1 a
  · exact Nat.zero_le _
theorem all_m {h : Hist} {a : List Int} (hd : ¬ dirC h a = 0) : dirAll h a = [] := all_n hd
theorem equalDir {f g : Bool} (l m : List Dirt) (hl : l.length ≤ 4611686018427387904) (hm : m.length ≤ 4611686018427387904) : ACall Tryz.prog 20 [.list f 5 (l.map dirR), .list g 5 (m.map dirR)] [] (fun r h' => h' = [] ∧ r = bv (eqF dirEq l m)) := by
  refine acall_of_aw Tryz.func20 rfl rfl rfl ?_
  refine rn ?_
  refine aw_cond rfl (fun hc10 => ?_) (fun hc10 => ?_)
  · refine rn ?_
    have hne : (l.length == m.length) = false := beq_eq_false_iff_ne.2 fun q => by simp [q] at hc10
    exact retq (.cons _ _ _ _ (.tmp _ _ rfl) .nil) (.refl _ _) ⟨rfl, by rw [eqF, hne, Bool.false_and]; rfl⟩
  · have hlm : l.length = m.length := by simp at hc10; omega
    refine rn ?_
    refine aw_loop' (fun k : Nat => k ≤ l.length ∧ zall dirEq l m = zall dirEq (l.drop k) (m.drop k)) (fun k => ⟨[(13, iv k), (0, .list f 5 (l.map dirR)), (1, .list g 5 (m.map dirR)), (12, iv (l.map dirR).length)], [], []⟩) (fun k => l.length - k) 0 ⟨Nat.zero_le _, by simp⟩
      (ent_sub (.cons _ _ _ rfl (.cons _ _ _ rfl (.cons _ _ _ rfl (.cons _ _ _ rfl (.nil)))))) ?_
    rintro k ⟨hk, hz⟩
    refine rn ?_
    refine aw_cond rfl (fun hc14 => ?_) (fun hc14 => ?_)
    · have hk2 : k < l.length := by simpa using hc14
      have hk3 : k < m.length := by omega
      have hrow1 : (l.map dirR)[k]? = some (dirR l[k]) := by simp [hk2]
      have hrow2 : (m.map dirR)[k]? = some (dirR m[k]) := by simp [hk3]
      have hd1 := List.drop_eq_getElem_cons hk2
      have hd2 := List.drop_eq_getElem_cons hk3
      refine rn ?_
      refine aw_draw 8 rfl ?_
      refine rn ?_
      refine aw_cond rfl (fun hc24 => ?_) (fun hc24 => ?_)
      · refine rn ?_
        exact retq (.cons _ _ _ _ (.tmp _ _ rfl) .nil) (.refl _ _) ⟨rfl, by rw [eqF, hz, hd1, hd2, zall, show dirEq l[k] m[k] = false from not_t hc24, Bool.false_and, Bool.and_false]; rfl⟩
      · refine rn ?_
        exact ⟨k + 1, ⟨by omega, by rw [hz, hd1, hd2, zall, show dirEq l[k] m[k] = true from not_f hc24, Bool.true_and]⟩, (ent_sub (.cons _ _ _ rfl (.cons _ _ _ rfl (.cons _ _ _ rfl (.cons _ _ _ rfl (.nil)))))), by omega⟩
    · have hk3 : k = l.length := by
        have : l.length ≤ k := by simpa using hc14
        omega
      refine rn ?_
      exact retq (.cons _ _ _ _ (.tmp _ _ rfl) .nil) (.refl _ _) ⟨rfl, by rw [eqF, hz, hk3, List.drop_length, zall_nil, hlm, beq_self_eq_true]; rfl⟩
theorem eqDir {f g : Bool} (l : List Dirt) (hl : l.length ≤ 4611686018427387904) : ACall Tryz.prog 20 [.list f 5 (l.map dirR), .list g 5 (l.map dirR)] [] (fun r h' => h' = [] ∧ r = bv true) := (equalDir l l hl hl).mono fun _ _ q => ⟨q.1, by rw [q.2, eqF_eq dirEq_eq]; simp⟩
end Go.Proofs
/- Structs of numbers that are the same. Conditions: none. -/
set_option linter.unusedVariables false
namespace Go.Ab
open Go
section
variable {P : Program} {h : List Res} {f : Operand → Option AV} {dst : Option Tmp} {ty : TypeId} {pos : String} {after : Array Edge} {guard : Option (Nat × Bool)} {x y : Operand}
theorem qr_eqagg_t {T T' : TypeId} {n : Nat} {cs ds : List AV} {xs ys : List Int} (hx : f x = some (.agg cs)) (hy : f y = some (.agg ds)) (h1 : intsOf cs = some xs) (h2 : intsOf ds = some ys) (e : (xs == ys) = true) [he : EqInts P T n] (hn1 : cs.length = n := by rfl) (hn2 : ds.length = n := by rfl) :
    QR P h f ⟨dst, .binOp .eql T x y T', ty, pos, after, guard⟩ (.v (.bool true)) := by
  have := qr_eqagg (P := P) (h := h) (f := f) (dst := dst) (ty := ty) (pos := pos) (after := after) (guard := guard) (T := T) (T' := T') hx hy h1 h2 hn1 hn2
  rwa [e] at this
end
end Go.Ab
/- The walks of DirtyTells, DirtyIs. Conditions: none. -/
set_option linter.unusedVariables false
set_option linter.unusedSimpArgs false
set_option maxRecDepth 10000
namespace Go.Proofs
open Go Go.Ab
attribute [local irreducible] QR QV OE aops aw dsoup dsoupM dalloc dallocM thn inBlk jsoup jch lsoup
open Go.H
set_option maxHeartbeats 4000000 in
theorem dirtyTells (x : Hist) (y : List Int) (lb : Lim 4611686018427387904 x) (hl : y.length ≤ 4611686018427387904) : ACall Tryz.prog 3 [.agg (histC x), intsA y] (.glob 0 186 limitsC :: .glob 2 287 firstC :: .glob 3 290 acceptC :: .glob 1 250 asksC :: []) (fun r h' => h' = .glob 0 186 limitsC :: .glob 2 287 firstC :: .glob 3 290 acceptC :: .glob 1 250 asksC :: [] ∧ r = bv true) := by
  refine acall_of_aw Tryz.func3 rfl rfl rfl ?_
  refine rn ?_
  refine aops_e rfl (oe_box rfl rfl rfl fun b2 => ?_)
  refine rn ?_
  refine qv rfl rfl (qv_call rfl rfl (FCall.qt (FCall.of_fun wakes23) ((pt1 _ _ _).trans (.cons _ ((pt1 _ _ _).trans (.cons _ ((pt1 _ _ _).trans (.cons _ (pt1 _ _ _))))))))) ?_
  refine rn ?_
  refine aw_cond rfl (fun hc15 => ?_) (fun hc15 => ?_)
  · exact absurd hc15 (by decide)
  · refine rn ?_
    refine qv rfl rfl (qv_call rfl rfl (pcall (few23 x lb) (Sbs.refl _))) ?_
    refine rn ?_
    refine qv rfl rfl (qv_call rfl rfl (pcall (levels y hl) (Sbs.refl _))) ?_
    refine aops_e rfl (oe_alloc rfl fun b5 => ?_)
    refine rn ?_
    refine qv rfl rfl (qv_call rfl rfl (FCall.qt (FCall.of_fun (dirtyAll (fewA x) ((fewA_lim x).mono (by decide)) (levX y) (Nat.le_trans (levX_len y) (by decide)))) ((pt2 _ _ _ _).trans (.cons _ ((pt2 _ _ _ _).trans (.cons _ ((pt2 _ _ _ _).trans (.cons _ (pt2 _ _ _ _))))))))) ?_
    refine rn ?_
    refine qv rfl rfl (qv_call rfl rfl (FCall.qt (FCall.of_fun (dirtyFirst (fewA x) ((fewA_lim x).mono (by decide)) (levX y) (Nat.le_trans (levX_len y) (by decide)))) ((pt2 _ _ _ _).trans (.cons _ ((pt2 _ _ _ _).trans (.cons _ ((pt2 _ _ _ _).trans (.cons _ (pt2 _ _ _ _))))))))) ?_
    refine rn ?_
    refine aops_e rfl (oe_alloc rfl fun b9 => ?_)
    refine rn ?_
    refine qv rfl rfl (qv_call rfl rfl (pcall (refCheck23 (fewA x) ((fewA_lim x).mono (by decide)) (levX y) (Nat.le_trans (levX_len y) (by decide))) (Sbs.refl _))) ?_
    refine q1 ?_
    refine aops_nil (thn_n ?_)
    refine aw_seq (aw_region ?_)
    refine qq rfl rfl (qr_weak (fun w O v hr => Sb.rel (Sb.nil false 5) hr) (qr_assign rfl)) ?_
    refine rn0 ?_
    refine aw_cut (⟨[(13, dirsA (dirAll (fewA x) (levX y))), (1, intsA y), (2, .v (.pointer (some ⟨b2, 0, none⟩))), (5, .v (.pointer (some ⟨b5, 0, none⟩))), (6, intsA (levX y)), (7, dirsA (dirAll (fewA x) (levX y))), (8, iv (dirC (fewA x) (levX y))), (9, .v (.pointer (some ⟨b9, 0, none⟩))), (10, bv (dirAll (fewA x) (levX y)).head?.isSome), (11, iv (dirC (fewA x) (levX y))), (12, iv (dirC (fewA x) (levX y)))], .box b9 40 (dirR ((dirAll (fewA x) (levX y)).head?.getD dir0)) :: .box b5 28 (histC (fewA x)) :: .box b2 28 (histC x) :: .glob 0 186 limitsC :: .glob 2 287 firstC :: .glob 3 290 acceptC :: .glob 1 250 asksC :: [], []⟩) ?_ ?_
    · refine rn ?_
      refine aw_cond rfl (fun hc37 => ?_) (fun hc37 => ?_)
      · have hd : (dirC (fewA x) (levX y)) = 0 := by simpa using hc37
        refine rn ?_
        refine qv rfl rfl (qv_call rfl rfl (pcall (few23 x lb) (Sbs.refl _))) ?_
        refine rn ?_
        refine qv rfl rfl (qv_call rfl rfl (pcall (levels y hl) (Sbs.refl _))) ?_
        refine qv rfl rfl (qv_call rfl rfl (pcall (refAll23 (fewA x) ((fewA_lim x).mono (by decide) : Lim 1000000 (fewA x)) (levX y) hd) (Sbs.refl _))) ?_
        refine rn ?_
        first | (rw [all_m hd]; exact eA) | exact eA
      · have hd : ¬ (dirC (fewA x) (levX y)) = 0 := by simpa using hc37
        refine rn ?_
        first | (rw [all_m hd]; exact eA) | exact eA
    · refine rn ?_
      refine aw_draw 32 rfl ?_
      refine dq rfl rfl qrA ?_
      refine dq rfl rfl qrA ?_
      refine dq rfl rfl (qr_cmp (c := false) rfl rfl (congrArg some (bne_self_eq_false _))) ?_
      refine dq rfl rfl qrA ?_
      refine dq rfl rfl qrA ?_
      refine dq rfl rfl qrA ?_
      refine dq rfl rfl (qr_cmp (c := false) rfl rfl (congrArg some (bne_self_eq_false _))) ?_
      refine rn ?_
      refine dv rfl rfl (by exact qv_call rfl rfl (pcall (eqDir (dirAll (fewA x) (levX y)) (Nat.le_trans (dirAll_len _ _) (by decide))) (Sbs.refl _))) ?_
      refine dq rfl rfl qrA ?_
      refine dq rfl rfl qrA ?_
      refine dq rfl rfl qrA ?_
      refine dq rfl rfl qrA ?_
      refine dq rfl rfl qrA ?_
      refine dq rfl rfl qrA ?_
      refine dq rfl rfl qrA ?_
      refine dq rfl rfl (qr_isB (c := false) (qr_nebool rfl rfl) (by rw [List.length_map]; cases (dirAll (fewA x) (levX y)) <;> simp)) ?_
      refine rn ?_
      refine dv rfl rfl (by exact qv_call rfl rfl (pcall (few23 x lb) (Sbs.refl _))) ?_
      refine dv rfl rfl (by exact qv_call rfl rfl (pcall (same23 (fewA x) ((fewA_lim x).mono (by decide))) (Sbs.refl _))) ?_
      refine rn ?_
      refine dv rfl rfl (by exact qv_call rfl rfl (pcall (levels y hl) (Sbs.refl _))) ?_
      refine rn ?_
      refine qv rfl rfl (qv_call rfl rfl (pcall (eqI (levX y) (Nat.le_trans (levX_len y) (by decide))) (Sbs.refl _))) ?_
      refine rn ?_
      refine aw_cond rfl (fun hc77 => ?_) (fun hc77 => ?_)
      · exact absurd hc77 (by decide)
      · refine rn ?_
        refine aw_cond rfl (fun hc79 => ?_) (fun hc79 => ?_)
        · have hn : (dirAll (fewA x) (levX y)) = [] := by have q := not_t hc79; cases hL : (dirAll (fewA x) (levX y)) <;> simp [hL] at q ⊢
          rw [hn]
          refine rn ?_
          first | (refine rq 3 ?_; exact ⟨rfl, rfl⟩) | (refine rq 2 ?_; exact ⟨rfl, rfl⟩)
        · obtain ⟨d, rest, hn⟩ : ∃ d rest, (dirAll (fewA x) (levX y)) = d :: rest := by have q := not_f hc79; cases hL : (dirAll (fewA x) (levX y)) <;> simp [hL] at q ⊢
          rw [hn]
          refine rn ?_
          refine aw_draw 4 rfl ?_
          refine dq rfl rfl qrA ?_
          refine dq rfl rfl qrA ?_
          refine dq rfl rfl (qr_index_int rfl rfl (by decide) rfl) ?_
          refine rn2 ?_
          refine qq rfl rfl (qr_eqagg_t rfl rfl rfl rfl (beq_self_eq_true _)) ?_
          refine rn ?_
          first | (refine rq 3 ?_; exact ⟨rfl, rfl⟩) | (refine rq 2 ?_; exact ⟨rfl, rfl⟩)
end Go.Proofs
