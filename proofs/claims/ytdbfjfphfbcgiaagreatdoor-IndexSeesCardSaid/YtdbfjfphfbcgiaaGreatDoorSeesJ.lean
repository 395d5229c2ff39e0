/- The walk of the reference's event. Conditions: none. -/
import Derived.Test.YtdbfjfphfbcgiaaGreatDoorSeesI
set_option linter.unusedSectionVars false
set_option linter.unusedSimpArgs false
set_option linter.unusedVariables false
set_option linter.unusedVariables false
set_option linter.unusedSimpArgs false
set_option maxRecDepth 10000
namespace Go.Proofs
open Go Go.Ab
attribute [local irreducible] QR QV OE aops aw dsoup dsoupM dalloc dallocM thn inBlk jsoup jch lsoup
open Go.H
set_option maxHeartbeats 4000000 in
theorem refEvent15 (rl : Nat) (e : Ev) (l : List Ev) (h1 : 1 ≤ rl) (h6 : rl ≤ 6) (la : l.length ≤ 1000000) (hl : e.scan.length ≤ 1000000) : ACall Tryz.prog 129 [iv rl, .agg (evR e), evsA l] [] (fun r h' => h' = [] ∧ r = bv (wrongR rl e l)) := by
  refine acall_of_aw Tryz.func129 rfl rfl rfl ?_
  refine rn ?_
  refine aops_e rfl (oe_box rfl rfl rfl fun b4 => ?_)
  refine rn ?_
  refine aw_rngS l.length (fun j x => x.1 = (l.take j).any (fun y : Ev => y.t == e.t && y.kind == 1) ∧ x.2 = (l.take j).any (fun y : Ev => y.t == e.t && (y.kind == 5 || y.kind == 6))) (fun j x => [(21, iv j), (7, bv x.1), (8, bv x.2)]) [(0, _), (2, _), (4, _), (19, _), (20, _)] (false, false) ⟨rfl, rfl⟩ ?_
  rintro j ⟨bg, ov⟩ lj ⟨zb, zo⟩
  refine rn ?_
  refine aw_cond rfl (fun hc22 => ?_) (fun hc22 => ?_)
  · have hj := ltMap hc22
    have rj := atRow (f := evR) hj
    refine rn ?_
    refine aops_e rfl (oe_alloc rfl fun b10 => ?_)
    refine rn ?_
    refine aw_cond rfl (fun hc29 => ?_) (fun hc29 => ?_)
    · refine rn ?_
      refine asplit (fun hg6_1 => ?_) (fun hg6_1 => ?_)
      · refine rn ?_
        refine asplit (fun hg7_1 => ?_) (fun hg7_1 => ?_)
        · refine rn ?_
          refine ⟨hj, (_, _), ?_, eA⟩
          rw [any_step hj, any_step hj]
          generalize (l.take j).any (fun y : Ev => y.t == e.t && y.kind == 1) = A at *
          generalize (l.take j).any (fun y : Ev => y.t == e.t && (y.kind == 5 || y.kind == 6)) = B at *
          simp_all
        · refine rn ?_
          refine asplit (fun hg7_6 => ?_) (fun hg7_6 => ?_)
          · refine rn ?_
            refine ⟨hj, (_, _), ?_, eA⟩
            rw [any_step hj, any_step hj]
            generalize (l.take j).any (fun y : Ev => y.t == e.t && y.kind == 1) = A at *
            generalize (l.take j).any (fun y : Ev => y.t == e.t && (y.kind == 5 || y.kind == 6)) = B at *
            simp_all
          · refine rn ?_
            refine ⟨hj, (_, _), ?_, eA⟩
            rw [any_step hj, any_step hj]
            generalize (l.take j).any (fun y : Ev => y.t == e.t && y.kind == 1) = A at *
            generalize (l.take j).any (fun y : Ev => y.t == e.t && (y.kind == 5 || y.kind == 6)) = B at *
            simp_all
      · refine rn ?_
        refine asplit (fun hg7_1 => ?_) (fun hg7_1 => ?_)
        · refine rn ?_
          refine ⟨hj, (_, _), ?_, eA⟩
          rw [any_step hj, any_step hj]
          generalize (l.take j).any (fun y : Ev => y.t == e.t && y.kind == 1) = A at *
          generalize (l.take j).any (fun y : Ev => y.t == e.t && (y.kind == 5 || y.kind == 6)) = B at *
          simp_all
        · refine rn ?_
          refine asplit (fun hg7_6 => ?_) (fun hg7_6 => ?_)
          · refine rn ?_
            refine ⟨hj, (_, _), ?_, eA⟩
            rw [any_step hj, any_step hj]
            generalize (l.take j).any (fun y : Ev => y.t == e.t && y.kind == 1) = A at *
            generalize (l.take j).any (fun y : Ev => y.t == e.t && (y.kind == 5 || y.kind == 6)) = B at *
            simp_all
          · refine rn ?_
            refine ⟨hj, (_, _), ?_, eA⟩
            rw [any_step hj, any_step hj]
            generalize (l.take j).any (fun y : Ev => y.t == e.t && y.kind == 1) = A at *
            generalize (l.take j).any (fun y : Ev => y.t == e.t && (y.kind == 5 || y.kind == 6)) = B at *
            simp_all
    · refine rn ?_
      refine ⟨hj, (_, _), ?_, eA⟩
      rw [any_step hj, any_step hj]
      generalize (l.take j).any (fun y : Ev => y.t == e.t && y.kind == 1) = A at *
      generalize (l.take j).any (fun y : Ev => y.t == e.t && (y.kind == 5 || y.kind == 6)) = B at *
      simp_all
  · have qj := geMap hc22 lj
    have zB : bg = begunB l e.t := by rw [begunB_eq, begunL]; simpa [qj] using zb
    have zO : ov = overB l e.t := by rw [overB]; simpa [qj] using zo
    refine rn ?_
    refine aw_cond rfl (fun hc49 => ?_) (fun hc49 => ?_)
    · have e1 : rl = 1 := by have h := hc49; simp at h; omega
      refine rn ?_
      refine asplit (fun hg11_1 => ?_) (fun hg11_1 => ?_)
      · refine rn ?_
        refine asplit (fun hg11_6 => ?_) (fun hg11_6 => ?_)
        · refine rn ?_
          refine rq 1 ?_
          exact ⟨rfl, congrArg bv (by subst e1; show _ = (begunB l e.t && e.kind == 1 || !begunB l e.t && e.kind != 1); rw [← zB]; clear zb zo zB zO; simp_all)⟩
        · refine rn ?_
          refine asplit (fun hg11_9 => ?_) (fun hg11_9 => ?_)
          · refine rn ?_
            refine rq 1 ?_
            exact ⟨rfl, congrArg bv (by subst e1; show _ = (begunB l e.t && e.kind == 1 || !begunB l e.t && e.kind != 1); rw [← zB]; clear zb zo zB zO; simp_all)⟩
          · refine rn ?_
            refine rq 1 ?_
            exact ⟨rfl, congrArg bv (by subst e1; show _ = (begunB l e.t && e.kind == 1 || !begunB l e.t && e.kind != 1); rw [← zB]; clear zb zo zB zO; simp_all)⟩
      · refine rn ?_
        refine asplit (fun hg11_9 => ?_) (fun hg11_9 => ?_)
        · refine rn ?_
          refine rq 1 ?_
          exact ⟨rfl, congrArg bv (by subst e1; show _ = (begunB l e.t && e.kind == 1 || !begunB l e.t && e.kind != 1); rw [← zB]; clear zb zo zB zO; simp_all)⟩
        · refine rn ?_
          refine rq 1 ?_
          exact ⟨rfl, congrArg bv (by subst e1; show _ = (begunB l e.t && e.kind == 1 || !begunB l e.t && e.kind != 1); rw [← zB]; clear zb zo zB zO; simp_all)⟩
    · have n1 : rl ≠ 1 := by intro h; subst h; exact absurd hc49 (by decide)
      refine rn ?_
      refine aw_cond rfl (fun hc66 => ?_) (fun hc66 => ?_)
      · have e2 : rl = 2 := by have h := hc66; simp at h; omega
        refine rn ?_
        refine rq 1 ?_
        exact ⟨rfl, congrArg bv (by subst e2; show _ = overB l e.t; rw [← zO])⟩
      · have n2 : rl ≠ 2 := by intro h; subst h; exact absurd hc66 (by decide)
        refine rn ?_
        refine aw_cond rfl (fun hc69 => ?_) (fun hc69 => ?_)
        · have e3 : rl = 3 := by have h := hc69; simp at h; omega
          refine rn ?_
          refine aw_draw 15 rfl ?_
          refine rn ?_
          refine dsplit (fun hg15_3 => ?_) (fun hg15_3 => ?_)
          · refine rn ?_
            refine dv rfl rfl (by exact qv_call rfl rfl (pcall (refWrote l e.t e.o la) (Sbs.refl _))) ?_
            refine dq rfl rfl qrA ?_
            first | refine ds rfl rfl ?_ | refine dq rfl rfl (qr_ari rfl rfl rfl (by rw [List.length_map]; have := wroteL_le l e.t e.o; omega)) ?_
            refine rn ?_
            refine rq 1 ?_
            exact ⟨rfl, congrArg bv (by subst e3; simp_all [wrongR])⟩
          · refine rn ?_
            refine rq 1 ?_
            exact ⟨rfl, congrArg bv (by subst e3; simp_all [wrongR])⟩
        · have n3 : rl ≠ 3 := by intro h; subst h; exact absurd hc69 (by decide)
          refine rn ?_
          refine qv rfl rfl (qv_call rfl rfl (pcall (refSeen e) (Sbs.refl _))) ?_
          refine rn ?_
          refine aw_rng ((seenOf e).length) (fun k : Nat => OkS rl e l k) (fun k => [(91, iv k)]) [(0, _), (2, _), (4, _), (89, _), (90, _)] (fun i _ h => absurd h (Nat.not_lt_zero _)) ?_
          intro k lk zk
          refine rn ?_
          refine aw_cond rfl (fun hc92 => ?_) (fun hc92 => ?_)
          · have hk := ltMap hc92
            have rk := atRow (f := seenR) hk
            have sl := seenOf_len (e := e) (Nat.le_trans hl (by decide))
            refine rn ?_
            refine aops_e rfl (oe_alloc rfl fun b12 => ?_)
            refine rn ?_
            refine qv rfl rfl (qv_call rfl rfl (pcall (refWrote l e.t (seenOf e)[k].o la) (Sbs.refl _))) ?_
            refine rn ?_
            refine aw_rngS l.length (fun m x => x = ((seenOf e)[k].v.k == 0 || (l.take m).any (fun y : Ev => y.kind == 2 && y.o == (seenOf e)[k].o && y.v == (seenOf e)[k].v))) (fun m x => [(108, iv m), (14, bv x)]) [(0, _), (2, _), (4, _), (11, _), (12, _), (13, _), (89, _), (90, _), (91, _), (106, _), (107, _)] ((seenOf e)[k].v.k == 0) (by simp) ?_
            intro m th lm zm
            refine rn ?_
            refine aw_cond rfl (fun hc109 => ?_) (fun hc109 => ?_)
            · have hm := ltMap hc109
              have rm := atRow (f := evR) hm
              refine rn ?_
              refine aops_e rfl (oe_alloc rfl fun b16 => ?_)
              refine rn ?_
              refine asplit (fun hg24_1 => ?_) (fun hg24_1 => ?_)
              · refine rn ?_
                refine ⟨hm, _, ?_, eA⟩
                try rw [ver_list]
                rw [any_step hm]
                generalize (l.take m).any (fun y : Ev => y.kind == 2 && y.o == (seenOf e)[k].o && y.v == (seenOf e)[k].v) = A at *
                generalize ((seenOf e)[k].v.k == 0) = B at *
                generalize (l[m].v == (seenOf e)[k].v) = D at *
                cases A <;> cases B <;> simp_all
              · refine rn ?_
                refine asplit (fun hg24_5 => ?_) (fun hg24_5 => ?_)
                · refine rn ?_
                  refine asplit (fun hg24_12 => ?_) (fun hg24_12 => ?_)
                  · refine rn ?_
                    refine ⟨hm, _, ?_, eA⟩
                    try rw [ver_list]
                    rw [any_step hm]
                    generalize (l.take m).any (fun y : Ev => y.kind == 2 && y.o == (seenOf e)[k].o && y.v == (seenOf e)[k].v) = A at *
                    generalize ((seenOf e)[k].v.k == 0) = B at *
                    generalize (l[m].v == (seenOf e)[k].v) = D at *
                    cases A <;> cases B <;> simp_all
                  · refine rn ?_
                    refine ⟨hm, _, ?_, eA⟩
                    try rw [ver_list]
                    rw [any_step hm]
                    generalize (l.take m).any (fun y : Ev => y.kind == 2 && y.o == (seenOf e)[k].o && y.v == (seenOf e)[k].v) = A at *
                    generalize ((seenOf e)[k].v.k == 0) = B at *
                    generalize (l[m].v == (seenOf e)[k].v) = D at *
                    cases A <;> cases B <;> simp_all
                · refine rn ?_
                  refine ⟨hm, _, ?_, eA⟩
                  try rw [ver_list]
                  rw [any_step hm]
                  generalize (l.take m).any (fun y : Ev => y.kind == 2 && y.o == (seenOf e)[k].o && y.v == (seenOf e)[k].v) = A at *
                  generalize ((seenOf e)[k].v.k == 0) = B at *
                  generalize (l[m].v == (seenOf e)[k].v) = D at *
                  cases A <;> cases B <;> simp_all
            · have qm := geMap hc109 lm
              have zT : th = ((seenOf e)[k].v.k == 0 || thereB l (seenOf e)[k].o (seenOf e)[k].v) := by rw [zm, qm, List.take_length]; rfl
              refine rn ?_
              refine aw_cond rfl (fun hc134 => ?_) (fun hc134 => ?_)
              · have e4 : rl = 4 := by have h := hc134; simp at h; omega
                refine rn ?_
                refine aw_cond rfl (fun hc137 => ?_) (fun hc137 => ?_)
                · refine rn ?_
                  refine rq 2 ?_
                  exact ⟨rfl, congrArg bv (by subst e4; rw [wrongR_t (by omega) hk (by show (!((seenOf e)[k].v.k == 0 || thereB l (seenOf e)[k].o (seenOf e)[k].v)) = true; rw [← zT]; exact hc137)])⟩
                · refine rn ?_
                  exact ⟨hk, okS_s hk zk (by first | (subst e4; show (!((seenOf e)[k].v.k == 0 || thereB l (seenOf e)[k].o (seenOf e)[k].v)) = false; rw [← zT]; exact hc137) | (subst e5; rw [sBad5_s hw1, bne, ← ver_list]; exact hc154) | (subst e5; exact sBad5_n hg31_3) | (subst e6; show ((seenOf e).take k).any _ = false; rw [anyNot, au]; rfl) | (exfalso; omega)), eA⟩
              · have n4 : rl ≠ 4 := by intro h; subst h; exact absurd hc134 (by decide)
                refine rn ?_
                refine aw_cond rfl (fun hc138 => ?_) (fun hc138 => ?_)
                · have e5 : rl = 5 := by have h := hc138; simp at h; omega
                  refine rn ?_
                  refine aw_draw 13 rfl ?_
                  refine rn ?_
                  refine dsplit (fun hg31_3 => ?_) (fun hg31_3 => ?_)
                  · try obtain ⟨w, hw1, hw2, hw3⟩ := last_row hg31_3
                    refine dq rfl rfl qrA ?_
                    refine dq rfl rfl qrA ?_
                    refine dq rfl rfl qrA ?_
                    first | refine ds rfl rfl ?_ | refine dq rfl rfl (qr_ari rfl rfl rfl (by rw [List.length_map]; have := wroteL_le l e.t (seenOf e)[k].o; omega)) ?_
                    first | refine ds rfl rfl ?_ | refine dq rfl rfl (qr_index_int rfl rfl hw3 hw2) ?_
                    refine rn ?_
                    refine aw_cond rfl (fun hc154 => ?_) (fun hc154 => ?_)
                    · refine rn ?_
                      refine rq 2 ?_
                      exact ⟨rfl, congrArg bv (by subst e5; rw [wrongR_t (by omega) hk (by rw [sBad5_s hw1, bne, ← ver_list]; exact hc154)])⟩
                    · refine rn ?_
                      exact ⟨hk, okS_s hk zk (by first | (subst e4; show (!((seenOf e)[k].v.k == 0 || thereB l (seenOf e)[k].o (seenOf e)[k].v)) = false; rw [← zT]; exact hc137) | (subst e5; rw [sBad5_s hw1, bne, ← ver_list]; exact hc154) | (subst e5; exact sBad5_n hg31_3) | (subst e6; show ((seenOf e).take k).any _ = false; rw [anyNot, au]; rfl) | (exfalso; omega)), eA⟩
                  · try obtain ⟨w, hw1, hw2, hw3⟩ := last_row hg31_3
                    refine rn ?_
                    refine aw_cf rfl ?_
                    refine rn ?_
                    exact ⟨hk, okS_s hk zk (by first | (subst e4; show (!((seenOf e)[k].v.k == 0 || thereB l (seenOf e)[k].o (seenOf e)[k].v)) = false; rw [← zT]; exact hc137) | (subst e5; rw [sBad5_s hw1, bne, ← ver_list]; exact hc154) | (subst e5; exact sBad5_n hg31_3) | (subst e6; show ((seenOf e).take k).any _ = false; rw [anyNot, au]; rfl) | (exfalso; omega)), eA⟩
                · have n5 : rl ≠ 5 := by intro h; subst h; exact absurd hc138 (by decide)
                  refine rn ?_
                  refine aw_cond rfl (fun hc155 => ?_) (fun hc155 => ?_)
                  · have e6 : rl = 6 := by have h := hc155; simp at h; omega
                    refine rn ?_
                    refine qv rfl rfl (qv_call rfl rfl (pcall (refSeen e) (Sbs.refl _))) ?_
                    refine q1 ?_
                    refine qq rfl rfl (qr_slice_h (k := k) rfl rfl (by simp; omega)) ?_
                    rw [← List.map_take]
                    refine rn ?_
                    refine aw_rng (((seenOf e).take k).length) (fun u : Nat => ((seenOf e).take k).all (fun p : Seen => !(p.o == (seenOf e)[k].o)) = (((seenOf e).take k).drop u).all (fun p : Seen => !(p.o == (seenOf e)[k].o))) (fun u => [(162, iv u)]) [(0, _), (2, _), (4, _), (12, _), (89, _), (90, _), (91, _), (160, _), (161, _)] rfl ?_
                    intro u lu zu
                    refine rn ?_
                    refine aw_cond rfl (fun hc163 => ?_) (fun hc163 => ?_)
                    · have hu := ltMap hc163
                      have ru := atRow (f := seenR) hu
                      have bu : ((seenOf e).take k).length ≤ 4611686018427387904 := by simp; omega
                      refine rn ?_
                      refine aops_e rfl (oe_alloc rfl fun b18 => ?_)
                      refine rn ?_
                      refine aw_cond rfl (fun hc170 => ?_) (fun hc170 => ?_)
                      · refine rn ?_
                        refine rq 3 ?_
                        exact ⟨rfl, congrArg bv (by subst e6; rw [wrongR_t (by omega) hk (by show ((seenOf e).take k).any _ = true; rw [anyNot, allF hu (by simpa using hc170)]; rfl)])⟩
                      · refine rn ?_
                        exact ⟨hu, allT hu zu (by simpa using hc170), eA⟩
                    · have qu := geMap hc163 lu
                      have au := allE qu zu
                      refine rn ?_
                      exact ⟨hk, okS_s hk zk (by first | (subst e4; show (!((seenOf e)[k].v.k == 0 || thereB l (seenOf e)[k].o (seenOf e)[k].v)) = false; rw [← zT]; exact hc137) | (subst e5; rw [sBad5_s hw1, bne, ← ver_list]; exact hc154) | (subst e5; exact sBad5_n hg31_3) | (subst e6; show ((seenOf e).take k).any _ = false; rw [anyNot, au]; rfl) | (exfalso; omega)), eA⟩
                  · have n6 : rl ≠ 6 := by intro h; subst h; exact absurd hc155 (by decide)
                    refine rn ?_
                    exact ⟨hk, okS_s hk zk (by first | (subst e4; show (!((seenOf e)[k].v.k == 0 || thereB l (seenOf e)[k].o (seenOf e)[k].v)) = false; rw [← zT]; exact hc137) | (subst e5; rw [sBad5_s hw1, bne, ← ver_list]; exact hc154) | (subst e5; exact sBad5_n hg31_3) | (subst e6; show ((seenOf e).take k).any _ = false; rw [anyNot, au]; rfl) | (exfalso; omega)), eA⟩
          · have qk := geMap hc92 lk
            refine rn ?_
            refine rq 1 ?_
            exact ⟨rfl, congrArg bv (by rw [wrongR_f (by omega) (qk ▸ zk)])⟩
end Go.Proofs
/- The walk of the reference's broken. Conditions: none. -/
set_option linter.unusedVariables false
set_option linter.unusedSimpArgs false
set_option maxRecDepth 10000
namespace Go.Proofs
open Go Go.Ab
attribute [local irreducible] QR QV OE aops aw dsoup dsoupM dalloc dallocM thn inBlk jsoup jch lsoup
open Go.H
theorem refBroken (h : Hist) (rl i : Nat) (h1 : 1 ≤ rl) (h10 : rl ≤ 10) (hi : i < manyN h rl) (la : Lim 1000000 h) : ACall Tryz.prog 76 [.agg (histC h), iv rl, iv i] [] (fun r h' => h' = [] ∧ r = bv (brokenR h rl i)) := by
  refine acall_of_aw Tryz.func76 rfl rfl rfl ?_
  refine rn ?_
  refine aops_e rfl (oe_box rfl rfl rfl fun b3 => ?_)
  refine rn ?_
  refine aw_cond rfl (fun hc8 => ?_) (fun hc8 => ?_)
  · obtain rfl : rl = 7 := by have q := hc8; simp at q; omega
    have hi2 : i < h.ords.length := hi
    refine rn ?_
    refine qv rfl rfl (qv_call rfl rfl (pcall (refOrder h i hi2 la) (Sbs.refl _))) ?_
    refine rn ?_
    refine rq 1 ?_
    exact ⟨rfl, congrArg bv (by exact (atQ_lt hi2).symm)⟩
  · have n7 : rl ≠ 7 := by intro q; subst q; exact absurd hc8 (by decide)
    refine rn ?_
    refine aw_cond rfl (fun hc13 => ?_) (fun hc13 => ?_)
    · obtain rfl : rl = 8 := by have q := hc13; simp at q; omega
      have hi2 : i < h.os.length := hi
      refine rn ?_
      refine qv rfl rfl (qv_call rfl rfl (pcall (refMissing h i la) (Sbs.refl _))) ?_
      refine rn ?_
      refine rq 1 ?_
      exact ⟨rfl, congrArg bv (by exact (atQ_lt (w := fun x _ => missR h (x : Int)) hi2).symm)⟩
    · have n8 : rl ≠ 8 := by intro q; subst q; exact absurd hc13 (by decide)
      refine rn ?_
      refine aw_cond rfl (fun hc18 => ?_) (fun hc18 => ?_)
      · obtain rfl : rl = 9 := by have q := hc18; simp at q; omega
        have hi2 : i < h.mats.length := hi
        refine rn ?_
        refine qv rfl rfl (qv_call rfl rfl (pcall (refMatch h i hi2 la) (Sbs.refl _))) ?_
        refine rn ?_
        refine rq 1 ?_
        exact ⟨rfl, congrArg bv (by exact (atQ_lt hi2).symm)⟩
      · have n9 : rl ≠ 9 := by intro q; subst q; exact absurd hc18 (by decide)
        refine rn ?_
        refine aw_cond rfl (fun hc23 => ?_) (fun hc23 => ?_)
        · obtain rfl : rl = 10 := by have q := hc23; simp at q; omega
          have hi2 : i < h.wants.length := hi
          refine rn ?_
          refine qv rfl rfl (qv_call rfl rfl (pcall (refWant h i hi2 la) (Sbs.refl _))) ?_
          refine rn ?_
          refine rq 1 ?_
          exact ⟨rfl, congrArg bv (by exact (atQ_lt hi2).symm)⟩
        · have n10 : rl ≠ 10 := by intro q; subst q; exact absurd hc23 (by decide)
          have hi2 : i < h.evs.length := by rw [← manyN_e n7 n8 n9 n10]; exact hi
          have ri := atRow (f := evR) hi2
          have be := la.evs
          have sc := la.scans h.evs[i] (List.getElem_mem hi2)
          refine rn ?_
          refine aw_draw 10 rfl ?_
          refine dq rfl rfl qrA ?_
          refine dq rfl rfl qrA ?_
          refine dq rfl rfl qrA ?_
          refine dq rfl rfl qrA ?_
          refine dq rfl rfl qrA ?_
          refine dq rfl rfl qrA ?_
          refine dq rfl rfl qrA ?_
          refine dq rfl rfl qrA ?_
          refine dq rfl rfl qrA ?_
          refine dq rfl rfl (qr_slice_h (k := i) rfl rfl (by simp; omega)) ?_
          rw [← List.map_take]
          refine rn ?_
          refine qv rfl rfl (qv_call rfl rfl (pcall (refEvent15 rl h.evs[i] (h.evs.take i) h1 (by omega) (by simp; omega) sc) (Sbs.refl _))) ?_
          refine rn ?_
          refine rq 1 ?_
          exact ⟨rfl, congrArg bv (by rw [brokenR_e n7 n8 n9 n10, atQ_lt hi2])⟩
end Go.Proofs
/- The walk of the reference's Place. Conditions: none. -/
set_option linter.unusedVariables false
set_option linter.unusedSimpArgs false
set_option maxRecDepth 10000
namespace Go.Proofs
open Go Go.Ab
attribute [local irreducible] QR QV OE aops aw dsoup dsoupM dalloc dallocM thn inBlk jsoup jch lsoup
open Go.H
theorem refPlace (h : Hist) (rl : Nat) (h1 : 1 ≤ rl) (h10 : rl ≤ 10) (la : Lim 1000000 h) : ACall Tryz.prog 22 [.agg (histC h), iv rl] [] (fun r h' => h' = [] ∧ r = iv (placeJ (placeR h rl))) := by
  refine acall_of_aw Tryz.func22 rfl rfl rfl ?_
  refine rn ?_
  refine aops_e rfl (oe_box rfl rfl rfl fun b2 => ?_)
  refine rn0 ?_
  refine aw_seq (aw_region ?_)
  refine rn0 ?_
  refine aw_cut (⟨[(5, iv (manyN h rl)), (1, iv rl), (2, .v (.pointer (some ⟨b2, 0, none⟩)))], .box b2 28 (histC h) :: [], []⟩) ?_ ?_
  · refine rn ?_
    refine aw_cond rfl (fun hc11 => ?_) (fun hc11 => ?_)
    · obtain rfl : rl = 7 := by have q := hc11; simp at q; omega
      refine rn ?_
      first | (rw [many7]; exact es) | (rw [many8]; exact es) | (rw [many9]; exact es) | (rw [many10]; exact es) | (rw [manyE n7 n8 n9 n10]; exact es)
    · have n7 : rl ≠ 7 := by intro q; subst q; exact absurd hc11 (by decide)
      refine rn ?_
      refine aw_cond rfl (fun hc16 => ?_) (fun hc16 => ?_)
      · obtain rfl : rl = 8 := by have q := hc16; simp at q; omega
        refine rn ?_
        first | (rw [many7]; exact es) | (rw [many8]; exact es) | (rw [many9]; exact es) | (rw [many10]; exact es) | (rw [manyE n7 n8 n9 n10]; exact es)
      · have n8 : rl ≠ 8 := by intro q; subst q; exact absurd hc16 (by decide)
        refine rn ?_
        refine aw_cond rfl (fun hc21 => ?_) (fun hc21 => ?_)
        · obtain rfl : rl = 9 := by have q := hc21; simp at q; omega
          refine rn ?_
          first | (rw [many7]; exact es) | (rw [many8]; exact es) | (rw [many9]; exact es) | (rw [many10]; exact es) | (rw [manyE n7 n8 n9 n10]; exact es)
        · have n9 : rl ≠ 9 := by intro q; subst q; exact absurd hc21 (by decide)
          refine rn ?_
          refine aw_cond rfl (fun hc26 => ?_) (fun hc26 => ?_)
          · obtain rfl : rl = 10 := by have q := hc26; simp at q; omega
            refine rn ?_
            first | (rw [many7]; exact es) | (rw [many8]; exact es) | (rw [many9]; exact es) | (rw [many10]; exact es) | (rw [manyE n7 n8 n9 n10]; exact es)
          · have n10 : rl ≠ 10 := by intro q; subst q; exact absurd hc26 (by decide)
            refine rn ?_
            first | (rw [many7]; exact es) | (rw [many8]; exact es) | (rw [many9]; exact es) | (rw [many10]; exact es) | (rw [manyE n7 n8 n9 n10]; exact es)
  · refine rn ?_
    refine aw_rng (manyN h rl) (fun k : Nat => ∀ j, j < k → brokenR h rl j = false) (fun k => [(32, iv k)]) [(1, _), (2, _), (31, _)] (fun j q => absurd q (Nat.not_lt_zero _)) ?_
    intro k lk zk
    refine rn ?_
    refine aw_cond rfl (fun hc33 => ?_) (fun hc33 => ?_)
    · have hk : k < manyN h rl := by have q := hc33; simp at q; omega
      have mb : manyN h rl ≤ 1000000 := manyN_le la
      refine rn ?_
      refine qv rfl rfl (qv_call rfl rfl (pcall (refBroken h rl k h1 h10 hk la) (Sbs.refl _))) ?_
      refine rn ?_
      refine aw_cond rfl (fun hc38 => ?_) (fun hc38 => ?_)
      · refine rn ?_
        refine rq 1 ?_
        exact ⟨rfl, by rw [place_hit hk hc38 zk]; rfl⟩
      · refine rn ?_
        exact ⟨hk, under_s zk hc38, eA⟩
    · have qk : k = manyN h rl := by have q := hc33; simp at q; omega
      refine rn ?_
      refine rq 1 ?_
      exact ⟨rfl, by rw [place_over (qk ▸ zk)]; rfl⟩
end Go.Proofs
/- The walk of the reference's First. Conditions: none. -/
set_option linter.unusedVariables false
set_option linter.unusedSimpArgs false
set_option maxRecDepth 10000
namespace Go.Proofs
open Go Go.Ab
attribute [local irreducible] QR QV OE aops aw dsoup dsoupM dalloc dallocM thn inBlk jsoup jch lsoup
open Go.H
theorem placeJ_ge {o : Option Nat} (h : decide (placeJ o ≥ 0) = true) : ∃ n, o = some n := by
  cases o with
  | none => exact absurd h (by decide)
  | some n => exact ⟨n, rfl⟩
theorem placeJ_lt {o : Option Nat} (h : decide (placeJ o ≥ 0) = false) : o = none := by
  cases o with
  | none => rfl
  | some n => have := of_decide_eq_false h; simp [placeJ] at this
theorem refFirst15 (h : Hist) (la : Lim 1000000 h) : ACall Tryz.prog 19 [.agg (histC h)] [] (fun r h' => h' = [] ∧ r = .tup [.agg (brkC (firstIn (placeR h) rules10)), bv (firstIn (placeR h) rules10).isSome]) := by
  refine acall_of_aw Tryz.func19 rfl rfl rfl ?_
  refine rn ?_
  refine aops_e rfl (oe_box rfl rfl rfl fun b1 => ?_)
  refine aops_e rfl (oe_alloc rfl fun b2 => ?_)
  refine rn ?_
  refine aw_while (fun k : Nat => (1 ≤ k ∧ k ≤ 11) ∧ firstIn (placeR h) rules10 = firstIn (placeR h) (rules10.drop (k - 1))) (fun k => ⟨[(4, iv k), (1, .v (.pointer (some ⟨b1, 0, none⟩))), (2, .v (.pointer (some ⟨b2, 0, none⟩)))], (.box b2 32 [iv 0, iv 0] :: .box b1 28 (histC h) :: []), []⟩) (fun k => 11 - k) 1 ⟨by omega, rfl⟩ es ?_
  rintro k ⟨⟨k1, k3⟩, zk⟩
  refine rn ?_
  refine aw_cond rfl (fun hc7 => ?_) (fun hc7 => ?_)
  · have k2 : k ≤ 10 := by have := of_decide_eq_true hc7; omega
    refine rn ?_
    refine qv rfl rfl (qv_call rfl rfl (pcall (refPlace h k k1 k2 la) (Sbs.refl _))) ?_
    refine rn ?_
    refine aw_cond rfl (fun hc14 => ?_) (fun hc14 => ?_)
    · refine rn ?_
      exact retq (.cons _ _ _ _ (.agg _ _ _ _ _ _ _ rfl inferInstance inferInstance inferInstance rfl) (.cons _ _ _ _ (.tmp _ _ rfl) .nil)) (.drop [_, _] _ _) ⟨rfl, by
        obtain ⟨n, hp⟩ := placeJ_ge hc14
        rw [first_hit k1 k2 zk hp, hp]; rfl⟩
    · refine rn ?_
      exact ⟨k + 1, ⟨by omega, first_step k1 k2 zk (placeJ_lt hc14)⟩, eA, by omega⟩
  · have k2 : 11 ≤ k := by have := of_decide_eq_false hc7; omega
    refine rn ?_
    exact retq (.cons _ _ _ _ (.agg _ _ _ _ _ _ _ rfl inferInstance inferInstance inferInstance rfl) (.cons _ _ _ _ (.tmp _ _ rfl) .nil)) (.drop [_, _] _ _) ⟨rfl, by rw [first_over k2 k3 zk]; rfl⟩
end Go.Proofs
/- The walks of the references' tests. Conditions: none. -/
set_option linter.unusedVariables false
set_option linter.unusedSimpArgs false
set_option maxRecDepth 10000
namespace Go.Proofs
open Go Go.Ab
attribute [local irreducible] QR QV OE aops aw dsoup dsoupM dalloc dallocM thn inBlk
open Go.H
theorem ref9 (l : Int) : ACall Tryz.prog 164 [iv l] [] (fun r h' => h' = [] ∧ r = bv (right9 l)) := by
  refine acall_of_aw Tryz.func164 rfl rfl rfl ?_
  refine rn ?_
  refine asplit (fun hg1_2 => ?_) (fun hg1_2 => ?_)
  · refine rn ?_
    exact retq (.cons _ _ _ _ (.tmp _ _ rfl) .nil) (.refl _ _) ⟨rfl, congrArg bv (by first | (simp only [right9, *, Bool.true_and, Bool.false_and, Bool.and_false, Bool.and_true, Bool.true_or, Bool.or_false, Bool.false_or, Bool.or_true, if_true, if_false, Bool.false_eq_true, Bool.not_true, Bool.not_false]; done) | (simp_all [right9]; done) | (simp_all [right9] <;> omega))⟩
  · refine rn ?_
    exact retq (.cons _ _ _ _ (.tmp _ _ rfl) .nil) (.refl _ _) ⟨rfl, congrArg bv (by first | (simp only [right9, *, Bool.true_and, Bool.false_and, Bool.and_false, Bool.and_true, Bool.true_or, Bool.or_false, Bool.false_or, Bool.or_true, if_true, if_false, Bool.false_eq_true, Bool.not_true, Bool.not_false]; done) | (simp_all [right9]; done) | (simp_all [right9] <;> omega))⟩
theorem ref2Letter (c : Int) : ACall Tryz.prog 203 [.v (.int .i32 c)] [] (fun r h' => h' = [] ∧ r = bv (letB2 c)) := by
  refine acall_of_aw Tryz.func203 rfl rfl rfl ?_
  refine rn ?_
  refine asplit (fun hg1_2 => ?_) (fun hg1_2 => ?_)
  · refine rn ?_
    refine asplit (fun hg1_6 => ?_) (fun hg1_6 => ?_)
    · refine rn ?_
      exact retq (.cons _ _ _ _ (.tmp _ _ rfl) .nil) (.refl _ _) ⟨rfl, congrArg bv (by first | (simp only [letB2, *, Bool.true_and, Bool.false_and, Bool.and_false, Bool.and_true, Bool.true_or, Bool.or_false, Bool.false_or, Bool.or_true, if_true, if_false, Bool.false_eq_true, Bool.not_true, Bool.not_false]; done) | (simp_all [letB2]; done) | (simp_all [letB2] <;> omega))⟩
    · refine rn ?_
      refine asplit (fun hg1_9 => ?_) (fun hg1_9 => ?_)
      · refine rn ?_
        refine asplit (fun hg1_14 => ?_) (fun hg1_14 => ?_)
        · refine rn ?_
          exact retq (.cons _ _ _ _ (.tmp _ _ rfl) .nil) (.refl _ _) ⟨rfl, congrArg bv (by first | (simp only [letB2, *, Bool.true_and, Bool.false_and, Bool.and_false, Bool.and_true, Bool.true_or, Bool.or_false, Bool.false_or, Bool.or_true, if_true, if_false, Bool.false_eq_true, Bool.not_true, Bool.not_false]; done) | (simp_all [letB2]; done) | (simp_all [letB2] <;> omega))⟩
        · refine rn ?_
          refine asplit (fun hg1_18 => ?_) (fun hg1_18 => ?_)
          · refine rn ?_
            exact retq (.cons _ _ _ _ (.tmp _ _ rfl) .nil) (.refl _ _) ⟨rfl, congrArg bv (by first | (simp only [letB2, *, Bool.true_and, Bool.false_and, Bool.and_false, Bool.and_true, Bool.true_or, Bool.or_false, Bool.false_or, Bool.or_true, if_true, if_false, Bool.false_eq_true, Bool.not_true, Bool.not_false]; done) | (simp_all [letB2]; done) | (simp_all [letB2] <;> omega))⟩
          · refine rn ?_
            exact retq (.cons _ _ _ _ (.tmp _ _ rfl) .nil) (.refl _ _) ⟨rfl, congrArg bv (by first | (simp only [letB2, *, Bool.true_and, Bool.false_and, Bool.and_false, Bool.and_true, Bool.true_or, Bool.or_false, Bool.false_or, Bool.or_true, if_true, if_false, Bool.false_eq_true, Bool.not_true, Bool.not_false]; done) | (simp_all [letB2]; done) | (simp_all [letB2] <;> omega))⟩
      · refine rn ?_
        refine asplit (fun hg1_18 => ?_) (fun hg1_18 => ?_)
        · refine rn ?_
          exact retq (.cons _ _ _ _ (.tmp _ _ rfl) .nil) (.refl _ _) ⟨rfl, congrArg bv (by first | (simp only [letB2, *, Bool.true_and, Bool.false_and, Bool.and_false, Bool.and_true, Bool.true_or, Bool.or_false, Bool.false_or, Bool.or_true, if_true, if_false, Bool.false_eq_true, Bool.not_true, Bool.not_false]; done) | (simp_all [letB2]; done) | (simp_all [letB2] <;> omega))⟩
        · refine rn ?_
          exact retq (.cons _ _ _ _ (.tmp _ _ rfl) .nil) (.refl _ _) ⟨rfl, congrArg bv (by first | (simp only [letB2, *, Bool.true_and, Bool.false_and, Bool.and_false, Bool.and_true, Bool.true_or, Bool.or_false, Bool.false_or, Bool.or_true, if_true, if_false, Bool.false_eq_true, Bool.not_true, Bool.not_false]; done) | (simp_all [letB2]; done) | (simp_all [letB2] <;> omega))⟩
  · refine rn ?_
    refine asplit (fun hg1_9 => ?_) (fun hg1_9 => ?_)
    · refine rn ?_
      refine asplit (fun hg1_14 => ?_) (fun hg1_14 => ?_)
      · refine rn ?_
        exact retq (.cons _ _ _ _ (.tmp _ _ rfl) .nil) (.refl _ _) ⟨rfl, congrArg bv (by first | (simp only [letB2, *, Bool.true_and, Bool.false_and, Bool.and_false, Bool.and_true, Bool.true_or, Bool.or_false, Bool.false_or, Bool.or_true, if_true, if_false, Bool.false_eq_true, Bool.not_true, Bool.not_false]; done) | (simp_all [letB2]; done) | (simp_all [letB2] <;> omega))⟩
      · refine rn ?_
        refine asplit (fun hg1_18 => ?_) (fun hg1_18 => ?_)
        · refine rn ?_
          exact retq (.cons _ _ _ _ (.tmp _ _ rfl) .nil) (.refl _ _) ⟨rfl, congrArg bv (by first | (simp only [letB2, *, Bool.true_and, Bool.false_and, Bool.and_false, Bool.and_true, Bool.true_or, Bool.or_false, Bool.false_or, Bool.or_true, if_true, if_false, Bool.false_eq_true, Bool.not_true, Bool.not_false]; done) | (simp_all [letB2]; done) | (simp_all [letB2] <;> omega))⟩
        · refine rn ?_
          exact retq (.cons _ _ _ _ (.tmp _ _ rfl) .nil) (.refl _ _) ⟨rfl, congrArg bv (by first | (simp only [letB2, *, Bool.true_and, Bool.false_and, Bool.and_false, Bool.and_true, Bool.true_or, Bool.or_false, Bool.false_or, Bool.or_true, if_true, if_false, Bool.false_eq_true, Bool.not_true, Bool.not_false]; done) | (simp_all [letB2]; done) | (simp_all [letB2] <;> omega))⟩
    · refine rn ?_
      refine asplit (fun hg1_18 => ?_) (fun hg1_18 => ?_)
      · refine rn ?_
        exact retq (.cons _ _ _ _ (.tmp _ _ rfl) .nil) (.refl _ _) ⟨rfl, congrArg bv (by first | (simp only [letB2, *, Bool.true_and, Bool.false_and, Bool.and_false, Bool.and_true, Bool.true_or, Bool.or_false, Bool.false_or, Bool.or_true, if_true, if_false, Bool.false_eq_true, Bool.not_true, Bool.not_false]; done) | (simp_all [letB2]; done) | (simp_all [letB2] <;> omega))⟩
      · refine rn ?_
        exact retq (.cons _ _ _ _ (.tmp _ _ rfl) .nil) (.refl _ _) ⟨rfl, congrArg bv (by first | (simp only [letB2, *, Bool.true_and, Bool.false_and, Bool.and_false, Bool.and_true, Bool.true_or, Bool.or_false, Bool.false_or, Bool.or_true, if_true, if_false, Bool.false_eq_true, Bool.not_true, Bool.not_false]; done) | (simp_all [letB2]; done) | (simp_all [letB2] <;> omega))⟩
theorem ref2Digit (c : Int) : ACall Tryz.prog 204 [.v (.int .i32 c)] [] (fun r h' => h' = [] ∧ r = bv (numB c)) := by
  refine acall_of_aw Tryz.func204 rfl rfl rfl ?_
  refine rn ?_
  refine asplit (fun hg1_2 => ?_) (fun hg1_2 => ?_)
  · refine rn ?_
    exact retq (.cons _ _ _ _ (.tmp _ _ rfl) .nil) (.refl _ _) ⟨rfl, congrArg bv (by first | (simp only [numB, *, Bool.true_and, Bool.false_and, Bool.and_false, Bool.and_true, Bool.true_or, Bool.or_false, Bool.false_or, Bool.or_true, if_true, if_false, Bool.false_eq_true, Bool.not_true, Bool.not_false]; done) | (simp_all [numB]; done) | (simp_all [numB] <;> omega))⟩
  · refine rn ?_
    exact retq (.cons _ _ _ _ (.tmp _ _ rfl) .nil) (.refl _ _) ⟨rfl, congrArg bv (by first | (simp only [numB, *, Bool.true_and, Bool.false_and, Bool.and_false, Bool.and_true, Bool.true_or, Bool.or_false, Bool.false_or, Bool.or_true, if_true, if_false, Bool.false_eq_true, Bool.not_true, Bool.not_false]; done) | (simp_all [numB]; done) | (simp_all [numB] <;> omega))⟩
theorem refTs {f : Bool} (h : Hist) (l : List Int) (hl : l.length ≤ 4611686018427387904) : ACall Tryz.prog 121 [.agg (histC h), .list f 1 (l.map intR)] [] (fun r h' => h' = [] ∧ r = bv (rightTsB h l)) := by
  refine acall_of_aw Tryz.func121 rfl rfl rfl ?_
  refine rn ?_
  refine aops_e rfl (oe_box rfl rfl rfl fun b2 => ?_)
  refine rn ?_
  refine aw_loop' (fun k : Nat => k ≤ l.length ∧ l.all (fun t => isB t h.ts.length) = (l.drop k).all (fun t => isB t h.ts.length)) (fun k => ⟨[(9, iv k), (8, iv (l.map intR).length), (7, .list f 1 (l.map intR)), (1, .list f 1 (l.map intR)), (2, .v (.pointer (some ⟨b2, 0, none⟩)))], [.box b2 28 (histC h)], []⟩) (fun k => l.length - k) 0 ⟨Nat.zero_le _, by simp⟩
    (ent_sub (.cons _ _ _ rfl (.cons _ _ _ rfl (.cons _ _ _ rfl (.cons _ _ _ rfl (.cons _ _ _ rfl (.nil))))))) ?_
  rintro k ⟨hk, hz⟩
  refine rn ?_
  refine aw_cond rfl (fun hc10 => ?_) (fun hc10 => ?_)
  · have hk2 : k < l.length := by simpa using hc10
    have hrow : (l.map intR)[k]? = some (intR l[k]) := by simp [hk2]
    have hd := List.drop_eq_getElem_cons hk2
    refine rn ?_
    refine qv rfl rfl (qv_call rfl rfl (pcall (refIs _ _) (Sbs.refl _))) ?_
    refine rn ?_
    refine aw_cond rfl (fun hc18 => ?_) (fun hc18 => ?_)
    · have hx : isB l[k] h.ts.length = false := by simpa using hc18
      refine rn ?_
      exact retq (.cons _ _ _ _ (.tmp _ _ rfl) .nil) (.drop [_] _ _) ⟨rfl, congrArg bv (by rw [rightTsB, hz, hd, List.all_cons, hx, Bool.false_and]; rfl)⟩
    · have hx : isB l[k] h.ts.length = true := by simpa using hc18
      refine rn ?_
      exact ⟨k + 1, ⟨by omega, by rw [hz, hd, List.all_cons, hx, Bool.true_and]⟩, (ent_sub (.cons _ _ _ rfl (.cons _ _ _ rfl (.cons _ _ _ rfl (.cons _ _ _ rfl (.cons _ _ _ rfl (.nil))))))), by omega⟩
  · have hk3 : k = l.length := by
      have : l.length ≤ k := by simpa using hc10
      omega
    refine rn ?_
    exact retq (.cons _ _ _ _ (.tmp _ _ rfl) .nil) (.drop [_] _ _) ⟨rfl, congrArg bv (by rw [rightTsB, hz, hk3, List.drop_length]; simp)⟩
end Go.Proofs
/- The walk of the reference's test of an event. Conditions: none. -/
set_option linter.unusedVariables false
set_option linter.unusedSimpArgs false
set_option maxRecDepth 10000
namespace Go.Proofs
open Go Go.Ab
attribute [local irreducible] QR QV OE aops aw dsoup dsoupM dalloc dallocM thn inBlk
open Go.H
theorem refRightEv (h : Hist) (e : Ev) (hl : e.scan.length ≤ 4611686018427387904) : ACall Tryz.prog 120 [.agg (histC h), .agg (evR e)] [] (fun r h' => h' = [] ∧ r = bv (rightEv h e)) := by
  refine acall_of_aw Tryz.func120 rfl rfl rfl ?_
  refine rn ?_
  refine aops_e rfl (oe_box rfl rfl rfl fun b2 => ?_)
  refine aops_e rfl (oe_box rfl rfl rfl fun b3 => ?_)
  refine rn ?_
  refine qv rfl rfl (qv_call rfl rfl (pcall (refIs _ _) (Sbs.refl _))) ?_
  refine rn ?_
  refine aw_cond rfl (fun hc16 => ?_) (fun hc16 => ?_)
  · refine rn ?_
    exact retq (.cons _ _ _ _ (.tmp _ _ rfl) .nil) (.drop [_, _] _ _) ⟨rfl, congrArg bv (by first | (simp only [rightEv, bareE, *, Bool.true_and, Bool.false_and, Bool.and_false, Bool.and_true, Bool.true_or, Bool.or_false, Bool.false_or, Bool.or_true, if_true, if_false, Bool.false_eq_true, Bool.not_true, Bool.not_false]; done) | (simp_all [rightEv, bareE]; done) | (simp_all [rightEv, bareE] <;> omega))⟩
  · refine rn ?_
    refine aops_e rfl (oe_alloc rfl fun b6 => ?_)
    refine rn ?_
    refine aw_cond rfl (fun hc24 => ?_) (fun hc24 => ?_)
    · refine rn ?_
      refine aw_drawS 6 [(b6, 72, _)] rfl (List.perm_append_comm (l₁ := [_])) ?_
      refine rn ?_
      refine dw 0 rfl rfl rfl rfl rfl (Nat.le_of_ble_eq_true rfl) ?_
      refine rn2 ?_
      show aops _ _ _ _ _ _ ⟨_, .box b6 72 [iv e.kind, iv e.t, iv e.s, iv 0, iv 0, iv 0, iv 0, iv 0, .v (.slice none 0 0)] :: .box b3 72 (evR e) :: .box b2 28 (histC h) :: [], _⟩
      refine rn0 ?_
      refine aw_seq ?_
      show aw _ _ _ _ _ ⟨_, .box b6 72 [iv e.kind, iv e.t, iv e.s, iv e.l, iv 0, iv 0, iv 0, iv 0, .v (.slice none 0 0)] :: .box b3 72 (evR e) :: .box b2 28 (histC h) :: [], _⟩
      refine rn ?_
      refine qv rfl rfl (qv_call rfl rfl (pcall (refEvent ⟨e.kind, e.t, e.s, e.l, 0, ⟨0, 0⟩, 0, []⟩ e (by simp [hl]) hl) (by exact ⟨(by exact Sb.aggs (by exact ⟨.refl _, .refl _, .refl _, .refl _, .refl _, .refl _, .refl _, .refl _, .nil _ _, trivial⟩)), .refl _, trivial⟩))) ?_
      refine rn ?_
      refine asplit (fun hg8_3 => ?_) (fun hg8_3 => ?_)
      · refine rn ?_
        refine qv rfl rfl (qv_call rfl rfl (pcall (refIs _ _) (Sbs.refl _))) ?_
        refine rn ?_
        refine asplit (fun hg8_11 => ?_) (fun hg8_11 => ?_)
        · refine rn ?_
          refine qv rfl rfl (qv_call rfl rfl (pcall (ref9 _) (Sbs.refl _))) ?_
          refine rn ?_
          exact retq (.cons _ _ _ _ (.tmp _ _ rfl) .nil) (.drop [_, _, _] _ _) ⟨rfl, congrArg bv (by first | (simp only [rightEv, bareE, *, Bool.true_and, Bool.false_and, Bool.and_false, Bool.and_true, Bool.true_or, Bool.or_false, Bool.false_or, Bool.or_true, if_true, if_false, Bool.false_eq_true, Bool.not_true, Bool.not_false]; done) | (simp_all [rightEv, bareE]; done) | (simp_all [rightEv, bareE] <;> omega))⟩
        · refine rn ?_
          exact retq (.cons _ _ _ _ (.tmp _ _ rfl) .nil) (.drop [_, _, _] _ _) ⟨rfl, congrArg bv (by first | (simp only [rightEv, bareE, *, Bool.true_and, Bool.false_and, Bool.and_false, Bool.and_true, Bool.true_or, Bool.or_false, Bool.false_or, Bool.or_true, if_true, if_false, Bool.false_eq_true, Bool.not_true, Bool.not_false]; done) | (simp_all [rightEv, bareE]; done) | (simp_all [rightEv, bareE] <;> omega))⟩
      · refine rn ?_
        exact retq (.cons _ _ _ _ (.tmp _ _ rfl) .nil) (.drop [_, _, _] _ _) ⟨rfl, congrArg bv (by first | (simp only [rightEv, bareE, *, Bool.true_and, Bool.false_and, Bool.and_false, Bool.and_true, Bool.true_or, Bool.or_false, Bool.false_or, Bool.or_true, if_true, if_false, Bool.false_eq_true, Bool.not_true, Bool.not_false]; done) | (simp_all [rightEv, bareE]; done) | (simp_all [rightEv, bareE] <;> omega))⟩
    · refine rn ?_
      refine aw_cond rfl (fun hc48 => ?_) (fun hc48 => ?_)
      · refine rn ?_
        refine aw_cond rfl (fun hc48 => ?_) (fun hc48 => ?_)
        · refine rn ?_
          refine aw_drawS 6 [(b6, 72, _)] rfl (List.perm_append_comm (l₁ := [_])) ?_
          refine rn ?_
          refine dw 0 rfl rfl rfl rfl rfl (Nat.le_of_ble_eq_true rfl) ?_
          refine rn2 ?_
          show aops _ _ _ _ _ _ ⟨_, .box b6 72 [iv e.kind, iv e.t, iv 0, iv 0, iv e.o, iv 0, iv 0, iv 0, .v (.slice none 0 0)] :: .box b3 72 (evR e) :: .box b2 28 (histC h) :: [], _⟩
          refine rn0 ?_
          refine aw_seq ?_
          refine aw_seq ?_
          show aw _ _ _ _ _ ⟨_, .box b6 72 [iv e.kind, iv e.t, iv 0, iv 0, iv e.o, iv e.v.t, iv e.v.k, iv 0, .v (.slice none 0 0)] :: .box b3 72 (evR e) :: .box b2 28 (histC h) :: [], _⟩
          refine rn ?_
          refine asplit (fun hg12_3 => ?_) (fun hg12_3 => ?_)
          · refine rn ?_
            refine asplit (fun hg12_8 => ?_) (fun hg12_8 => ?_)
            · refine rn ?_
              refine aw_ct rfl ?_
              refine rn ?_
              exact retq (.cons _ _ _ _ (.tmp _ _ rfl) .nil) (.drop [_, _, _] _ _) ⟨rfl, congrArg bv (by first | (simp only [rightEv, bareE, *, Bool.true_and, Bool.false_and, Bool.and_false, Bool.and_true, Bool.true_or, Bool.or_false, Bool.false_or, Bool.or_true, if_true, if_false, Bool.false_eq_true, Bool.not_true, Bool.not_false]; done) | (simp_all [rightEv, bareE]; done) | (simp_all [rightEv, bareE] <;> omega))⟩
            · refine rn ?_
              refine aw_cond rfl (fun hc73 => ?_) (fun hc73 => ?_)
              · refine rn ?_
                exact retq (.cons _ _ _ _ (.tmp _ _ rfl) .nil) (.drop [_, _, _] _ _) ⟨rfl, congrArg bv (by first | (simp only [rightEv, bareE, *, Bool.true_and, Bool.false_and, Bool.and_false, Bool.and_true, Bool.true_or, Bool.or_false, Bool.false_or, Bool.or_true, if_true, if_false, Bool.false_eq_true, Bool.not_true, Bool.not_false]; done) | (simp_all [rightEv, bareE]; done) | (simp_all [rightEv, bareE] <;> omega))⟩
              · refine rn ?_
                refine qv rfl rfl (qv_call rfl rfl (pcall (refEvent ⟨e.kind, e.t, 0, 0, e.o, e.v, 0, []⟩ e (by simp [hl]) hl) (by exact ⟨(by exact Sb.aggs (by exact ⟨.refl _, .refl _, .refl _, .refl _, .refl _, .refl _, .refl _, .refl _, .nil _ _, trivial⟩)), .refl _, trivial⟩))) ?_
                refine rn ?_
                refine asplit (fun hg14_3 => ?_) (fun hg14_3 => ?_)
                · refine rn ?_
                  refine qv rfl rfl (qv_call rfl rfl (pcall (refIs _ _) (Sbs.refl _))) ?_
                  refine rn ?_
                  refine asplit (fun hg14_11 => ?_) (fun hg14_11 => ?_)
                  · refine rn ?_
                    refine qv rfl rfl (qv_call rfl rfl (pcall (refVersion e.v _) (Sbs.refl _))) ?_
                    refine rn ?_
                    exact retq (.cons _ _ _ _ (.tmp _ _ rfl) .nil) (.drop [_, _, _] _ _) ⟨rfl, congrArg bv (by first | (simp only [rightEv, bareE, *, Bool.true_and, Bool.false_and, Bool.and_false, Bool.and_true, Bool.true_or, Bool.or_false, Bool.false_or, Bool.or_true, if_true, if_false, Bool.false_eq_true, Bool.not_true, Bool.not_false]; done) | (simp_all [rightEv, bareE]; done) | (simp_all [rightEv, bareE] <;> omega))⟩
                  · refine rn ?_
                    exact retq (.cons _ _ _ _ (.tmp _ _ rfl) .nil) (.drop [_, _, _] _ _) ⟨rfl, congrArg bv (by first | (simp only [rightEv, bareE, *, Bool.true_and, Bool.false_and, Bool.and_false, Bool.and_true, Bool.true_or, Bool.or_false, Bool.false_or, Bool.or_true, if_true, if_false, Bool.false_eq_true, Bool.not_true, Bool.not_false]; done) | (simp_all [rightEv, bareE]; done) | (simp_all [rightEv, bareE] <;> omega))⟩
                · refine rn ?_
                  exact retq (.cons _ _ _ _ (.tmp _ _ rfl) .nil) (.drop [_, _, _] _ _) ⟨rfl, congrArg bv (by first | (simp only [rightEv, bareE, *, Bool.true_and, Bool.false_and, Bool.and_false, Bool.and_true, Bool.true_or, Bool.or_false, Bool.false_or, Bool.or_true, if_true, if_false, Bool.false_eq_true, Bool.not_true, Bool.not_false]; done) | (simp_all [rightEv, bareE]; done) | (simp_all [rightEv, bareE] <;> omega))⟩
          · refine rn ?_
            refine aw_cf rfl ?_
            refine rn ?_
            refine qv rfl rfl (qv_call rfl rfl (pcall (refEvent ⟨e.kind, e.t, 0, 0, e.o, e.v, 0, []⟩ e (by simp [hl]) hl) (by exact ⟨(by exact Sb.aggs (by exact ⟨.refl _, .refl _, .refl _, .refl _, .refl _, .refl _, .refl _, .refl _, .nil _ _, trivial⟩)), .refl _, trivial⟩))) ?_
            refine rn ?_
            refine asplit (fun hg14_3 => ?_) (fun hg14_3 => ?_)
            · refine rn ?_
              refine qv rfl rfl (qv_call rfl rfl (pcall (refIs _ _) (Sbs.refl _))) ?_
              refine rn ?_
              refine asplit (fun hg14_11 => ?_) (fun hg14_11 => ?_)
              · refine rn ?_
                refine qv rfl rfl (qv_call rfl rfl (pcall (refVersion e.v _) (Sbs.refl _))) ?_
                refine rn ?_
                exact retq (.cons _ _ _ _ (.tmp _ _ rfl) .nil) (.drop [_, _, _] _ _) ⟨rfl, congrArg bv (by first | (simp only [rightEv, bareE, *, Bool.true_and, Bool.false_and, Bool.and_false, Bool.and_true, Bool.true_or, Bool.or_false, Bool.false_or, Bool.or_true, if_true, if_false, Bool.false_eq_true, Bool.not_true, Bool.not_false]; done) | (simp_all [rightEv, bareE]; done) | (simp_all [rightEv, bareE] <;> omega))⟩
              · refine rn ?_
                exact retq (.cons _ _ _ _ (.tmp _ _ rfl) .nil) (.drop [_, _, _] _ _) ⟨rfl, congrArg bv (by first | (simp only [rightEv, bareE, *, Bool.true_and, Bool.false_and, Bool.and_false, Bool.and_true, Bool.true_or, Bool.or_false, Bool.false_or, Bool.or_true, if_true, if_false, Bool.false_eq_true, Bool.not_true, Bool.not_false]; done) | (simp_all [rightEv, bareE]; done) | (simp_all [rightEv, bareE] <;> omega))⟩
            · refine rn ?_
              exact retq (.cons _ _ _ _ (.tmp _ _ rfl) .nil) (.drop [_, _, _] _ _) ⟨rfl, congrArg bv (by first | (simp only [rightEv, bareE, *, Bool.true_and, Bool.false_and, Bool.and_false, Bool.and_true, Bool.true_or, Bool.or_false, Bool.false_or, Bool.or_true, if_true, if_false, Bool.false_eq_true, Bool.not_true, Bool.not_false]; done) | (simp_all [rightEv, bareE]; done) | (simp_all [rightEv, bareE] <;> omega))⟩
        · first | cases hc48 | exact absurd hc48 (by decide) | (exfalso; simp_all; done)
      · refine rn ?_
        refine aw_cond rfl (fun hc48 => ?_) (fun hc48 => ?_)
        · refine rn ?_
          refine aw_drawS 6 [(b6, 72, _)] rfl (List.perm_append_comm (l₁ := [_])) ?_
          refine rn ?_
          refine dw 0 rfl rfl rfl rfl rfl (Nat.le_of_ble_eq_true rfl) ?_
          refine rn2 ?_
          show aops _ _ _ _ _ _ ⟨_, .box b6 72 [iv e.kind, iv e.t, iv 0, iv 0, iv e.o, iv 0, iv 0, iv 0, .v (.slice none 0 0)] :: .box b3 72 (evR e) :: .box b2 28 (histC h) :: [], _⟩
          refine rn0 ?_
          refine aw_seq ?_
          refine aw_seq ?_
          show aw _ _ _ _ _ ⟨_, .box b6 72 [iv e.kind, iv e.t, iv 0, iv 0, iv e.o, iv e.v.t, iv e.v.k, iv 0, .v (.slice none 0 0)] :: .box b3 72 (evR e) :: .box b2 28 (histC h) :: [], _⟩
          refine rn ?_
          refine asplit (fun hg12_3 => ?_) (fun hg12_3 => ?_)
          · refine rn ?_
            refine asplit (fun hg12_8 => ?_) (fun hg12_8 => ?_)
            · refine rn ?_
              refine aw_ct rfl ?_
              refine rn ?_
              exact retq (.cons _ _ _ _ (.tmp _ _ rfl) .nil) (.drop [_, _, _] _ _) ⟨rfl, congrArg bv (by first | (simp only [rightEv, bareE, *, Bool.true_and, Bool.false_and, Bool.and_false, Bool.and_true, Bool.true_or, Bool.or_false, Bool.false_or, Bool.or_true, if_true, if_false, Bool.false_eq_true, Bool.not_true, Bool.not_false]; done) | (simp_all [rightEv, bareE]; done) | (simp_all [rightEv, bareE] <;> omega))⟩
            · refine rn ?_
              refine aw_cond rfl (fun hc73 => ?_) (fun hc73 => ?_)
              · refine rn ?_
                exact retq (.cons _ _ _ _ (.tmp _ _ rfl) .nil) (.drop [_, _, _] _ _) ⟨rfl, congrArg bv (by first | (simp only [rightEv, bareE, *, Bool.true_and, Bool.false_and, Bool.and_false, Bool.and_true, Bool.true_or, Bool.or_false, Bool.false_or, Bool.or_true, if_true, if_false, Bool.false_eq_true, Bool.not_true, Bool.not_false]; done) | (simp_all [rightEv, bareE]; done) | (simp_all [rightEv, bareE] <;> omega))⟩
              · refine rn ?_
                refine qv rfl rfl (qv_call rfl rfl (pcall (refEvent ⟨e.kind, e.t, 0, 0, e.o, e.v, 0, []⟩ e (by simp [hl]) hl) (by exact ⟨(by exact Sb.aggs (by exact ⟨.refl _, .refl _, .refl _, .refl _, .refl _, .refl _, .refl _, .refl _, .nil _ _, trivial⟩)), .refl _, trivial⟩))) ?_
                refine rn ?_
                refine asplit (fun hg14_3 => ?_) (fun hg14_3 => ?_)
                · refine rn ?_
                  refine qv rfl rfl (qv_call rfl rfl (pcall (refIs _ _) (Sbs.refl _))) ?_
                  refine rn ?_
                  refine asplit (fun hg14_11 => ?_) (fun hg14_11 => ?_)
                  · refine rn ?_
                    refine qv rfl rfl (qv_call rfl rfl (pcall (refVersion e.v _) (Sbs.refl _))) ?_
                    refine rn ?_
                    exact retq (.cons _ _ _ _ (.tmp _ _ rfl) .nil) (.drop [_, _, _] _ _) ⟨rfl, congrArg bv (by first | (simp only [rightEv, bareE, *, Bool.true_and, Bool.false_and, Bool.and_false, Bool.and_true, Bool.true_or, Bool.or_false, Bool.false_or, Bool.or_true, if_true, if_false, Bool.false_eq_true, Bool.not_true, Bool.not_false]; done) | (simp_all [rightEv, bareE]; done) | (simp_all [rightEv, bareE] <;> omega))⟩
                  · refine rn ?_
                    exact retq (.cons _ _ _ _ (.tmp _ _ rfl) .nil) (.drop [_, _, _] _ _) ⟨rfl, congrArg bv (by first | (simp only [rightEv, bareE, *, Bool.true_and, Bool.false_and, Bool.and_false, Bool.and_true, Bool.true_or, Bool.or_false, Bool.false_or, Bool.or_true, if_true, if_false, Bool.false_eq_true, Bool.not_true, Bool.not_false]; done) | (simp_all [rightEv, bareE]; done) | (simp_all [rightEv, bareE] <;> omega))⟩
                · refine rn ?_
                  exact retq (.cons _ _ _ _ (.tmp _ _ rfl) .nil) (.drop [_, _, _] _ _) ⟨rfl, congrArg bv (by first | (simp only [rightEv, bareE, *, Bool.true_and, Bool.false_and, Bool.and_false, Bool.and_true, Bool.true_or, Bool.or_false, Bool.false_or, Bool.or_true, if_true, if_false, Bool.false_eq_true, Bool.not_true, Bool.not_false]; done) | (simp_all [rightEv, bareE]; done) | (simp_all [rightEv, bareE] <;> omega))⟩
          · refine rn ?_
            refine aw_cf rfl ?_
            refine rn ?_
            refine qv rfl rfl (qv_call rfl rfl (pcall (refEvent ⟨e.kind, e.t, 0, 0, e.o, e.v, 0, []⟩ e (by simp [hl]) hl) (by exact ⟨(by exact Sb.aggs (by exact ⟨.refl _, .refl _, .refl _, .refl _, .refl _, .refl _, .refl _, .refl _, .nil _ _, trivial⟩)), .refl _, trivial⟩))) ?_
            refine rn ?_
            refine asplit (fun hg14_3 => ?_) (fun hg14_3 => ?_)
            · refine rn ?_
              refine qv rfl rfl (qv_call rfl rfl (pcall (refIs _ _) (Sbs.refl _))) ?_
              refine rn ?_
              refine asplit (fun hg14_11 => ?_) (fun hg14_11 => ?_)
              · refine rn ?_
                refine qv rfl rfl (qv_call rfl rfl (pcall (refVersion e.v _) (Sbs.refl _))) ?_
                refine rn ?_
                exact retq (.cons _ _ _ _ (.tmp _ _ rfl) .nil) (.drop [_, _, _] _ _) ⟨rfl, congrArg bv (by first | (simp only [rightEv, bareE, *, Bool.true_and, Bool.false_and, Bool.and_false, Bool.and_true, Bool.true_or, Bool.or_false, Bool.false_or, Bool.or_true, if_true, if_false, Bool.false_eq_true, Bool.not_true, Bool.not_false]; done) | (simp_all [rightEv, bareE]; done) | (simp_all [rightEv, bareE] <;> omega))⟩
              · refine rn ?_
                exact retq (.cons _ _ _ _ (.tmp _ _ rfl) .nil) (.drop [_, _, _] _ _) ⟨rfl, congrArg bv (by first | (simp only [rightEv, bareE, *, Bool.true_and, Bool.false_and, Bool.and_false, Bool.and_true, Bool.true_or, Bool.or_false, Bool.false_or, Bool.or_true, if_true, if_false, Bool.false_eq_true, Bool.not_true, Bool.not_false]; done) | (simp_all [rightEv, bareE]; done) | (simp_all [rightEv, bareE] <;> omega))⟩
            · refine rn ?_
              exact retq (.cons _ _ _ _ (.tmp _ _ rfl) .nil) (.drop [_, _, _] _ _) ⟨rfl, congrArg bv (by first | (simp only [rightEv, bareE, *, Bool.true_and, Bool.false_and, Bool.and_false, Bool.and_true, Bool.true_or, Bool.or_false, Bool.false_or, Bool.or_true, if_true, if_false, Bool.false_eq_true, Bool.not_true, Bool.not_false]; done) | (simp_all [rightEv, bareE]; done) | (simp_all [rightEv, bareE] <;> omega))⟩
        · refine rn ?_
          refine aw_cond rfl (fun hc91 => ?_) (fun hc91 => ?_)
          · refine rn ?_
            refine aw_drawS 6 [(b6, 72, _)] rfl (List.perm_append_comm (l₁ := [_])) ?_
            refine rn ?_
            refine dw 0 rfl rfl rfl rfl rfl (Nat.le_of_ble_eq_true rfl) ?_
            refine rn2 ?_
            show aops _ _ _ _ _ _ ⟨_, .box b6 72 [iv e.kind, iv e.t, iv 0, iv 0, iv 0, iv 0, iv 0, iv e.p, .v (.slice none 0 0)] :: .box b3 72 (evR e) :: .box b2 28 (histC h) :: [], _⟩
            refine rn0 ?_
            refine aw_seq ?_
            refine aw_seq ?_
            show aw _ _ _ _ _ ⟨_, .box b6 72 [iv e.kind, iv e.t, iv 0, iv 0, iv 0, iv 0, iv 0, iv e.p, seensA e.scan] :: .box b3 72 (evR e) :: .box b2 28 (histC h) :: [], _⟩
            refine rn ?_
            refine aw_loop' (fun k : Nat => k ≤ e.scan.length ∧ e.scan.all (rightSeen h) = (e.scan.drop k).all (rightSeen h)) (fun k => ⟨[(102, iv k), (101, iv (e.scan.map seenR).length), (100, seensA e.scan), (2, .v (.pointer (some ⟨b2, 0, none⟩))), (3, .v (.pointer (some ⟨b3, 0, none⟩))), (6, .v (.pointer (some ⟨b6, 0, none⟩))), (5, iv (h.ts.map strR).length)], [.box b6 72 (evR ⟨e.kind, e.t, 0, 0, 0, ⟨0, 0⟩, e.p, e.scan⟩), .box b3 72 (evR e), .box b2 28 (histC h)], []⟩) (fun k => e.scan.length - k) 0 ⟨Nat.zero_le _, by simp⟩
              (ent_sub (.cons _ _ _ rfl (.cons _ _ _ rfl (.cons _ _ _ rfl (.cons _ _ _ rfl (.cons _ _ _ rfl (.cons _ _ _ rfl (.cons _ _ _ rfl (.nil))))))))) ?_
            rintro k ⟨hk, hz⟩
            refine rn ?_
            refine aw_cond rfl (fun hc103 => ?_) (fun hc103 => ?_)
            · have hk2 : k < e.scan.length := by simpa using hc103
              obtain ⟨s, hs⟩ : ∃ s, s = e.scan[k] := ⟨_, rfl⟩
              have hrow : (e.scan.map seenR)[k]? = some (seenR s) := by rw [hs]; simp [hk2]
              have hd := List.drop_eq_getElem_cons hk2
              rw [← hs] at hd
              refine rn ?_
              refine aops_e rfl (oe_alloc rfl fun b8 => ?_)
              refine rn ?_
              refine qv rfl rfl (qv_call rfl rfl (pcall (refIs _ _) (Sbs.refl _))) ?_
              refine rn ?_
              refine asplit (fun hg20_7 => ?_) (fun hg20_7 => ?_)
              · refine rn ?_
                refine aw_ct rfl ?_
                have hx : rightSeen h s = false := by clear hz hd hrow hs hc103 hk2 hk; simp_all [rightSeen]
                have hall : e.scan.all (rightSeen h) = false := by rw [hz, hd, List.all_cons, hx, Bool.false_and]
                clear hz hd hx hrow
                refine rn ?_
                exact retq (.cons _ _ _ _ (.tmp _ _ rfl) .nil) (.drop [_, _, _, _] _ _) ⟨rfl, congrArg bv (by first | (simp only [rightEv, bareE, *, Bool.true_and, Bool.false_and, Bool.and_false, Bool.and_true, Bool.true_or, Bool.or_false, Bool.false_or, Bool.or_true, if_true, if_false, Bool.false_eq_true, Bool.not_true, Bool.not_false]; done) | (simp_all [rightEv, bareE]; done) | (simp_all [rightEv, bareE] <;> omega))⟩
              · refine rn ?_
                refine qv rfl rfl (qv_call rfl rfl (pcall (refVersion s.v _) (Sbs.refl _))) ?_
                refine rn ?_
                refine aw_cond rfl (fun hc119 => ?_) (fun hc119 => ?_)
                · have hx : rightSeen h s = false := by clear hz hd hrow hs hc103 hk2 hk; simp_all [rightSeen]
                  have hall : e.scan.all (rightSeen h) = false := by rw [hz, hd, List.all_cons, hx, Bool.false_and]
                  clear hz hd hx hrow
                  refine rn ?_
                  exact retq (.cons _ _ _ _ (.tmp _ _ rfl) .nil) (.drop [_, _, _, _] _ _) ⟨rfl, congrArg bv (by first | (simp only [rightEv, bareE, *, Bool.true_and, Bool.false_and, Bool.and_false, Bool.and_true, Bool.true_or, Bool.or_false, Bool.false_or, Bool.or_true, if_true, if_false, Bool.false_eq_true, Bool.not_true, Bool.not_false]; done) | (simp_all [rightEv, bareE]; done) | (simp_all [rightEv, bareE] <;> omega))⟩
                · have hx : rightSeen h s = true := by clear hz hd hrow hs hc103 hk2 hk; simp_all [rightSeen]
                  refine rn ?_
                  exact ⟨k + 1, ⟨by omega, by rw [hz, hd, List.all_cons, hx, Bool.true_and]⟩, (ent_trans (ent_drop (h1 := [_])) (ent_sub (.cons _ _ _ rfl (.cons _ _ _ rfl (.cons _ _ _ rfl (.cons _ _ _ rfl (.cons _ _ _ rfl (.cons _ _ _ rfl (.cons _ _ _ rfl (.nil)))))))))), by omega⟩
            · have hk3 : k = e.scan.length := by
                have : e.scan.length ≤ k := by simpa using hc103
                omega
              rw [hk3, List.drop_length, List.all_nil] at hz
              refine rn ?_
              refine qv rfl rfl (qv_call rfl rfl (pcall (refEvent ⟨e.kind, e.t, 0, 0, 0, ⟨0, 0⟩, e.p, e.scan⟩ e (by simp [hl]) hl) (by exact ⟨(by exact Sb.aggs (by exact ⟨.refl _, .refl _, .refl _, .refl _, .refl _, .refl _, .refl _, .refl _, .refl _, trivial⟩)), .refl _, trivial⟩))) ?_
              refine rn ?_
              refine asplit (fun hg23_3 => ?_) (fun hg23_3 => ?_)
              · refine rn ?_
                refine qv rfl rfl (qv_call rfl rfl (pcall (refIs _ _) (Sbs.refl _))) ?_
                refine rn ?_
                refine asplit (fun hg23_11 => ?_) (fun hg23_11 => ?_)
                · refine rn ?_
                  exact retq (.cons _ _ _ _ (.tmp _ _ rfl) .nil) (.drop [_, _, _] _ _) ⟨rfl, congrArg bv (by first | (simp only [rightEv, bareE, *, Bool.true_and, Bool.false_and, Bool.and_false, Bool.and_true, Bool.true_or, Bool.or_false, Bool.false_or, Bool.or_true, if_true, if_false, Bool.false_eq_true, Bool.not_true, Bool.not_false]; done) | (simp_all [rightEv, bareE]; done) | (simp_all [rightEv, bareE] <;> omega))⟩
                · refine rn ?_
                  exact retq (.cons _ _ _ _ (.tmp _ _ rfl) .nil) (.drop [_, _, _] _ _) ⟨rfl, congrArg bv (by first | (simp only [rightEv, bareE, *, Bool.true_and, Bool.false_and, Bool.and_false, Bool.and_true, Bool.true_or, Bool.or_false, Bool.false_or, Bool.or_true, if_true, if_false, Bool.false_eq_true, Bool.not_true, Bool.not_false]; done) | (simp_all [rightEv, bareE]; done) | (simp_all [rightEv, bareE] <;> omega))⟩
              · refine rn ?_
                exact retq (.cons _ _ _ _ (.tmp _ _ rfl) .nil) (.drop [_, _, _] _ _) ⟨rfl, congrArg bv (by first | (simp only [rightEv, bareE, *, Bool.true_and, Bool.false_and, Bool.and_false, Bool.and_true, Bool.true_or, Bool.or_false, Bool.false_or, Bool.or_true, if_true, if_false, Bool.false_eq_true, Bool.not_true, Bool.not_false]; done) | (simp_all [rightEv, bareE]; done) | (simp_all [rightEv, bareE] <;> omega))⟩
          · refine rn ?_
            refine qv rfl rfl (qv_call rfl rfl (pcall (refEvent ⟨e.kind, e.t, 0, 0, 0, ⟨0, 0⟩, 0, []⟩ e (by simp [hl]) hl) (by exact ⟨(by exact Sb.aggs (by exact ⟨.refl _, .refl _, .refl _, .refl _, .refl _, .refl _, .refl _, .refl _, .nil _ _, trivial⟩)), .refl _, trivial⟩))) ?_
            refine rn ?_
            refine asplit (fun hg24_3 => ?_) (fun hg24_3 => ?_)
            · refine rn ?_
              refine asplit (fun hg24_7 => ?_) (fun hg24_7 => ?_)
              · refine rn ?_
                exact retq (.cons _ _ _ _ (.tmp _ _ rfl) .nil) (.drop [_, _, _] _ _) ⟨rfl, congrArg bv (by first | (simp only [rightEv, bareE, *, Bool.true_and, Bool.false_and, Bool.and_false, Bool.and_true, Bool.true_or, Bool.or_false, Bool.false_or, Bool.or_true, if_true, if_false, Bool.false_eq_true, Bool.not_true, Bool.not_false]; done) | (simp_all [rightEv, bareE]; done) | (simp_all [rightEv, bareE] <;> omega))⟩
              · refine rn ?_
                exact retq (.cons _ _ _ _ (.tmp _ _ rfl) .nil) (.drop [_, _, _] _ _) ⟨rfl, congrArg bv (by first | (simp only [rightEv, bareE, *, Bool.true_and, Bool.false_and, Bool.and_false, Bool.and_true, Bool.true_or, Bool.or_false, Bool.false_or, Bool.or_true, if_true, if_false, Bool.false_eq_true, Bool.not_true, Bool.not_false]; done) | (simp_all [rightEv, bareE]; done) | (simp_all [rightEv, bareE] <;> omega))⟩
            · refine rn ?_
              exact retq (.cons _ _ _ _ (.tmp _ _ rfl) .nil) (.drop [_, _, _] _ _) ⟨rfl, congrArg bv (by first | (simp only [rightEv, bareE, *, Bool.true_and, Bool.false_and, Bool.and_false, Bool.and_true, Bool.true_or, Bool.or_false, Bool.false_or, Bool.or_true, if_true, if_false, Bool.false_eq_true, Bool.not_true, Bool.not_false]; done) | (simp_all [rightEv, bareE]; done) | (simp_all [rightEv, bareE] <;> omega))⟩
end Go.Proofs
/- A rune's text. Conditions: none (a rule over any program). -/
set_option linter.unusedVariables false
namespace Go.Ab
open Go
section
variable {P : Program} {dst : Option Tmp} {ty : TypeId} {pos : String} {after : Array Edge} {guard : Option (Nat × Bool)} {x : Operand} {h : List Res} {f : Operand → Option AV}
theorem qr_convert_str {S T : TypeId} {k : IntKind} {n : Int} (hx : f x = some (.v (.int k n))) [hs : Und P S (.int k)] [ht : Und P T .string] :
    QR P h f ⟨dst, .convert S T x, ty, pos, after, guard⟩ (.v (.string (Utf8.encode n))) := fun X ρ w he => by
  refine ⟨_, run_v _ ?_, .v _⟩
  rw [(he.rel x _ hx).v_eq]
  simp only [convert, Sem.run_bind, Go.Ab.run_underlying (d := TypeDesc.int k), Go.Ab.run_underlying (d := TypeDesc.string), Result.andThen_ok]
  rfl
end
end Go.Ab
/- The walk of the reference's first. Conditions: none. -/
set_option linter.unusedVariables false
set_option linter.unusedSimpArgs false
set_option maxRecDepth 10000
namespace Go.Proofs
open Go Go.Ab
attribute [local irreducible] QR QV OE aops aw dsoup dsoupM dalloc dallocM thn inBlk
open Go.H
theorem ref2First (s : ByteArray) : ACall Tryz.prog 202 [sv s] [] (fun r h' => h' = [] ∧ r = .tup [.v (.int .i32 (firstR s).1), iv (firstR s).2]) := by
  refine acall_of_aw Tryz.func202 rfl rfl rfl ?_
  refine rn ?_
  refine aops_e rfl (oe_range_str rfl rfl fun b8 => ?_)
  refine rn ?_
  refine aw_loop' (fun x : Unit => True) (fun x => ⟨[(8, .v (.pointer (some ⟨b8, 0, none⟩))), (0, sv s), (2, .v (.int .i32 0)), (3, iv 0)], [.obj b8 (.stringIter s 0)], []⟩) (fun x => 0) () trivial
    (ent_sub (.cons _ _ _ rfl (.cons _ _ _ rfl (.cons _ _ _ rfl (.cons _ _ _ rfl (.nil)))))) ?_
  rintro _ _
  refine aw_seq (aw_region ?_)
  refine aops_e rfl (oe_next_str rfl rfl (fun hp => ?_) (fun hp => ?_))
  · refine rn ?_
    refine aw_cond rfl (fun hc10 => ?_) (fun hc10 => ?_)
    · first | cases hc10 | exact absurd hc10 (by decide) | (exfalso; simp_all; done)
    · refine rn ?_
      exact retq (.cons _ _ _ _ (.tmp _ _ rfl) (.cons _ _ _ _ (.tmp _ _ rfl) .nil)) (.drop1 _ _ _) ⟨rfl, by first | (rw [firstR, if_pos hp]; rfl) | (rw [firstR, if_neg (by omega)]; split <;> first | rfl | (exfalso; simp_all; done) | (exfalso; simp_all; omega))⟩
  · refine rn ?_
    refine aw_cond rfl (fun hc10 => ?_) (fun hc10 => ?_)
    · refine rn ?_
      refine aw_cond rfl (fun hc14 => ?_) (fun hc14 => ?_)
      · exact absurd hc14 (by decide)
      · refine aw_skip ?_
        refine thn_n ?_
        refine aw_seq (aw_region ?_)
        refine q1 ?_
        refine qq rfl rfl (qr_convert_str rfl) ?_
        refine rn ?_
        refine asplit (fun hg6_2 => ?_) (fun hg6_2 => ?_)
        · refine rn ?_
          refine asplit (fun hg6_6 => ?_) (fun hg6_6 => ?_)
          · refine rn ?_
            refine aw_cond rfl (fun hc29 => ?_) (fun hc29 => ?_)
            · refine rn ?_
              exact retq (.cons _ _ _ _ (.tmp _ _ rfl) (.cons _ _ _ _ (.tmp _ _ rfl) .nil)) (.drop1 _ _ _) ⟨rfl, by first | (rw [firstR, if_pos hp]; rfl) | (rw [firstR, if_neg (by omega)]; split <;> first | rfl | (exfalso; simp_all; done) | (exfalso; simp_all; omega))⟩
            · first | cases hc29 | exact absurd hc29 (by decide) | (exfalso; simp_all; done)
          · refine q1 ?_
            refine qq rfl rfl (qr_slice_string_h (k := 3) rfl rfl (by have := hg6_6; simp at this; omega)) ?_
            refine rn ?_
            refine aw_cond rfl (fun hc29 => ?_) (fun hc29 => ?_)
            · refine rn ?_
              exact retq (.cons _ _ _ _ (.tmp _ _ rfl) (.cons _ _ _ _ (.tmp _ _ rfl) .nil)) (.drop1 _ _ _) ⟨rfl, by first | (rw [firstR, if_pos hp]; rfl) | (rw [firstR, if_neg (by omega)]; split <;> first | rfl | (exfalso; simp_all; done) | (exfalso; simp_all; omega))⟩
            · refine rn ?_
              exact retq (.cons _ _ _ _ (.tmp _ _ rfl) (.cons _ _ _ _ (.tmp _ _ rfl) .nil)) (.drop1 _ _ _) ⟨rfl, by first | (rw [firstR, if_pos hp]; rfl) | (rw [firstR, if_neg (by omega)]; split <;> first | rfl | (exfalso; simp_all; done) | (exfalso; simp_all; omega))⟩
        · refine rn ?_
          refine aw_cond rfl (fun hc29 => ?_) (fun hc29 => ?_)
          · first | cases hc29 | exact absurd hc29 (by decide) | (exfalso; simp_all; done)
          · refine rn ?_
            exact retq (.cons _ _ _ _ (.tmp _ _ rfl) (.cons _ _ _ _ (.tmp _ _ rfl) .nil)) (.drop1 _ _ _) ⟨rfl, by first | (rw [firstR, if_pos hp]; rfl) | (rw [firstR, if_neg (by omega)]; split <;> first | rfl | (exfalso; simp_all; done) | (exfalso; simp_all; omega))⟩
    · first | cases hc10 | exact absurd hc10 (by decide) | (exfalso; simp_all; done)
end Go.Proofs
/- The walks of the reference's Word and RightNames. Conditions: none. -/
set_option linter.unusedVariables false
set_option linter.unusedSimpArgs false
set_option maxRecDepth 10000
namespace Go.Proofs
open Go Go.Ab
attribute [local irreducible] QR QV OE aops aw dsoup dsoupM dalloc dallocM thn inBlk
open Go.H
theorem ref2FirstN (s : ByteArray) (c n : Int) (h : firstR s = (c, n)) : ACall Tryz.prog 202 [sv s] [] (fun r h' => h' = [] ∧ r = .tup [.v (.int .i32 c), iv n]) :=
  (ref2First s).mono fun _ _ q => ⟨q.1, by rw [q.2, h]⟩
theorem ref2Word (s : ByteArray) : ACall Tryz.prog 163 [sv s] [] (fun r h' => h' = [] ∧ r = bv (wordB s)) := by
  refine acall_of_aw Tryz.func163 rfl rfl rfl ?_
  refine rn ?_
  refine asplit (fun hg1_2 => ?_) (fun hg1_2 => ?_)
  · refine rn ?_
    refine aw_ct rfl ?_
    refine rn ?_
    refine rq 0 ?_
    exact ⟨rfl, congrArg bv (by first | (rw [wordB_eq, ← emptyL, hg1_2]; rfl) | (rw [wordB_eq, decide_eq_false (show ¬ (s.size : Int) ≤ 24 by simp at hc12; omega), Bool.and_false]; rfl))⟩
  · refine rn ?_
    refine aw_cond rfl (fun hc12 => ?_) (fun hc12 => ?_)
    · refine rn ?_
      refine rq 0 ?_
      exact ⟨rfl, congrArg bv (by first | (rw [wordB_eq, ← emptyL, hg1_2]; rfl) | (rw [wordB_eq, decide_eq_false (show ¬ (s.size : Int) ≤ 24 by simp at hc12; omega), Bool.and_false]; rfl))⟩
    · have hlen : s.size ≤ 24 := by simp at hc12; omega
      refine rn ?_
      refine aw_while (fun i : Nat => wordR s 0 = wordR s i ∧ i ≤ 48) (fun i => ⟨[(3, iv i), (0, sv s)], [], []⟩) (fun i => s.size - i) 0 ⟨rfl, by omega⟩ es ?_
      rintro i ⟨hz, hi⟩
      refine rn ?_
      refine aw_cond rfl (fun hc16 => ?_) (fun hc16 => ?_)
      · have h1 : i < s.size := by simpa using hc16
        refine aw_skip ?_
        refine thn_n ?_
        refine aw_block ?_
        refine aw_seq (aw_region ?_)
        refine q1 ?_
        refine q1 ?_
        refine qq rfl rfl (qr_slice_string_l (k := i) rfl rfl (by omega)) ?_
        obtain ⟨c, n, hw, hn1, hn4⟩ := firstR_w h1
        refine qv rfl rfl (qv_call rfl rfl (pcall (ref2FirstN _ c n hw) (Sbs.refl _))) ?_
        refine rn ?_
        refine qv rfl rfl (qv_call rfl rfl (pcall (ref2Letter _) (Sbs.refl _))) ?_
        refine rn ?_
        refine asplit (fun hg6_3 => ?_) (fun hg6_3 => ?_)
        · refine rn ?_
          refine asplit (fun hg6_6 => ?_) (fun hg6_6 => ?_)
          · refine rn ?_
            refine aw_ct rfl ?_
            refine rn ?_
            refine rq 0 ?_
            exact ⟨rfl, congrArg bv (by rw [wordB_eq, hz, wordR_stop h1 hw (by simpa using hg6_3) (by first | exact .inl (by simpa using hg6_6) | exact .inr (by simpa using hc35)), Bool.and_false])⟩
          · refine rn ?_
            refine qv rfl rfl (qv_call rfl rfl (pcall (ref2Digit _) (Sbs.refl _))) ?_
            refine rn ?_
            refine aw_cond rfl (fun hc35 => ?_) (fun hc35 => ?_)
            · refine rn ?_
              refine rq 0 ?_
              exact ⟨rfl, congrArg bv (by rw [wordB_eq, hz, wordR_stop h1 hw (by simpa using hg6_3) (by first | exact .inl (by simpa using hg6_6) | exact .inr (by simpa using hc35)), Bool.and_false])⟩
            · refine rn ?_
              exact ⟨i + n, ⟨hz.trans (wordR_go h1 hw hn1 (.inr ⟨by simpa using hg6_6, by simpa using hc35⟩)), by omega⟩, eA, by omega⟩
        · refine rn ?_
          first | (refine qv rfl rfl (qv_call rfl rfl (pcall (ref2Digit _) (Sbs.refl _))) ?_) | refine qs rfl rfl ?_ | skip
          refine rn ?_
          refine aw_cf rfl ?_
          refine rn ?_
          exact ⟨i + n, ⟨hz.trans (wordR_go h1 hw hn1 (.inl (by simpa using hg6_3))), by omega⟩, eA, by omega⟩
      · have h1 : ¬ i < s.size := by simpa using hc16
        refine rn ?_
        refine rq 0 ?_
        exact ⟨rfl, congrArg bv (by rw [wordB_eq, ← emptyL, hg1_2, hz, wordR_end h1, decide_eq_true (show (s.size : Int) ≤ 24 by omega)]; rfl)⟩
theorem refRightNames (l : List ByteArray) (most : Nat) (hl : l.length ≤ 4611686018427387904) : ACall Tryz.prog 119 [strsA l, iv most] [] (fun r h' => h' = [] ∧ r = bv (namesB most l)) := by
  refine acall_of_aw Tryz.func119 rfl rfl rfl ?_
  refine rn ?_
  refine aw_rng (l.length) (fun k : Nat => freshB [] l = freshB (l.take k) (l.drop k)) (fun k => [(11, iv k)]) [(0, _), (1, _), (9, _), (10, _)] rfl ?_
  intro k lk zk
  refine rn ?_
  refine aw_cond rfl (fun hc12 => ?_) (fun hc12 => ?_)
  · have hk := ltMap hc12
    have rk := atRow (f := strR) hk
    refine rn ?_
    refine qv rfl rfl (qv_call rfl rfl (pcall (ref2Word _) (Sbs.refl _))) ?_
    refine rn ?_
    refine aw_cond rfl (fun hc18 => ?_) (fun hc18 => ?_)
    · refine rn ?_
      refine rq 0 ?_
      exact ⟨rfl, congrArg bv (by rw [namesB, fresh_w hk zk (by simpa using hc18), Bool.and_false])⟩
    · refine aw_skip ?_
      refine thn_n ?_
      refine aw_seq (aw_region ?_)
      refine q1 ?_
      refine q1 ?_
      refine qq rfl rfl (qr_slice_h (k := k) rfl rfl (by simp; omega)) ?_
      rw [← List.map_take]
      refine rn ?_
      refine aw_rng ((l.take k).length) (fun j : Nat => (l.take k).all (fun t => !(l[k].toList == t.toList)) = ((l.take k).drop j).all (fun t => !(l[k].toList == t.toList))) (fun j => [(23, iv j)]) [(0, _), (1, _), (6, _), (9, _), (10, _), (11, _), (21, _), (22, _)] rfl ?_
      intro j lj zj
      refine rn ?_
      refine aw_cond rfl (fun hc24 => ?_) (fun hc24 => ?_)
      · have hj := ltMap hc24
        have rj := atRow (f := strR) hj
        have bj : (l.take k).length ≤ 4611686018427387904 := by simp; omega
        refine rn ?_
        refine aw_cond rfl (fun hc29 => ?_) (fun hc29 => ?_)
        · refine rn ?_
          refine rq 0 ?_
          exact ⟨rfl, congrArg bv (by rw [namesB, fresh_m hk zk (allF hj (by simpa using hc29)), Bool.and_false])⟩
        · refine rn ?_
          exact ⟨hj, allT hj zj (by simpa using hc29), eA⟩
      · have qj := geMap hc24 lj
        have aj := allE qj zj
        refine rn ?_
        exact ⟨hk, fresh_step hk zk (by simpa using hc18) aj, eA⟩
  · have qk := geMap hc12 lk
    refine rn ?_
    refine rq 0 ?_
    exact ⟨rfl, congrArg bv (by rw [namesB, fresh_e qk zk]; simp)⟩
end Go.Proofs
/- The walk of the reference's Shaped. Conditions: none. -/
set_option linter.unusedVariables false
set_option linter.unusedSimpArgs false
set_option maxRecDepth 10000
namespace Go.Proofs
open Go Go.Ab
attribute [local irreducible] QR QV OE aops aw dsoup dsoupM dalloc dallocM thn inBlk
open Go.H
theorem refRightEvE (h : Hist) (e : Ev) (hl : e.scan.length ≤ 4611686018427387904) : ACall Tryz.prog 120 [.agg (histC h), .agg (evR e)] [] (fun r h' => h' = [] ∧ r = bv (eventB h e)) :=
  (refRightEv h e hl).mono fun _ _ q => ⟨q.1, by rw [q.2, rightEv_eq]⟩
theorem refShaped (h : Hist) (la : Lim 4611686018427387904 h) : ACall Tryz.prog 71 [.agg (histC h)] [] (fun r h' => h' = [] ∧ r = bv (shapedB h)) := by
  refine acall_of_aw Tryz.func71 rfl rfl rfl ?_
  refine rn ?_
  refine aops_e rfl (oe_box rfl rfl rfl fun b1 => ?_)
  refine rn ?_
  refine qv rfl rfl (qv_call rfl rfl (pcall (refRightNames h.ts 300 la.ts) (Sbs.refl _))) ?_
  refine rn ?_
  refine asplit (fun hg1_4 => ?_) (fun hg1_4 => ?_)
  · refine rn ?_
    refine aw_ct rfl ?_
    refine rn ?_
    refine rq 1 ?_
    exact ⟨rfl, congrArg bv (by rw [shaped_fn (by simp_all)])⟩
  · refine rn ?_
    refine qv rfl rfl (qv_call rfl rfl (pcall (refRightNames h.ss 60 la.ss) (Sbs.refl _))) ?_
    refine rn ?_
    refine asplit (fun hg1_10 => ?_) (fun hg1_10 => ?_)
    · refine rn ?_
      refine aw_ct rfl ?_
      refine rn ?_
      refine rq 1 ?_
      exact ⟨rfl, congrArg bv (by rw [shaped_fn (by simp_all)])⟩
    · refine rn ?_
      refine qv rfl rfl (qv_call rfl rfl (pcall (refRightNames h.os 300 la.os) (Sbs.refl _))) ?_
      refine rn ?_
      refine asplit (fun hg1_16 => ?_) (fun hg1_16 => ?_)
      · refine rn ?_
        refine aw_ct rfl ?_
        refine rn ?_
        refine rq 1 ?_
        exact ⟨rfl, congrArg bv (by rw [shaped_fn (by simp_all)])⟩
      · refine rn ?_
        refine qv rfl rfl (qv_call rfl rfl (pcall (refRightNames h.ps 60 la.ps) (Sbs.refl _))) ?_
        refine rn ?_
        refine aw_cond rfl (fun hc32 => ?_) (fun hc32 => ?_)
        · refine rn ?_
          refine rq 1 ?_
          exact ⟨rfl, congrArg bv (by rw [shaped_fn (by simp_all)])⟩
        · refine rn ?_
          refine aw_rng (h.evs.length) (fun i : Nat => h.evs.all (eventB h) = (h.evs.drop i).all (eventB h)) (fun i => [(36, iv i)]) [(1, _), (34, _), (35, _)] rfl ?_
          intro i li zi
          refine rn ?_
          refine aw_cond rfl (fun hc37 => ?_) (fun hc37 => ?_)
          · have hi := ltMap hc37
            have ri := atRow (f := evR) hi
            have bi := la.evs
            have si := la.scans h.evs[i] (List.getElem_mem hi)
            refine rn ?_
            refine aops_e rfl (oe_alloc rfl fun b4 => ?_)
            refine rn ?_
            refine qv rfl rfl (qv_call rfl rfl (pcall (refRightEvE h h.evs[i] si) (Sbs.refl _))) ?_
            refine rn ?_
            refine aw_cond rfl (fun hc43 => ?_) (fun hc43 => ?_)
            · refine rn ?_
              refine rq 2 ?_
              exact ⟨rfl, congrArg bv (by rw [shaped_fe (allF hi (by simpa using hc43))])⟩
            · refine rn ?_
              exact ⟨hi, allT hi zi (by simpa using hc43), eA⟩
          · have qi := geMap hc37 li
            have ai := allE qi zi
            refine rn ?_
            refine aw_rng (h.ords.length) (fun j : Nat => h.ords.all (ordB h) = (h.ords.drop j).all (ordB h)) (fun j => [(48, iv j)]) [(1, _), (46, _), (47, _)] rfl ?_
            intro j lj zj
            refine rn ?_
            refine aw_cond rfl (fun hc49 => ?_) (fun hc49 => ?_)
            · have hj := ltMap hc49
              have rj := atRow (f := ordR) hj
              have bj := la.ords
              have sj := la.ordts h.ords[j] (List.getElem_mem hj)
              refine rn ?_
              refine aops_e rfl (oe_alloc rfl fun b6 => ?_)
              refine rn ?_
              refine qv rfl rfl (qv_call rfl rfl (pcall (refIs _ _) (Sbs.refl _))) ?_
              refine rn ?_
              refine asplit (fun hg12_7 => ?_) (fun hg12_7 => ?_)
              · refine rn ?_
                refine aw_ct rfl ?_
                refine rn ?_
                refine rq 2 ?_
                exact ⟨rfl, congrArg bv (by rw [shaped_fo (allF hj (by rw [ordB_eq]; simp_all))])⟩
              · refine rn ?_
                refine qv rfl rfl (qv_call rfl rfl (pcall (refTs h h.ords[j].ts sj) (Sbs.refl _))) ?_
                refine rn ?_
                refine aw_cond rfl (fun hc65 => ?_) (fun hc65 => ?_)
                · refine rn ?_
                  refine rq 2 ?_
                  exact ⟨rfl, congrArg bv (by rw [shaped_fo (allF hj (by rw [ordB_eq]; simp_all))])⟩
                · refine rn ?_
                  exact ⟨hj, allT hj zj (by rw [ordB_eq]; simp_all), eA⟩
            · have qj := geMap hc49 lj
              have aj := allE qj zj
              refine rn ?_
              refine aw_rng (h.mats.length) (fun k : Nat => h.mats.all (matB h) = (h.mats.drop k).all (matB h)) (fun k => [(70, iv k)]) [(1, _), (68, _), (69, _)] rfl ?_
              intro k lk zk
              refine rn ?_
              refine aw_cond rfl (fun hc71 => ?_) (fun hc71 => ?_)
              · have hk := ltMap hc71
                have rk := atRow (f := matR) hk
                have bk := la.mats
                have sk := la.matts h.mats[k] (List.getElem_mem hk)
                refine rn ?_
                refine aops_e rfl (oe_alloc rfl fun b8 => ?_)
                refine rn ?_
                refine qv rfl rfl (qv_call rfl rfl (pcall (refIs _ _) (Sbs.refl _))) ?_
                refine rn ?_
                refine asplit (fun hg18_7 => ?_) (fun hg18_7 => ?_)
                · refine rn ?_
                  refine aw_ct rfl ?_
                  refine rn ?_
                  refine rq 2 ?_
                  exact ⟨rfl, congrArg bv (by rw [shaped_fm (allF hk (by rw [matB_eq]; simp_all))])⟩
                · refine rn ?_
                  refine qv rfl rfl (qv_call rfl rfl (pcall (refIs _ _) (Sbs.refl _))) ?_
                  refine rn ?_
                  refine asplit (fun hg18_16 => ?_) (fun hg18_16 => ?_)
                  · refine rn ?_
                    refine aw_ct rfl ?_
                    refine rn ?_
                    refine rq 2 ?_
                    exact ⟨rfl, congrArg bv (by rw [shaped_fm (allF hk (by rw [matB_eq]; simp_all))])⟩
                  · refine rn ?_
                    refine qv rfl rfl (qv_call rfl rfl (pcall (refTs h h.mats[k].ts sk) (Sbs.refl _))) ?_
                    refine rn ?_
                    refine aw_cond rfl (fun hc96 => ?_) (fun hc96 => ?_)
                    · refine rn ?_
                      refine rq 2 ?_
                      exact ⟨rfl, congrArg bv (by rw [shaped_fm (allF hk (by rw [matB_eq]; simp_all))])⟩
                    · refine rn ?_
                      exact ⟨hk, allT hk zk (by rw [matB_eq]; simp_all), eA⟩
              · have qk := geMap hc71 lk
                have ak := allE qk zk
                refine rn ?_
                refine aw_rng (h.wants.length) (fun m : Nat => h.wants.all (wanB h) = (h.wants.drop m).all (wanB h)) (fun m => [(101, iv m)]) [(1, _), (99, _), (100, _)] rfl ?_
                intro m lm zm
                refine rn ?_
                refine aw_cond rfl (fun hc102 => ?_) (fun hc102 => ?_)
                · have hm := ltMap hc102
                  have rm := atRow (f := wanR) hm
                  have bm := la.wants
                  refine rn ?_
                  refine aops_e rfl (oe_alloc rfl fun b10 => ?_)
                  refine rn ?_
                  refine qv rfl rfl (qv_call rfl rfl (pcall (refIs _ _) (Sbs.refl _))) ?_
                  refine rn ?_
                  refine asplit (fun hg24_7 => ?_) (fun hg24_7 => ?_)
                  · refine rn ?_
                    refine aw_ct rfl ?_
                    refine rn ?_
                    refine rq 2 ?_
                    exact ⟨rfl, congrArg bv (by rw [shaped_fw (allF hm (by rw [wanB_eq]; simp_all))])⟩
                  · refine rn ?_
                    refine qv rfl rfl (qv_call rfl rfl (pcall (refIs _ _) (Sbs.refl _))) ?_
                    refine rn ?_
                    refine aw_cond rfl (fun hc117 => ?_) (fun hc117 => ?_)
                    · refine rn ?_
                      refine rq 2 ?_
                      exact ⟨rfl, congrArg bv (by rw [shaped_fw (allF hm (by rw [wanB_eq]; simp_all))])⟩
                    · refine rn ?_
                      exact ⟨hm, allT hm zm (by rw [wanB_eq]; simp_all), eA⟩
                · have qm := geMap hc102 lm
                  have am := allE qm zm
                  refine rn ?_
                  refine asplit (fun hg27_4 => ?_) (fun hg27_4 => ?_)
                  · refine rn ?_
                    refine asplit (fun hg27_10 => ?_) (fun hg27_10 => ?_)
                    · refine rn ?_
                      refine asplit (fun hg27_16 => ?_) (fun hg27_16 => ?_)
                      · refine rn ?_
                        refine rq 1 ?_
                        exact ⟨rfl, congrArg bv (by rw [shaped_is (by simp_all) (by simp_all) (by simp_all) (by simp_all) ai aj ak am]; first | (simp_all; done) | (simp_all; intros; omega))⟩
                      · refine rn ?_
                        refine rq 1 ?_
                        exact ⟨rfl, congrArg bv (by rw [shaped_is (by simp_all) (by simp_all) (by simp_all) (by simp_all) ai aj ak am]; first | (simp_all; done) | (simp_all; intros; omega))⟩
                    · refine rn ?_
                      refine rq 1 ?_
                      exact ⟨rfl, congrArg bv (by rw [shaped_is (by simp_all) (by simp_all) (by simp_all) (by simp_all) ai aj ak am]; first | (simp_all; done) | (simp_all; intros; omega))⟩
                  · refine rn ?_
                    refine rq 1 ?_
                    exact ⟨rfl, congrArg bv (by rw [shaped_is (by simp_all) (by simp_all) (by simp_all) (by simp_all) ai aj ak am]; first | (simp_all; done) | (simp_all; intros; omega))⟩
end Go.Proofs
/- The walks of the reference's first and made. Conditions: none. -/
set_option linter.unusedVariables false
set_option linter.unusedSimpArgs false
set_option maxRecDepth 10000
namespace Go.Proofs
open Go Go.Ab
attribute [local irreducible] QR QV OE aops aw dsoup dsoupM dalloc dallocM thn inBlk
open Go.H
theorem ref11First (s : SV) (l : List Int) (n : Int) (hl : l.length ≤ 1000000000) : ACall Tryz.prog 122 [.v s.v, iv n] [.row s.v 1 3 (l.map intR)] (fun r h' => ∃ s' : SV, h' = [.row s'.v 1 3 ((addF l n).map intR)] ∧ r = .v s'.v) := by
  refine acall_of_aw Tryz.func122 rfl rfl rfl ?_
  refine rn ?_
  refine qv rfl rfl (qv_call rfl rfl (FCall.lend (R := fun x => x = iv (atI n 0 l)) (FCall.of_fun (refAt (f := false) l n (by omega))) (fun r hr => by rw [hr]; rfl) (.refl _ _) ⟨ble_row, .refl _ _, trivial⟩)) ?_
  refine rn ?_
  refine aw_cond rfl (fun hc8 => ?_) (fun hc8 => ?_)
  · refine rn ?_
    refine rq 0 ?_
    exact ⟨s, by rw [addF, if_pos (by simpa using hc8)]; rfl, rfl⟩
  · refine rn ?_
    refine qv rfl rfl (qv_buildSlice rfl rfl) ?_
    refine aops_e rfl (oe_append_row rfl rfl (by simp; omega) rfl (fun s13 => ?_) (fun r hr => by simp at hr; subst hr; rfl))
    refine aops_slice s13 fun sv hsv => ?_
    subst hsv
    refine rn ?_
    refine rq 0 ?_
    exact ⟨sv, by rw [addF, if_neg (by simpa using hc8), List.map_append]; rfl, rfl⟩
theorem ref11Made (s : SV) (l : List Int) (v : Ver) (hl : l.length ≤ 1000000000) : ACall Tryz.prog 123 [.v s.v, .agg (verR v)] [.row s.v 1 3 (l.map intR)] (fun r h' => ∃ s' : SV, h' = [.row s'.v 1 3 ((addV l v).map intR)] ∧ r = .v s'.v) := by
  refine acall_of_aw Tryz.func123 rfl rfl rfl ?_
  refine rn ?_
  refine aops_e rfl (oe_box rfl rfl rfl fun b3 => ?_)
  refine rn ?_
  refine aw_cond rfl (fun hc7 => ?_) (fun hc7 => ?_)
  · refine rn ?_
    refine rq 1 ?_
    exact ⟨s, by rw [addV, if_pos (by simpa using hc7)]; rfl, rfl⟩
  · refine rn ?_
    refine aops_e rfl (oe_call rfl rfl (fcall_row (FCall.of_fun (ref11First s l v.t hl))) rfl ?_)
    rintro _ _ ⟨s', rfl, rfl⟩
    refine rn ?_
    refine rq 1 ?_
    exact ⟨s', by rw [addV, if_neg (by simpa using hc7)]; rfl, rfl⟩
end Go.Proofs
/- The walk of the reference's Spoken. Conditions: none. -/
set_option linter.unusedVariables false
set_option linter.unusedSimpArgs false
set_option maxRecDepth 10000
namespace Go.Proofs
open Go Go.Ab
attribute [local irreducible] QR QV OE aops aw dsoup dsoupM dalloc dallocM thn inBlk
open Go.H
set_option maxHeartbeats 4000000 in
theorem refSpoken (h : Hist) (la : Lim 3000 h) : ACall Tryz.prog 72 [.agg (histC h)] [] (fun r h' => h' = [] ∧ r = .agg [intsA (spokenF h 0), intsA (spokenF h 1), intsA (spokenF h 2), intsA (spokenF h 3)]) := by
  refine acall_of_aw Tryz.func72 rfl rfl rfl ?_
  refine rn ?_
  refine aops_e rfl (oe_box rfl rfl rfl fun b1 => ?_)
  refine aops_e rfl (oe_alloc rfl fun b2 => ?_)
  refine rn ?_
  refine aops_e rfl (oe_alloc rfl fun b3 => ?_)
  refine rn ?_
  refine aw_rng4 h.evs.length (fun k s0 s1 s2 s3 => ⟨[(21, iv k), (1, .v (.pointer (some ⟨b1, 0, none⟩))), (2, .v (.pointer (some ⟨b2, 0, none⟩))), (3, .v (.pointer (some ⟨b3, 0, none⟩))), (19, evsA h.evs), (20, iv (h.evs.map evR).length)], [.row s0.v 1 3 (((spE h k) 0).map intR), .row s1.v 1 3 (((spE h k) 1).map intR), .row s2.v 1 3 (((spE h k) 2).map intR), .row s3.v 1 3 (((spE h k) 3).map intR), .box b3 110 [.v s0.v, .v s1.v, .v s2.v, .v s3.v], .box b2 110 [.v (.slice none 0 0), .v (.slice none 0 0), .v (.slice none 0 0), .v (.slice none 0 0)], .box b1 28 (histC h)], []⟩) (⟨none, 0, 0⟩) (⟨none, 0, 0⟩) (⟨none, 0, 0⟩) (⟨none, 0, 0⟩) (ent_trans (ent_nilrow 1 3) (ent_trans (ent_nilrow 1 3) (ent_trans (ent_nilrow 1 3) (ent_trans (ent_nilrow 1 3) es)))) ?_
  intro k s0 s1 s2 s3 lk
  refine rn ?_
  refine aw_cond rfl (fun hc22 => ?_) (fun hc22 => ?_)
  · have hk := ltMap hc22
    have rk := atRow (f := evR) hk
    have bd := bdE la k lk
    have ls := la.scans h.evs[k] (List.getElem_mem hk)
    have le := la.evs
    refine rn ?_
    refine aops_e rfl (oe_alloc rfl fun b5 => ?_)
    refine rn ?_
    refine qq rfl rfl (qr_indexAddr_int rfl rfl (by decide) (by decide)) ?_
    refine rn ?_
    refine aops_e rfl (oe_call rfl rfl (fcall_row (FCall.of_fun (ref11First _ _ _ (by have := bd 0; omega)))) rfl ?_)
    rintro _ _ ⟨s', rfl, rfl⟩
    refine qq rfl rfl (qr_indexAddr_int rfl rfl (by decide) (by decide)) ?_
    refine rn0 ?_
    refine aw_cut4 (fun s0 s1 s2 s3 => ⟨[(5, .v (.pointer (some ⟨b5, 0, none⟩))), (21, iv k), (20, iv (h.evs.map evR).length), (19, evsA h.evs), (1, .v (.pointer (some ⟨b1, 0, none⟩))), (2, .v (.pointer (some ⟨b2, 0, none⟩))), (3, .v (.pointer (some ⟨b3, 0, none⟩)))], [.box b5 72 (evR h.evs[k]), .row s0.v 1 3 (((stepK (stepF (spE h k) (0, h.evs[k].t)) h.evs[k]) 0).map intR), .row s1.v 1 3 (((stepK (stepF (spE h k) (0, h.evs[k].t)) h.evs[k]) 1).map intR), .row s2.v 1 3 (((stepK (stepF (spE h k) (0, h.evs[k].t)) h.evs[k]) 2).map intR), .row s3.v 1 3 (((stepK (stepF (spE h k) (0, h.evs[k].t)) h.evs[k]) 3).map intR), .box b3 110 [.v s0.v, .v s1.v, .v s2.v, .v s3.v], .box b2 110 [.v (.slice none 0 0), .v (.slice none 0 0), .v (.slice none 0 0), .v (.slice none 0 0)], .box b1 28 (histC h)], []⟩) ?_ ?_
    · refine rn ?_
      refine aw_cond rfl (fun hc33 => ?_) (fun hc33 => ?_)
      · refine rn ?_
        refine qq rfl rfl (qr_indexAddr_int rfl rfl (by decide) (by decide)) ?_
        refine rn ?_
        refine aops_e rfl (oe_call rfl rfl (fcall_row (FCall.of_fun (ref11First _ _ _ (by have := bd 1; omega)))) rfl ?_)
        rintro _ _ ⟨s', rfl, rfl⟩
        refine qq rfl rfl (qr_indexAddr_int rfl rfl (by decide) (by decide)) ?_
        refine rn ?_
        exact ⟨_, _, _, _, by unfold stepK; first | (rw [if_pos (by simpa using hc33)]; exact eA) | (rw [if_neg (by simpa using hc33), if_pos (by simp at hc33; simp_all)]; exact eA) | (rw [if_neg (by simpa using hc33), if_neg (by simp at hc33; simp_all), if_pos (by simpa using hc56)]; exact eA) | (rw [if_neg (by simpa using hc33), if_neg (by simp at hc33; simp_all), if_neg (by simpa using hc56)]; exact eA)⟩
      · refine rn ?_
        refine aw_cond rfl (fun hc41 => ?_) (fun hc41 => ?_)
        · refine rn ?_
          refine aw_cond rfl (fun hc41 => ?_) (fun hc41 => ?_)
          · refine rn ?_
            refine qq rfl rfl (qr_indexAddr_int rfl rfl (by decide) (by decide)) ?_
            refine rn ?_
            refine aops_e rfl (oe_call rfl rfl (fcall_row (FCall.of_fun (ref11First _ _ _ (by have := bd 2; omega)))) rfl ?_)
            rintro _ _ ⟨s', rfl, rfl⟩
            refine qq rfl rfl (qr_indexAddr_int rfl rfl (by decide) (by decide)) ?_
            refine rn ?_
            refine qq rfl rfl (qr_indexAddr_int rfl rfl (by decide) (by decide)) ?_
            refine rn ?_
            refine aops_e rfl (oe_call rfl rfl (fcall_row (FCall.of_fun (ref11Made _ _ _ (by have := (bd.f (0, h.evs[k].t)) 0; exact Nat.le_trans this (by omega))))) rfl ?_)
            rintro _ _ ⟨s', rfl, rfl⟩
            refine qq rfl rfl (qr_indexAddr_int rfl rfl (by decide) (by decide)) ?_
            refine rn ?_
            exact ⟨_, _, _, _, by unfold stepK; first | (rw [if_pos (by simpa using hc33)]; exact eA) | (rw [if_neg (by simpa using hc33), if_pos (by simp at hc33; simp_all)]; exact eA) | (rw [if_neg (by simpa using hc33), if_neg (by simp at hc33; simp_all), if_pos (by simpa using hc56)]; exact eA) | (rw [if_neg (by simpa using hc33), if_neg (by simp at hc33; simp_all), if_neg (by simpa using hc56)]; exact eA)⟩
          · first | cases hc41 | exact absurd hc41 (by decide) | (exfalso; simp_all; done)
        · refine rn ?_
          refine aw_cond rfl (fun hc41 => ?_) (fun hc41 => ?_)
          · refine rn ?_
            refine qq rfl rfl (qr_indexAddr_int rfl rfl (by decide) (by decide)) ?_
            refine rn ?_
            refine aops_e rfl (oe_call rfl rfl (fcall_row (FCall.of_fun (ref11First _ _ _ (by have := bd 2; omega)))) rfl ?_)
            rintro _ _ ⟨s', rfl, rfl⟩
            refine qq rfl rfl (qr_indexAddr_int rfl rfl (by decide) (by decide)) ?_
            refine rn ?_
            refine qq rfl rfl (qr_indexAddr_int rfl rfl (by decide) (by decide)) ?_
            refine rn ?_
            refine aops_e rfl (oe_call rfl rfl (fcall_row (FCall.of_fun (ref11Made _ _ _ (by have := (bd.f (0, h.evs[k].t)) 0; exact Nat.le_trans this (by omega))))) rfl ?_)
            rintro _ _ ⟨s', rfl, rfl⟩
            refine qq rfl rfl (qr_indexAddr_int rfl rfl (by decide) (by decide)) ?_
            refine rn ?_
            exact ⟨_, _, _, _, by unfold stepK; first | (rw [if_pos (by simpa using hc33)]; exact eA) | (rw [if_neg (by simpa using hc33), if_pos (by simp at hc33; simp_all)]; exact eA) | (rw [if_neg (by simpa using hc33), if_neg (by simp at hc33; simp_all), if_pos (by simpa using hc56)]; exact eA) | (rw [if_neg (by simpa using hc33), if_neg (by simp at hc33; simp_all), if_neg (by simpa using hc56)]; exact eA)⟩
          · refine rn ?_
            refine aw_cond rfl (fun hc56 => ?_) (fun hc56 => ?_)
            · refine rn ?_
              refine qq rfl rfl (qr_indexAddr_int rfl rfl (by decide) (by decide)) ?_
              refine rn ?_
              refine aops_e rfl (oe_call rfl rfl (fcall_row (FCall.of_fun (ref11First _ _ _ (by have := bd 3; omega)))) rfl ?_)
              rintro _ _ ⟨s', rfl, rfl⟩
              refine qq rfl rfl (qr_indexAddr_int rfl rfl (by decide) (by decide)) ?_
              refine rn ?_
              exact ⟨_, _, _, _, by unfold stepK; first | (rw [if_pos (by simpa using hc33)]; exact eA) | (rw [if_neg (by simpa using hc33), if_pos (by simp at hc33; simp_all)]; exact eA) | (rw [if_neg (by simpa using hc33), if_neg (by simp at hc33; simp_all), if_pos (by simpa using hc56)]; exact eA) | (rw [if_neg (by simpa using hc33), if_neg (by simp at hc33; simp_all), if_neg (by simpa using hc56)]; exact eA)⟩
            · refine rn ?_
              exact ⟨_, _, _, _, by unfold stepK; first | (rw [if_pos (by simpa using hc33)]; exact eA) | (rw [if_neg (by simpa using hc33), if_pos (by simp at hc33; simp_all)]; exact eA) | (rw [if_neg (by simpa using hc33), if_neg (by simp at hc33; simp_all), if_pos (by simpa using hc56)]; exact eA) | (rw [if_neg (by simpa using hc33), if_neg (by simp at hc33; simp_all), if_neg (by simpa using hc56)]; exact eA)⟩
    · intro s0 s1 s2 s3
      refine rn ?_
      refine aw_rng4 h.evs[k].scan.length (fun j s0 s1 s2 s3 => ⟨[(67, iv j), (1, .v (.pointer (some ⟨b1, 0, none⟩))), (2, .v (.pointer (some ⟨b2, 0, none⟩))), (3, .v (.pointer (some ⟨b3, 0, none⟩))), (19, evsA h.evs), (20, iv (h.evs.map evR).length), (21, iv k), (65, seensA h.evs[k].scan), (66, iv (h.evs[k].scan.map seenR).length)], [.box b5 72 (evR h.evs[k]), .row s0.v 1 3 ((((h.evs[k].scan.take j).foldl stepS (stepK (stepF (spE h k) (0, h.evs[k].t)) h.evs[k])) 0).map intR), .row s1.v 1 3 ((((h.evs[k].scan.take j).foldl stepS (stepK (stepF (spE h k) (0, h.evs[k].t)) h.evs[k])) 1).map intR), .row s2.v 1 3 ((((h.evs[k].scan.take j).foldl stepS (stepK (stepF (spE h k) (0, h.evs[k].t)) h.evs[k])) 2).map intR), .row s3.v 1 3 ((((h.evs[k].scan.take j).foldl stepS (stepK (stepF (spE h k) (0, h.evs[k].t)) h.evs[k])) 3).map intR), .box b3 110 [.v s0.v, .v s1.v, .v s2.v, .v s3.v], .box b2 110 [.v (.slice none 0 0), .v (.slice none 0 0), .v (.slice none 0 0), .v (.slice none 0 0)], .box b1 28 (histC h)], []⟩) _ _ _ _ (es) ?_
      intro j s0 s1 s2 s3 lj
      refine rn ?_
      refine aw_cond rfl (fun hc68 => ?_) (fun hc68 => ?_)
      · have hj := ltMap hc68
        have rj := atRow (f := seenR) hj
        have bj := Bd.fold (c := 2) (l := h.evs[k].scan.take j) (fun s _ L n h => h.s s) ((bd.f (0, h.evs[k].t)).k h.evs[k])
        have bl : (h.evs[k].scan.take j).length ≤ 3000 := by rw [List.length_take]; omega
        refine rn ?_
        refine aops_e rfl (oe_alloc rfl fun b7 => ?_)
        refine rn ?_
        refine qq rfl rfl (qr_indexAddr_int rfl rfl (by decide) (by decide)) ?_
        refine rn ?_
        refine aops_e rfl (oe_call rfl rfl (fcall_row (FCall.of_fun (ref11First _ _ _ (by have := bj 2; omega)))) rfl ?_)
        rintro _ _ ⟨s', rfl, rfl⟩
        refine qq rfl rfl (qr_indexAddr_int rfl rfl (by decide) (by decide)) ?_
        refine rn ?_
        refine qq rfl rfl (qr_indexAddr_int rfl rfl (by decide) (by decide)) ?_
        refine rn ?_
        refine aops_e rfl (oe_call rfl rfl (fcall_row (FCall.of_fun (ref11Made _ _ _ (by have := bj 0; omega)))) rfl ?_)
        rintro _ _ ⟨s', rfl, rfl⟩
        refine qq rfl rfl (qr_indexAddr_int rfl rfl (by decide) (by decide)) ?_
        refine rn ?_
        have e : (h.evs[k].scan.take (j + 1)).foldl stepS (stepK (stepF (spE h k) (0, h.evs[k].t)) h.evs[k]) = stepS ((h.evs[k].scan.take j).foldl stepS (stepK (stepF (spE h k) (0, h.evs[k].t)) h.evs[k])) h.evs[k].scan[j] := foldTake _ _ hj
        exact ⟨hj, _, _, _, _, by simp only [e]; exact eA⟩
      · have qj := geMap hc68 lj
        refine rn ?_
        have e : spE h (k + 1) = (h.evs[k].scan.take j).foldl stepS (stepK (stepF (spE h k) (0, h.evs[k].t)) h.evs[k]) := by rw [spE, foldTake _ _ hk, H.stepE, foldEnd _ _ qj]; rfl
        exact ⟨hk, _, _, _, _, by simp only [e]; exact eA⟩
  · have qk := geMap hc22 lk
    refine rn ?_
    refine aw_rng4 h.ords.length (fun k s0 s1 s2 s3 => ⟨[(88, iv k), (1, .v (.pointer (some ⟨b1, 0, none⟩))), (2, .v (.pointer (some ⟨b2, 0, none⟩))), (3, .v (.pointer (some ⟨b3, 0, none⟩))), (86, ordsA h.ords), (87, iv (h.ords.map ordR).length)], [.row s0.v 1 3 (((spO h k) 0).map intR), .row s1.v 1 3 (((spO h k) 1).map intR), .row s2.v 1 3 (((spO h k) 2).map intR), .row s3.v 1 3 (((spO h k) 3).map intR), .box b3 110 [.v s0.v, .v s1.v, .v s2.v, .v s3.v], .box b2 110 [.v (.slice none 0 0), .v (.slice none 0 0), .v (.slice none 0 0), .v (.slice none 0 0)], .box b1 28 (histC h)], []⟩) _ _ _ _ (by rw [show spO h 0 = spE h k from (foldEnd stepE noR qk).symm]; exact es) ?_
    intro k s0 s1 s2 s3 lk
    refine rn ?_
    refine aw_cond rfl (fun hc89 => ?_) (fun hc89 => ?_)
    · have hk := ltMap hc89
      have rk := atRow (f := ordR) hk
      have bd := bdO la k lk
      have ls := la.ordts h.ords[k] (List.getElem_mem hk)
      have le := la.ords
      refine rn ?_
      refine aops_e rfl (oe_alloc rfl fun b9 => ?_)
      refine rn ?_
      refine qq rfl rfl (qr_indexAddr_int rfl rfl (by decide) (by decide)) ?_
      refine rn ?_
      refine aops_e rfl (oe_call rfl rfl (fcall_row (FCall.of_fun (ref11First _ _ _ (by have := bd 2; omega)))) rfl ?_)
      rintro _ _ ⟨s', rfl, rfl⟩
      refine qq rfl rfl (qr_indexAddr_int rfl rfl (by decide) (by decide)) ?_
      refine rn ?_
      refine aw_rng4 h.ords[k].ts.length (fun j s0 s1 s2 s3 => ⟨[(101, iv j), (1, .v (.pointer (some ⟨b1, 0, none⟩))), (2, .v (.pointer (some ⟨b2, 0, none⟩))), (3, .v (.pointer (some ⟨b3, 0, none⟩))), (86, ordsA h.ords), (87, iv (h.ords.map ordR).length), (88, iv k), (99, intsA h.ords[k].ts), (100, iv (h.ords[k].ts.map intR).length)], [.box b9 96 (ordR h.ords[k]), .row s0.v 1 3 ((((h.ords[k].ts.take j).foldl addT (stepF (spO h k) (2, h.ords[k].o))) 0).map intR), .row s1.v 1 3 ((((h.ords[k].ts.take j).foldl addT (stepF (spO h k) (2, h.ords[k].o))) 1).map intR), .row s2.v 1 3 ((((h.ords[k].ts.take j).foldl addT (stepF (spO h k) (2, h.ords[k].o))) 2).map intR), .row s3.v 1 3 ((((h.ords[k].ts.take j).foldl addT (stepF (spO h k) (2, h.ords[k].o))) 3).map intR), .box b3 110 [.v s0.v, .v s1.v, .v s2.v, .v s3.v], .box b2 110 [.v (.slice none 0 0), .v (.slice none 0 0), .v (.slice none 0 0), .v (.slice none 0 0)], .box b1 28 (histC h)], []⟩) _ _ _ _ (es) ?_
      intro j s0 s1 s2 s3 lj
      refine rn ?_
      refine aw_cond rfl (fun hc102 => ?_) (fun hc102 => ?_)
      · have hj := ltMap hc102
        have rj := atRow (f := intR) hj
        have bj := Bd.fold (c := 1) (l := h.ords[k].ts.take j) (fun s _ L n h => h.t s) (bd.f (2, h.ords[k].o))
        have bl : (h.ords[k].ts.take j).length ≤ 3000 := by rw [List.length_take]; omega
        refine rn ?_
        refine qq rfl rfl (qr_indexAddr_int rfl rfl (by decide) (by decide)) ?_
        refine rn ?_
        refine aops_e rfl (oe_call rfl rfl (fcall_row (FCall.of_fun (ref11First _ _ _ (by have := bj 0; omega)))) rfl ?_)
        rintro _ _ ⟨s', rfl, rfl⟩
        refine qq rfl rfl (qr_indexAddr_int rfl rfl (by decide) (by decide)) ?_
        refine rn ?_
        have e : (h.ords[k].ts.take (j + 1)).foldl addT (stepF (spO h k) (2, h.ords[k].o)) = addT ((h.ords[k].ts.take j).foldl addT (stepF (spO h k) (2, h.ords[k].o))) h.ords[k].ts[j] := foldTake _ _ hj
        exact ⟨hj, _, _, _, _, by simp only [e]; exact eA⟩
      · have qj := geMap hc102 lj
        refine rn ?_
        have e : spO h (k + 1) = (h.ords[k].ts.take j).foldl addT (stepF (spO h k) (2, h.ords[k].o)) := by rw [spO, foldTake _ _ hk, stepO, foldEnd _ _ qj]; rfl
        exact ⟨hk, _, _, _, _, by simp only [e]; exact eA⟩
    · have qk := geMap hc89 lk
      refine rn ?_
      refine aw_rng4 h.mats.length (fun k s0 s1 s2 s3 => ⟨[(115, iv k), (1, .v (.pointer (some ⟨b1, 0, none⟩))), (2, .v (.pointer (some ⟨b2, 0, none⟩))), (3, .v (.pointer (some ⟨b3, 0, none⟩))), (113, matsA h.mats), (114, iv (h.mats.map matR).length)], [.row s0.v 1 3 (((spM h k) 0).map intR), .row s1.v 1 3 (((spM h k) 1).map intR), .row s2.v 1 3 (((spM h k) 2).map intR), .row s3.v 1 3 (((spM h k) 3).map intR), .box b3 110 [.v s0.v, .v s1.v, .v s2.v, .v s3.v], .box b2 110 [.v (.slice none 0 0), .v (.slice none 0 0), .v (.slice none 0 0), .v (.slice none 0 0)], .box b1 28 (histC h)], []⟩) _ _ _ _ (by rw [show spM h 0 = spO h k from (foldEnd stepO _ qk).symm]; exact es) ?_
      intro k s0 s1 s2 s3 lk
      refine rn ?_
      refine aw_cond rfl (fun hc116 => ?_) (fun hc116 => ?_)
      · have hk := ltMap hc116
        have rk := atRow (f := matR) hk
        have bd := bdM la k lk
        have ls := la.matts h.mats[k] (List.getElem_mem hk)
        have le := la.mats
        refine rn ?_
        refine aops_e rfl (oe_alloc rfl fun b13 => ?_)
        refine rn ?_
        refine qq rfl rfl (qr_indexAddr_int rfl rfl (by decide) (by decide)) ?_
        refine rn ?_
        refine aops_e rfl (oe_call rfl rfl (fcall_row (FCall.of_fun (ref11First _ _ _ (by have := bd 3; omega)))) rfl ?_)
        rintro _ _ ⟨s', rfl, rfl⟩
        refine qq rfl rfl (qr_indexAddr_int rfl rfl (by decide) (by decide)) ?_
        refine rn ?_
        refine qq rfl rfl (qr_indexAddr_int rfl rfl (by decide) (by decide)) ?_
        refine rn ?_
        refine aops_e rfl (oe_call rfl rfl (fcall_row (FCall.of_fun (ref11First _ _ _ (by have := bd 2; omega)))) rfl ?_)
        rintro _ _ ⟨s', rfl, rfl⟩
        refine qq rfl rfl (qr_indexAddr_int rfl rfl (by decide) (by decide)) ?_
        refine rn ?_
        refine aw_rng4 h.mats[k].ts.length (fun j s0 s1 s2 s3 => ⟨[(134, iv j), (1, .v (.pointer (some ⟨b1, 0, none⟩))), (2, .v (.pointer (some ⟨b2, 0, none⟩))), (3, .v (.pointer (some ⟨b3, 0, none⟩))), (113, matsA h.mats), (114, iv (h.mats.map matR).length), (115, iv k), (132, intsA h.mats[k].ts), (133, iv (h.mats[k].ts.map intR).length)], [.box b13 87 (matR h.mats[k]), .row s0.v 1 3 ((((h.mats[k].ts.take j).foldl addT (stepF (stepF (spM h k) (3, h.mats[k].p)) (2, h.mats[k].o))) 0).map intR), .row s1.v 1 3 ((((h.mats[k].ts.take j).foldl addT (stepF (stepF (spM h k) (3, h.mats[k].p)) (2, h.mats[k].o))) 1).map intR), .row s2.v 1 3 ((((h.mats[k].ts.take j).foldl addT (stepF (stepF (spM h k) (3, h.mats[k].p)) (2, h.mats[k].o))) 2).map intR), .row s3.v 1 3 ((((h.mats[k].ts.take j).foldl addT (stepF (stepF (spM h k) (3, h.mats[k].p)) (2, h.mats[k].o))) 3).map intR), .box b3 110 [.v s0.v, .v s1.v, .v s2.v, .v s3.v], .box b2 110 [.v (.slice none 0 0), .v (.slice none 0 0), .v (.slice none 0 0), .v (.slice none 0 0)], .box b1 28 (histC h)], []⟩) _ _ _ _ (es) ?_
        intro j s0 s1 s2 s3 lj
        refine rn ?_
        refine aw_cond rfl (fun hc135 => ?_) (fun hc135 => ?_)
        · have hj := ltMap hc135
          have rj := atRow (f := intR) hj
          have bj := Bd.fold (c := 1) (l := h.mats[k].ts.take j) (fun s _ L n h => h.t s) ((bd.f (3, h.mats[k].p)).f (2, h.mats[k].o))
          have bl : (h.mats[k].ts.take j).length ≤ 3000 := by rw [List.length_take]; omega
          refine rn ?_
          refine qq rfl rfl (qr_indexAddr_int rfl rfl (by decide) (by decide)) ?_
          refine rn ?_
          refine aops_e rfl (oe_call rfl rfl (fcall_row (FCall.of_fun (ref11First _ _ _ (by have := bj 0; omega)))) rfl ?_)
          rintro _ _ ⟨s', rfl, rfl⟩
          refine qq rfl rfl (qr_indexAddr_int rfl rfl (by decide) (by decide)) ?_
          refine rn ?_
          have e : (h.mats[k].ts.take (j + 1)).foldl addT (stepF (stepF (spM h k) (3, h.mats[k].p)) (2, h.mats[k].o)) = addT ((h.mats[k].ts.take j).foldl addT (stepF (stepF (spM h k) (3, h.mats[k].p)) (2, h.mats[k].o))) h.mats[k].ts[j] := foldTake _ _ hj
          exact ⟨hj, _, _, _, _, by simp only [e]; exact eA⟩
        · have qj := geMap hc135 lj
          refine rn ?_
          have e : spM h (k + 1) = (h.mats[k].ts.take j).foldl addT (stepF (stepF (spM h k) (3, h.mats[k].p)) (2, h.mats[k].o)) := by rw [spM, foldTake _ _ hk, stepM, foldEnd _ _ qj]; rfl
          exact ⟨hk, _, _, _, _, by simp only [e]; exact eA⟩
      · have qk := geMap hc116 lk
        refine rn ?_
        refine aw_rng4 h.wants.length (fun k s0 s1 s2 s3 => ⟨[(148, iv k), (2, .v (.pointer (some ⟨b2, 0, none⟩))), (3, .v (.pointer (some ⟨b3, 0, none⟩))), (146, wansA h.wants), (147, iv (h.wants.map wanR).length)], [.row s0.v 1 3 (((spW h k) 0).map intR), .row s1.v 1 3 (((spW h k) 1).map intR), .row s2.v 1 3 (((spW h k) 2).map intR), .row s3.v 1 3 (((spW h k) 3).map intR), .box b3 110 [.v s0.v, .v s1.v, .v s2.v, .v s3.v], .box b2 110 [.v (.slice none 0 0), .v (.slice none 0 0), .v (.slice none 0 0), .v (.slice none 0 0)], .box b1 28 (histC h)], []⟩) _ _ _ _ (by rw [show spW h 0 = spM h k from (foldEnd stepM _ qk).symm]; exact es) ?_
        intro k s0 s1 s2 s3 lk
        refine rn ?_
        refine aw_cond rfl (fun hc149 => ?_) (fun hc149 => ?_)
        · have hk := ltMap hc149
          have rk := atRow (f := wanR) hk
          have bd := bdW la k lk
          have le := la.wants
          refine rn ?_
          refine aops_e rfl (oe_alloc rfl fun b17 => ?_)
          refine rn ?_
          refine qq rfl rfl (qr_indexAddr_int rfl rfl (by decide) (by decide)) ?_
          refine rn ?_
          refine aops_e rfl (oe_call rfl rfl (fcall_row (FCall.of_fun (ref11First _ _ _ (by have := bd 1; omega)))) rfl ?_)
          rintro _ _ ⟨s', rfl, rfl⟩
          refine qq rfl rfl (qr_indexAddr_int rfl rfl (by decide) (by decide)) ?_
          refine rn ?_
          have e : spW h (k + 1) = stepW (spW h k) h.wants[k] := foldTake _ _ hk
          exact ⟨hk, _, _, _, _, by simp only [e]; exact eA⟩
        · have qk := geMap hc149 lk
          refine rn ?_
          exact retq (.cons _ _ _ _ (.agg _ _ _ _ _ _ _ rfl inferInstance inferInstance inferInstance rfl) .nil) (.trans (vent_freeze_cell [] _) (.trans (vent_freeze_cell [_] _) (.trans (vent_freeze_cell [_, _] _) (.trans (vent_freeze_cell [_, _, _] _) (.drop [_, _, _] _ _))))) ⟨rfl, by rw [← show spW h k = spokenF h from foldEnd _ _ qk]; rfl⟩
end Go.Proofs
/- The walk of the reference's Right. Conditions: none. -/
set_option linter.unusedVariables false
set_option linter.unusedSimpArgs false
set_option maxRecDepth 10000
namespace Go.Proofs
open Go Go.Ab
attribute [local irreducible] QR QV OE aops aw dsoup dsoupM dalloc dallocM thn inBlk
open Go.H
theorem refRight (h : Hist) (la : Lim 4611686018427387904 h) : ACall Tryz.prog 18 [.agg (histC h)] [] (fun r h' => h' = [] ∧ r = bv (rightB h)) := by
  refine acall_of_aw Tryz.func18 rfl rfl rfl ?_
  refine rn ?_
  refine aops_e rfl (oe_box rfl rfl rfl fun b1 => ?_)
  refine rn ?_
  refine qv rfl rfl (qv_call rfl rfl (pcall (refShaped h la) (Sbs.refl _))) ?_
  refine rn ?_
  refine aw_cond rfl (fun hc10 => ?_) (fun hc10 => ?_)
  · refine rn ?_
    refine rq 1 ?_
    exact ⟨rfl, congrArg bv (by rw [right_s (by simpa using hc10)])⟩
  · have hs : shapedB h = true := by simpa using hc10
    have la3 := shaped_lim hs
    refine rn ?_
    refine qv rfl rfl (qv_call rfl rfl (pcall (refSpoken h la3) (Sbs.refl _))) ?_
    refine rn ?_
    refine aw_rng (4) (fun k : Nat => ∀ j, j < k → okS h j = true) (fun k => [(13, iv k)]) [(1, _), (12, _)] (fun j hj => by omega) ?_
    intro k lk zk
    refine rn ?_
    refine aw_cond rfl (fun hc14 => ?_) (fun hc14 => ?_)
    · have hk : k < 4 := by simp at hc14; omega
      have r0 := sp_at h hk
      have r1 := many_at h hk
      have bl := spoken_len la3 k
      refine rn ?_
      refine aw_cond rfl (fun hc35 => ?_) (fun hc35 => ?_)
      · refine rn ?_
        refine rq 1 ?_
        exact ⟨rfl, congrArg bv (by rw [right_f hk]; rw [okS, beq_eq_false_iff_ne.2 (by simp at hc35; omega), Bool.false_and])⟩
      · have hlen : (spokenF h k).length = (nmK h k).length := by simp at hc35; omega
        refine rn ?_
        refine aw_rng ((spokenF h k).length) (fun i : Nat => uptoF 0 (spokenF h k) = uptoF i ((spokenF h k).drop i)) (fun i => [(38, iv i)]) [(1, _), (12, _), (13, _), (36, _), (37, _)] rfl ?_
        intro i li zi
        refine rn ?_
        refine aw_cond rfl (fun hc39 => ?_) (fun hc39 => ?_)
        · have hi := ltMap hc39
          have ri := atRow (f := intR) hi
          refine rn ?_
          refine aw_cond rfl (fun hc45 => ?_) (fun hc45 => ?_)
          · refine rn ?_
            refine rq 1 ?_
            exact ⟨rfl, congrArg bv (by rw [right_f hk]; rw [okS, upto_f hi zi (by simp at hc45; omega), Bool.and_false])⟩
          · refine rn ?_
            exact ⟨hi, upto_step hi zi (by simp at hc45; omega), eA⟩
        · have qi := geMap hc39 li
          refine rn ?_
          exact ⟨hk, fun j hj => (Nat.lt_or_ge j k).elim (zk j) (fun q => by
            obtain rfl : j = k := by omega
            rw [okS, hlen, upto_e qi zi]; simp), eA⟩
    · have qk : k = 4 := by simp at hc14; omega
      subst qk
      refine rn ?_
      refine rq 1 ?_
      exact ⟨rfl, congrArg bv (by rw [right_t hs zk])⟩
theorem refRightM (h : Hist) (la : Lim 4611686018427387904 h) : ACall Tryz.prog 18 [.agg (histC h)] [] (fun r h' => h' = [] ∧ r = bv (mayB h)) :=
  (refRight h la).mono fun _ _ q => ⟨q.1, by rw [q.2, rightB_eq]⟩
end Go.Proofs
/- The walks of the reference's Check, Final, Sees, Sights. Conditions: none. -/
set_option linter.unusedVariables false
set_option linter.unusedSimpArgs false
set_option maxRecDepth 10000
namespace Go.Proofs
open Go Go.Ab
attribute [local irreducible] QR QV OE aops aw dsoup dsoupM dalloc dallocM thn inBlk jsoup jch lsoup
open Go.H
theorem lw_hit {l : List Ev} {t x : Int} {j : Nat} (h : j < l.length) (hw : wroteQ t x l[j] = true) : lastW l t x (j + 1) = some (l[j].v, j) := by
  rw [lastW, List.getElem?_eq_getElem h]; simp only [hw, if_true]
theorem lw_miss {l : List Ev} {t x : Int} {j : Nat} (h : j < l.length) (hw : wroteQ t x l[j] = false) : lastW l t x (j + 1) = lastW l t x j := by
  rw [lastW, List.getElem?_eq_getElem h]; simp [hw]
theorem row_pred {l : List Ev} {j : Nat} (h : j < l.length) : (l.map evR)[(((j + 1 : Nat) : Int) - 1).toNat]? = some (evR l[j]) := by
  rw [show (((j + 1 : Nat) : Int) - 1).toNat = j by omega, List.getElem?_map, List.getElem?_eq_getElem h]; rfl
theorem isI_eq (a b : Int) : (decide (a ≥ 0) && decide (a < b)) = decide (0 ≤ a ∧ a < b) := by
  rw [Bool.eq_iff_iff]; simp only [Bool.and_eq_true, decide_eq_true_eq, ge_iff_le]
theorem so_find {l : List Ev} {t x : Int} {scan : List Seen} {a k : Nat} (hk : k < scan.length) (hx : (scan[k].o == x) = true) (hq : (scan.take k).all (fun s : Seen => !(s.o == x)) = true) : (sightO l t scan a x).v = scan[k].v := by
  have : scan.find? (fun s => s.o == x) = some scan[k] := by
    rw [List.find?_eq_some_iff_getElem]
    exact ⟨hx, k, hk, rfl, fun j hj => by have := List.all_eq_true.1 hq scan[j] (mem_take_lt (by omega) hj); exact this⟩
  rw [sightO, this]
theorem so_none {l : List Ev} {t x : Int} {scan : List Seen} {a : Nat} (hz : (scan.all fun s : Seen => !(s.o == x)) = true) : (sightO l t scan a x).v = verO (lastW l t x a) := by
  have : scan.find? (fun s => s.o == x) = none := by
    rw [List.find?_eq_none]; intro s hs q
    have := List.all_eq_true.1 hz s hs
    rw [q] at this; cases this
  rw [sightO, this]
theorem sees_fin {l : List Ev} {a : Nat} {t x : Int} (ha : a < l.length) : lastW l t x a = finW (l.take a) t x := by
  rw [finW, lastW_take (by rw [List.length_take]; omega), List.length_take, Nat.min_eq_left (by omega)]
theorem so_self {l : List Ev} {t x : Int} {scan : List Seen} {a : Nat} : sightO l t scan a x = ⟨x, (sightO l t scan a x).v⟩ := by
  have := sightO_o l t scan a x
  generalize sightO l t scan a x = s at this ⊢
  cases s; simp only at this; rw [this]
theorem all_snoc {α : Type} {l : List α} {q : α → Bool} {k : Nat} (hk : k < l.length) : (l.take (k + 1)).all q = ((l.take k).all q && q l[k]) := by
  rw [List.take_succ_eq_append_getElem hk, List.all_append, List.all_cons, List.all_nil, Bool.and_true]
theorem isI (a b : Int) : ACall Tryz.prog 29 [iv a, iv b] [] (fun r h' => h' = [] ∧ r = bv (decide (0 ≤ a ∧ a < b))) := by
  refine acall_of_aw Tryz.func29 rfl rfl rfl ?_
  refine rn ?_
  refine asplit (fun hg1_2 => ?_) (fun hg1_2 => ?_)
  · refine rn ?_
    refine rq 0 ?_
    exact ⟨rfl, by rw [← isI_eq, hg1_2]; rfl⟩
  · refine rn ?_
    refine rq 0 ?_
    exact ⟨rfl, by rw [← isI_eq, hg1_2]; rfl⟩
theorem refSound (h : Hist) (la : Lim 4611686018427387904 h) : ACall Tryz.prog 84 [.agg (histC h)] [] (fun r h' => h' = [] ∧ r = bv (soundB h)) := by
  refine acall_of_aw Tryz.func84 rfl rfl rfl ?_
  refine rn ?_
  refine aops_e rfl (oe_box rfl rfl rfl fun b1 => ?_)
  refine rn ?_
  refine qv rfl rfl (qv_call rfl rfl (pcall (refRightM h la) (Sbs.refl _))) ?_
  refine rn ?_
  refine aw_cond rfl (fun hc7 => ?_) (fun hc7 => ?_)
  · have hm : mayB h = false := by simpa using hc7
    refine rn ?_
    refine rq 1 ?_
    exact ⟨rfl, congrArg bv (by rw [soundB, hm]; rfl)⟩
  · have hm : mayB h = true := by simpa using hc7
    refine rn ?_
    refine qv rfl rfl (qv_call rfl rfl (pcall (refFirst15 h ((may3000 hm).mono (by decide))) (Sbs.refl _))) ?_
    obtain ⟨bi, bj, be⟩ := brk_two (firstIn (placeR h) rules10)
    rw [be]
    refine rn ?_
    refine aops_e rfl (oe_alloc rfl fun b3 => ?_)
    refine rn ?_
    refine rq 2 ?_
    exact ⟨rfl, congrArg bv (by rw [soundB, hm, show firstH h = firstIn (placeR h) rules10 from first_eq hm]; cases firstIn (placeR h) rules10 <;> rfl)⟩
theorem refCheck16 (h : Hist) (la : Lim 4611686018427387904 h) : ACall Tryz.prog 28 [.agg (histC h)] [] (fun r h' => h' = [] ∧ r = iv (checkI h)) := by
  refine acall_of_aw Tryz.func28 rfl rfl rfl ?_
  refine rn ?_
  refine aops_e rfl (oe_box rfl rfl rfl fun b1 => ?_)
  refine rn ?_
  refine qv rfl rfl (qv_call rfl rfl (pcall (refRightM h la) (Sbs.refl _))) ?_
  refine rn ?_
  refine aw_cond rfl (fun hc5 => ?_) (fun hc5 => ?_)
  · have hm : mayB h = false := by simpa using hc5
    refine rn ?_
    refine rq 1 ?_
    exact ⟨rfl, by rw [checkI, hm]; rfl⟩
  · have hm : mayB h = true := by simpa using hc5
    refine rn ?_
    refine qv rfl rfl (qv_call rfl rfl (pcall (refSound h la) (Sbs.refl _))) ?_
    refine rn ?_
    refine aw_cond rfl (fun hc8 => ?_) (fun hc8 => ?_)
    · refine rn ?_
      refine rq 1 ?_
      exact ⟨rfl, by rw [checkI, hm, if_pos rfl, if_neg (by simpa using hc8)]; rfl⟩
    · refine rn ?_
      refine rq 1 ?_
      exact ⟨rfl, by rw [checkI, hm, if_pos rfl, if_pos (by simpa using hc8)]; rfl⟩
theorem refFinal16 (h : Hist) (la : h.evs.length ≤ 1000000) (t x : Int) : ACall Tryz.prog 30 [.agg (histC h), iv t, iv x] [] (fun r h' => h' = [] ∧ r = .tup [.agg (verR (verO (finW h.evs t x))), iv (atO (finW h.evs t x)), bv (finW h.evs t x).isSome]) := by
  refine acall_of_aw Tryz.func30 rfl rfl rfl ?_
  refine rn ?_
  refine aops_e rfl (oe_box rfl rfl rfl fun b3 => ?_)
  refine aops_e rfl (oe_alloc rfl fun b6 => ?_)
  refine q1 ?_
  refine q1 ?_
  refine aops_nil (thn_n ?_)
  refine aw_seq ?_
  refine aw_seq (aw_region ?_)
  refine q1 ?_
  refine q1 ?_
  refine q1 ?_
  refine qq rfl rfl (qr_ari rfl rfl rfl (by rw [List.length_map]; omega)) ?_
  refine rn ?_
  refine aw_while (fun k : Nat => k ≤ h.evs.length ∧ lastW h.evs t x h.evs.length = lastW h.evs t x k) (fun k => ⟨[(9, iv ((k : Int) - 1)), (1, iv t), (2, iv x), (3, .v (.pointer (some ⟨b3, 0, none⟩))), (6, .v (.pointer (some ⟨b6, 0, none⟩))), (7, iv 0), (8, bv false)], .box b6 55 [iv 0, iv 0] :: .box b3 28 (histC h) :: [], []⟩) (fun k => k) h.evs.length ⟨Nat.le_refl _, rfl⟩ (by rw [List.length_map]; exact es) ?_
  rintro k ⟨lk, zk⟩
  refine rn ?_
  refine aw_cond rfl (fun hc16 => ?_) (fun hc16 => ?_)
  · obtain ⟨j, rfl⟩ : ∃ j, k = j + 1 := ⟨k - 1, by have := of_decide_eq_true hc16; omega⟩
    have hj : j < h.evs.length := by omega
    refine aw_skip ?_
    refine thn_n ?_
    refine aw_seq ?_
    refine aw_block ?_
    refine aw_seq (aw_region ?_)
    refine q1 ?_
    refine q1 ?_
    refine q1 ?_
    refine qq rfl rfl (qr_index_int rfl rfl (by omega) (row_pred hj)) ?_
    refine rn ?_
    refine aops_e rfl (oe_alloc rfl fun b10 => ?_)
    refine rn ?_
    refine asplit (fun hg5_3 => ?_) (fun hg5_3 => ?_)
    · refine rn ?_
      refine asplit (fun hg5_9 => ?_) (fun hg5_9 => ?_)
      · refine rn ?_
        refine aw_cond rfl (fun hc38 => ?_) (fun hc38 => ?_)
        · have hw : wroteQ t x h.evs[j] = true := by rw [wroteQ]; first | (rw [hg5_3, hg5_9, hc38]; rfl) | (rw [hg5_3, hg5_9]; rfl) | (rw [hg5_3]; rfl)
          refine rn ?_
          exact retq (.cons _ _ _ _ (.agg _ _ _ _ _ _ _ rfl inferInstance inferInstance inferInstance rfl) (.cons _ _ _ _ (.tmp _ _ rfl) (.cons _ _ _ _ (.tmp _ _ rfl) .nil))) (.drop [_, _, _] _ _) ⟨rfl, by rw [finW, zk, lw_hit hj hw]; simp only [verO, atO]; rw [show (((j + 1 : Nat) : Int) - 1) = (j : Int) by omega]; rfl⟩
        · have hw : wroteQ t x h.evs[j] = false := by rw [wroteQ]; first | (rw [hg5_3, hg5_9, hc38]; rfl) | (rw [hg5_3, hg5_9]; rfl) | (rw [hg5_3]; rfl)
          refine aw_skip ?_
          refine inBlk_n ?_
          refine thn_n ?_
          refine aw_region ?_
          refine q1 ?_
          refine qq rfl rfl (qr_ari rfl rfl rfl (by omega)) ?_
          refine rn ?_
          exact ⟨j, ⟨by omega, by rw [zk, lw_miss hj hw]⟩, by rw [show (((j + 1 : Nat) : Int) - 1 - 1) = (j : Int) - 1 by omega]; exact eA, by omega⟩
      · refine rn ?_
        refine aw_cf rfl ?_
        have hw : wroteQ t x h.evs[j] = false := by rw [wroteQ]; first | (rw [hg5_3, hg5_9, hc38]; rfl) | (rw [hg5_3, hg5_9]; rfl) | (rw [hg5_3]; rfl)
        refine aw_skip ?_
        refine inBlk_n ?_
        refine thn_n ?_
        refine aw_region ?_
        refine q1 ?_
        refine qq rfl rfl (qr_ari rfl rfl rfl (by omega)) ?_
        refine rn ?_
        exact ⟨j, ⟨by omega, by rw [zk, lw_miss hj hw]⟩, by rw [show (((j + 1 : Nat) : Int) - 1 - 1) = (j : Int) - 1 by omega]; exact eA, by omega⟩
    · refine rn ?_
      refine aw_cf rfl ?_
      have hw : wroteQ t x h.evs[j] = false := by rw [wroteQ]; first | (rw [hg5_3, hg5_9, hc38]; rfl) | (rw [hg5_3, hg5_9]; rfl) | (rw [hg5_3]; rfl)
      refine aw_skip ?_
      refine inBlk_n ?_
      refine thn_n ?_
      refine aw_region ?_
      refine q1 ?_
      refine qq rfl rfl (qr_ari rfl rfl rfl (by omega)) ?_
      refine rn ?_
      exact ⟨j, ⟨by omega, by rw [zk, lw_miss hj hw]⟩, by rw [show (((j + 1 : Nat) : Int) - 1 - 1) = (j : Int) - 1 by omega]; exact eA, by omega⟩
  · have qk : k = 0 := by have := of_decide_eq_false hc16; omega
    subst qk
    refine aw_exit ?_
    refine thn_e ?_
    refine thn_e ?_
    refine inBlk_hit ?_
    refine thn_n ?_
    refine aw_seq (aw_region ?_)
    refine qq rfl rfl (qr_build (out := [iv 0, iv 0]) rfl (by rfl)) ?_
    refine rn ?_
    exact retq (.cons _ _ _ _ (.agg _ _ _ _ _ _ _ rfl inferInstance inferInstance inferInstance rfl) (.cons _ _ _ _ (.tmp _ _ rfl) (.cons _ _ _ _ (.tmp _ _ rfl) .nil))) (.drop [_, _] _ _) ⟨rfl, by rw [finW, zk]; rfl⟩
theorem refSees (h : Hist) (la : Lim 1000000 h) (a : Nat) (ha : a < h.evs.length) (x : Int) : ACall Tryz.prog 104 [.agg (histC h), iv a, iv x] [] (fun r h' => h' = [] ∧ r = .agg (verR (sightO h.evs h.evs[a].t h.evs[a].scan a x).v)) := by
  refine acall_of_aw Tryz.func104 rfl rfl rfl ?_
  have ra := atRow (f := evR) ha
  have be := la.evs
  refine rn ?_
  refine aops_e rfl (oe_box rfl rfl rfl fun b3 => ?_)
  refine aops_e rfl (oe_alloc rfl fun b6 => ?_)
  refine rn ?_
  refine aops_e rfl (oe_alloc rfl fun b7 => ?_)
  refine rn ?_
  refine aw_rng (h.evs[a].scan.length) (fun k : Nat => ((h.evs[a].scan.take k).all fun s : Seen => !(s.o == x)) = true) (fun k => [(21, iv k)]) [(1, _), (2, _), (3, _), (6, _), (7, _), (19, _), (20, _)] rfl ?_
  intro k lk zk
  refine rn ?_
  refine aw_cond rfl (fun hc22 => ?_) (fun hc22 => ?_)
  · have hk := ltMap hc22
    have rk := atRow (f := seenR) hk
    have lS := la.scans h.evs[a] (List.getElem_mem ha)
    refine rn ?_
    refine aops_e rfl (oe_alloc rfl fun b9 => ?_)
    refine rn ?_
    refine aw_cond rfl (fun hc28 => ?_) (fun hc28 => ?_)
    · refine rn ?_
      exact retq (.cons _ _ _ _ (.agg _ _ _ _ _ _ _ rfl inferInstance inferInstance inferInstance rfl) .nil) (.drop [_, _, _, _] _ _) ⟨rfl, by rw [so_find hk hc28 zk]; rfl⟩
    · refine rn ?_
      exact ⟨hk, by rw [all_snoc hk, zk, hc28]; rfl, eA⟩
  · have qk := geMap hc22 lk
    have ak := zk
    rw [qk, List.take_length] at ak
    refine aw_exit ?_
    refine rn0 ?_
    refine aw_seq ?_
    refine aw_drawX 16 [13, 14] [15] (fun he => he = .box b7 72 (evR h.evs[a]) :: .box b6 55 [iv 0, iv 0] :: .box b3 28 (histC h) :: [] ∨ ∃ b c, he = .box b 55 c :: .box b7 72 (evR h.evs[a]) :: .box b6 55 [iv 0, iv 0] :: .box b3 28 (histC h) :: []) rfl rfl (.inl rfl) ?_
    refine jq rfl (fun he hC => by rcases hC with rfl | ⟨b, c, rfl⟩ <;> exact qrA) ?_
    refine jq rfl (fun he hC => by rcases hC with rfl | ⟨b, c, rfl⟩ <;> exact qrA) ?_
    refine jq rfl (fun he hC => by rcases hC with rfl | ⟨b, c, rfl⟩ <;> exact qrA) ?_
    refine jq rfl (fun he hC => by rcases hC with rfl | ⟨b, c, rfl⟩ <;> exact (by exact qr_slice_hE (k := a) (rows' := (h.evs.take a).map evR) rfl rfl (by rw [List.length_map]; omega) List.map_take.symm)) ?_
    refine jq rfl (fun he hC => by rcases hC with rfl | ⟨b, c, rfl⟩ <;> exact qrA) ?_
    refine jq rfl (fun he hC => by rcases hC with rfl | ⟨b, c, rfl⟩ <;> exact qrA) ?_
    refine jq rfl (fun he hC => by rcases hC with rfl | ⟨b, c, rfl⟩ <;> exact qrA) ?_
    refine jq rfl (fun he hC => by rcases hC with rfl | ⟨b, c, rfl⟩ <;> exact qrA) ?_
    refine jv rfl (fun he hC => by rcases hC with rfl | ⟨b, c, rfl⟩ <;> exact (by exact qv_call rfl rfl (pcall (refFinal16 (⟨[], [], [], [], h.evs.take a, [], [], []⟩ : Hist) (by simp only [List.length_take]; omega) h.evs[a].t x) (by exact ⟨.aggs ⟨.nil _ _, .nil _ _, .nil _ _, .nil _ _, .refl _, .nil _ _, .nil _ _, .nil _ _, trivial⟩, .refl _, .refl _, trivial⟩)))) ?_
    refine jq rfl (fun he hC => by rcases hC with rfl | ⟨b, c, rfl⟩ <;> exact qrA) ?_
    refine jq rfl (fun he hC => by rcases hC with rfl | ⟨b, c, rfl⟩ <;> exact qrA) ?_
    refine jq rfl (fun he hC => by rcases hC with rfl | ⟨b, c, rfl⟩ <;> exact qrA) ?_
    refine jq rfl (fun he hC => by rcases hC with rfl | ⟨b, c, rfl⟩ <;> exact qrA) ?_
    refine je rfl ?_
    refine je rfl ?_
    refine je rfl ?_
    refine jnil ?_
    refine jce rfl fun u => ?_
    refine oe_alloc rfl fun b10 => ⟨_, _, rfl, .inr ⟨_, _, rfl⟩, ?_⟩
    refine jce rfl fun u => ?_
    refine oe_store_all rfl rfl rfl ⟨.any, _, rfl, .inr ⟨_, _, rfl⟩, ?_⟩
    refine jcn ?_
    refine lq rfl rfl (by exact qrA) ?_
    refine ln ?_
    refine rn ?_
    exact retq (.cons _ _ _ _ (.agg _ _ _ _ _ _ _ rfl inferInstance inferInstance inferInstance rfl) .nil) (.drop [_, _, _, _] _ _) ⟨rfl, by rw [so_none ak, sees_fin ha]; rfl⟩
theorem refSights (h : Hist) (la : Lim 1000000 h) (a : Nat) (ha : a < h.evs.length) : ACall Tryz.prog 46 [.agg (histC h), iv a] [] (fun r h' => h' = [] ∧ r = seensA ((upR h.os.length).map (sightO h.evs h.evs[a].t h.evs[a].scan a))) := by
  refine acall_of_aw Tryz.func46 rfl rfl rfl ?_
  refine rn ?_
  refine aops_e rfl (oe_box rfl rfl rfl fun b2 => ?_)
  refine rn ?_
  refine aw_rng1 h.os.length (fun k s => ⟨[(10, iv k), (5, .v s.v), (1, iv a), (2, .v (.pointer (some ⟨b2, 0, none⟩))), (9, iv (h.os.map strR).length)], .row s.v 3 76 (((upR k).map (sightO h.evs h.evs[a].t h.evs[a].scan a)).map seenR) :: .box b2 28 (histC h) :: [], []⟩) ⟨none, 0, 0⟩ (ent_trans (ent_nilrow 3 76) es) ?_
  intro k s lk
  refine rn ?_
  refine aw_cond rfl (fun hc11 => ?_) (fun hc11 => ?_)
  · have hk : k < h.os.length := by have q := of_decide_eq_true hc11; rw [List.length_map] at q; omega
    have bo := la.os
    refine rn ?_
    refine qv rfl rfl (qv_call rfl rfl (pcall (refSees h la a ha k) (Sbs.refl _))) ?_
    refine qq rfl rfl (qr_build (out := [iv k, iv (sightO h.evs h.evs[a].t h.evs[a].scan a k).v.t, iv (sightO h.evs h.evs[a].t h.evs[a].scan a k).v.k]) rfl (by rfl)) ?_
    refine qv rfl rfl (qv_buildSlice rfl rfl) ?_
    refine aops_e rfl (oe_append_row rfl rfl (by simp only [List.length_map, upR, List.length_range, List.length_cons, List.length_nil]; have := la.os; omega) rfl (fun s21 => ?_) (by exact one_seen [(⟨(k : Int), (sightO h.evs h.evs[a].t h.evs[a].scan a k).v⟩ : Seen)]))
    refine aops_slice s21 fun sv hsv => ?_
    subst hsv
    refine rn ?_
    exact ⟨hk, sv, by rw [upR_s, List.map_append, List.map_append, List.map_singleton, List.map_singleton, so_self (l := h.evs) (t := h.evs[a].t) (scan := h.evs[a].scan) (a := a) (x := (k : Int))]; exact eA⟩
  · have qk : k = h.os.length := by have q := of_decide_eq_false hc11; rw [List.length_map] at q; omega
    subst qk
    refine rn ?_
    exact retq (.cons _ _ _ _ (.tmp _ _ rfl) .nil) (.trans vent_freeze (.drop [_] _ _)) ⟨rfl, rfl⟩
end Go.Proofs
/- The walk of the reference's Same. Conditions: none. -/
set_option linter.unusedVariables false
set_option linter.unusedSimpArgs false
set_option maxRecDepth 10000
namespace Go.Proofs
open Go Go.Ab
attribute [local irreducible] QR QV OE aops aw dsoup dsoupM dalloc dallocM thn inBlk
open Go.H
theorem refNamesD {f g : Bool} (l m : List ByteArray) (hl : l.length ≤ 4611686018427387904) (hm : m.length ≤ 4611686018427387904) : ACall Tryz.prog 73 [.list f 1 (l.map strR), .list g 1 (m.map strR)] [] (fun r h' => h' = [] ∧ r = bv (decide (l = m))) :=
  (refNames l m hl hm).mono (fun r h' q => ⟨q.1, by rw [q.2, eqF_eq strEq_eq]⟩)
theorem refNumbersD {f g : Bool} (l m : List Int) (hl : l.length ≤ 4611686018427387904) (hm : m.length ≤ 4611686018427387904) : ACall Tryz.prog 75 [.list f 1 (l.map intR), .list g 1 (m.map intR)] [] (fun r h' => h' = [] ∧ r = bv (decide (l = m))) :=
  (refNumbers l m hl hm).mono (fun r h' q => ⟨q.1, by rw [q.2, eqF_eq intEq_eq]⟩)
theorem refEventD (a b : Ev) (ha : a.scan.length ≤ 4611686018427387904) (hb : b.scan.length ≤ 4611686018427387904) : ACall Tryz.prog 74 [.agg (evR a), .agg (evR b)] [] (fun r h' => h' = [] ∧ r = bv (decide (a = b))) :=
  (refEvent a b ha hb).mono (fun r h' q => ⟨q.1, by rw [q.2, evEq_eq]⟩)
theorem sameB_f {a b : Hist} (h : a ≠ b) : sameB a b = false := by
  cases q : sameB a b with
  | false => rfl
  | true => exact absurd ((sameB_iff a b).1 q) h
theorem sameB_t {a b : Hist} (h : a = b) : sameB a b = true := (sameB_iff a b).2 h
set_option maxHeartbeats 4000000 in
theorem refSame (a b : Hist) (la : Lim 4611686018427387904 a) (lb : Lim 4611686018427387904 b) : ACall Tryz.prog 20 [.agg (histC a), .agg (histC b)] [] (fun r h' => h' = [] ∧ r = bv (sameB a b)) := by
  refine acall_of_aw Tryz.func20 rfl rfl rfl ?_
  refine rn ?_
  refine aops_e rfl (oe_box rfl rfl rfl fun b2 => ?_)
  refine aops_e rfl (oe_box rfl rfl rfl fun b3 => ?_)
  refine rn ?_
  refine qv rfl rfl (qv_call rfl rfl (pcall (refNamesD a.ts b.ts la.ts lb.ts) (Sbs.refl _))) ?_
  refine rn ?_
  refine asplit (fun hg1_6 => ?_) (fun hg1_6 => ?_)
  · refine rn ?_
    refine aw_ct rfl ?_
    refine rn ?_
    exact retq (.cons _ _ _ _ (.tmp _ _ rfl) .nil) (.drop [_, _] _ _) ⟨rfl, congrArg bv (Eq.symm (sameB_f fun q => by subst q; simp_all))⟩
  · refine rn ?_
    refine qv rfl rfl (qv_call rfl rfl (pcall (refNamesD a.ss b.ss la.ss lb.ss) (Sbs.refl _))) ?_
    refine rn ?_
    refine asplit (fun hg1_14 => ?_) (fun hg1_14 => ?_)
    · refine rn ?_
      refine aw_ct rfl ?_
      refine rn ?_
      exact retq (.cons _ _ _ _ (.tmp _ _ rfl) .nil) (.drop [_, _] _ _) ⟨rfl, congrArg bv (Eq.symm (sameB_f fun q => by subst q; simp_all))⟩
    · refine rn ?_
      refine qv rfl rfl (qv_call rfl rfl (pcall (refNamesD a.os b.os la.os lb.os) (Sbs.refl _))) ?_
      refine rn ?_
      refine asplit (fun hg1_22 => ?_) (fun hg1_22 => ?_)
      · refine rn ?_
        refine aw_ct rfl ?_
        refine rn ?_
        exact retq (.cons _ _ _ _ (.tmp _ _ rfl) .nil) (.drop [_, _] _ _) ⟨rfl, congrArg bv (Eq.symm (sameB_f fun q => by subst q; simp_all))⟩
      · refine rn ?_
        refine qv rfl rfl (qv_call rfl rfl (pcall (refNamesD a.ps b.ps la.ps lb.ps) (Sbs.refl _))) ?_
        refine rn ?_
        refine asplit (fun hg1_30 => ?_) (fun hg1_30 => ?_)
        · refine rn ?_
          refine aw_ct rfl ?_
          refine rn ?_
          exact retq (.cons _ _ _ _ (.tmp _ _ rfl) .nil) (.drop [_, _] _ _) ⟨rfl, congrArg bv (Eq.symm (sameB_f fun q => by subst q; simp_all))⟩
        · refine rn ?_
          refine asplit (fun hg1_39 => ?_) (fun hg1_39 => ?_)
          · refine rn ?_
            refine aw_ct rfl ?_
            refine rn ?_
            exact retq (.cons _ _ _ _ (.tmp _ _ rfl) .nil) (.drop [_, _] _ _) ⟨rfl, congrArg bv (Eq.symm (sameB_f fun q => by subst q; simp_all))⟩
          · refine rn ?_
            refine asplit (fun hg1_48 => ?_) (fun hg1_48 => ?_)
            · refine rn ?_
              refine aw_ct rfl ?_
              refine rn ?_
              exact retq (.cons _ _ _ _ (.tmp _ _ rfl) .nil) (.drop [_, _] _ _) ⟨rfl, congrArg bv (Eq.symm (sameB_f fun q => by subst q; simp_all))⟩
            · refine rn ?_
              refine asplit (fun hg1_57 => ?_) (fun hg1_57 => ?_)
              · refine rn ?_
                refine aw_ct rfl ?_
                refine rn ?_
                exact retq (.cons _ _ _ _ (.tmp _ _ rfl) .nil) (.drop [_, _] _ _) ⟨rfl, congrArg bv (Eq.symm (sameB_f fun q => by subst q; simp_all))⟩
              · refine rn ?_
                refine aw_cond rfl (fun hc78 => ?_) (fun hc78 => ?_)
                · refine rn ?_
                  exact retq (.cons _ _ _ _ (.tmp _ _ rfl) .nil) (.drop [_, _] _ _) ⟨rfl, congrArg bv (Eq.symm (sameB_f fun q => by subst q; simp_all))⟩
                · have Ets : a.ts = b.ts := by simp_all
                  have Ess : a.ss = b.ss := by simp_all
                  have Eos : a.os = b.os := by simp_all
                  have Eps : a.ps = b.ps := by simp_all
                  have Levs : a.evs.length = b.evs.length := by simp at *; omega
                  have Lords : a.ords.length = b.ords.length := by simp at *; omega
                  have Lmats : a.mats.length = b.mats.length := by simp at *; omega
                  have Lwants : a.wants.length = b.wants.length := by simp at *; omega
                  refine rn ?_
                  refine aw_loop' (fun k : Nat => k ≤ a.evs.length ∧ a.evs.take k = b.evs.take k) (fun k => ⟨[(82, iv k), (81, iv (a.evs.map evR).length), (2, .v (.pointer (some ⟨b2, 0, none⟩))), (3, .v (.pointer (some ⟨b3, 0, none⟩)))], [.box b3 28 (histC b), .box b2 28 (histC a)], []⟩) (fun k => a.evs.length - k) 0 ⟨Nat.zero_le _, by simp⟩
                    (ent_sub (.cons _ _ _ rfl (.cons _ _ _ rfl (.cons _ _ _ rfl (.cons _ _ _ rfl (.nil)))))) ?_
                  rintro k ⟨hk, ht⟩
                  refine rn ?_
                  refine aw_cond rfl (fun hc83 => ?_) (fun hc83 => ?_)
                  · have hbig := la.evs
                    have hk2 : k < a.evs.length := by simpa using hc83
                    have hk3 : k < b.evs.length := by omega
                    obtain ⟨x, hx0⟩ : ∃ x, x = a.evs[k] := ⟨_, rfl⟩
                    obtain ⟨y, hy0⟩ : ∃ y, y = b.evs[k] := ⟨_, rfl⟩
                    have hrow1 : (a.evs.map evR)[k]? = some (evR x) := by rw [hx0]; simp [hk2]
                    have hrow2 : (b.evs.map evR)[k]? = some (evR y) := by rw [hy0]; simp [hk3]
                    refine rn ?_
                    refine aw_draw 10 rfl ?_
                    refine rn ?_
                    refine qv rfl rfl (qv_call rfl rfl (pcall (refEventD x y (la.scans _ (by rw [hx0]; exact List.getElem_mem _)) (lb.scans _ (by rw [hy0]; exact List.getElem_mem _))) (Sbs.refl _))) ?_
                    refine rn ?_
                    refine aw_cond rfl (fun hc96 => ?_) (fun hc96 => ?_)
                    · have hne : x ≠ y := by clear hx0 hy0 hrow1 hrow2 ht; intro q; subst q; simp_all
                      refine rn ?_
                      exact retq (.cons _ _ _ _ (.tmp _ _ rfl) .nil) (.drop [_, _] _ _) ⟨rfl, congrArg bv (Eq.symm (sameB_f fun q => by subst q; exact hne (hx0.trans hy0.symm)))⟩
                    · have hxy : x = y := by simpa using hc96
                      refine rn ?_
                      exact ⟨k + 1, ⟨by omega, by rw [List.take_succ_eq_append_getElem hk2, List.take_succ_eq_append_getElem hk3, ht, ← hx0, ← hy0, hxy]⟩, (ent_sub (.cons _ _ _ rfl (.cons _ _ _ rfl (.cons _ _ _ rfl (.cons _ _ _ rfl (.nil)))))), by omega⟩
                  · have hk2 : ¬ k < a.evs.length := by simpa using hc83
                    have Eevs : a.evs = b.evs := by
                      have hk3 : k = a.evs.length := by omega
                      rw [hk3, List.take_length] at ht
                      rw [ht, Levs, List.take_length]
                    clear ht hk
                    refine rn ?_
                    refine aw_loop' (fun k : Nat => k ≤ a.ords.length ∧ a.ords.take k = b.ords.take k) (fun k => ⟨[(101, iv k), (100, iv (a.ords.map ordR).length), (99, ordsA a.ords), (2, .v (.pointer (some ⟨b2, 0, none⟩))), (3, .v (.pointer (some ⟨b3, 0, none⟩)))], [.box b3 28 (histC b), .box b2 28 (histC a)], []⟩) (fun k => a.ords.length - k) 0 ⟨Nat.zero_le _, by simp⟩
                      (ent_sub (.cons _ _ _ rfl (.cons _ _ _ rfl (.cons _ _ _ rfl (.cons _ _ _ rfl (.cons _ _ _ rfl (.nil))))))) ?_
                    rintro k ⟨hk, ht⟩
                    refine rn ?_
                    refine aw_cond rfl (fun hc102 => ?_) (fun hc102 => ?_)
                    · have hbig := la.ords
                      have hk2 : k < a.ords.length := by simpa using hc102
                      have hk3 : k < b.ords.length := by omega
                      obtain ⟨x, hx0⟩ : ∃ x, x = a.ords[k] := ⟨_, rfl⟩
                      obtain ⟨y, hy0⟩ : ∃ y, y = b.ords[k] := ⟨_, rfl⟩
                      have hrow1 : (a.ords.map ordR)[k]? = some (ordR x) := by rw [hx0]; simp [hk2]
                      have hrow2 : (b.ords.map ordR)[k]? = some (ordR y) := by rw [hy0]; simp [hk3]
                      refine rn ?_
                      refine aops_e rfl (oe_alloc rfl fun b7 => ?_)
                      refine rn ?_
                      refine aops_e rfl (oe_alloc rfl fun b8 => ?_)
                      refine rn ?_
                      refine asplit (fun hg13_5 => ?_) (fun hg13_5 => ?_)
                      · refine rn ?_
                        refine aw_ct rfl ?_
                        have hne : x ≠ y := by clear hx0 hy0 hrow1 hrow2 ht; intro q; subst q; simp_all
                        refine rn ?_
                        exact retq (.cons _ _ _ _ (.tmp _ _ rfl) .nil) (.drop [_, _, _, _] _ _) ⟨rfl, congrArg bv (Eq.symm (sameB_f fun q => by subst q; exact hne (hx0.trans hy0.symm)))⟩
                      · refine rn ?_
                        refine qv rfl rfl (qv_call rfl rfl (pcall (refNumbersD x.ts y.ts (la.ordts _ (by rw [hx0]; exact List.getElem_mem _)) (lb.ordts _ (by rw [hy0]; exact List.getElem_mem _))) (Sbs.refl _))) ?_
                        refine rn ?_
                        refine aw_cond rfl (fun hc123 => ?_) (fun hc123 => ?_)
                        · have hne : x ≠ y := by clear hx0 hy0 hrow1 hrow2 ht; intro q; subst q; simp_all
                          refine rn ?_
                          exact retq (.cons _ _ _ _ (.tmp _ _ rfl) .nil) (.drop [_, _, _, _] _ _) ⟨rfl, congrArg bv (Eq.symm (sameB_f fun q => by subst q; exact hne (hx0.trans hy0.symm)))⟩
                        · have hxy : x = y := by clear hx0 hy0 hrow1 hrow2 ht; cases x; cases y; simp_all
                          refine rn ?_
                          exact ⟨k + 1, ⟨by omega, by rw [List.take_succ_eq_append_getElem hk2, List.take_succ_eq_append_getElem hk3, ht, ← hx0, ← hy0, hxy]⟩, (ent_trans (ent_drop (h1 := [_, _])) (ent_sub (.cons _ _ _ rfl (.cons _ _ _ rfl (.cons _ _ _ rfl (.cons _ _ _ rfl (.cons _ _ _ rfl (.nil)))))))), by omega⟩
                    · have hk2 : ¬ k < a.ords.length := by simpa using hc102
                      have Eords : a.ords = b.ords := by
                        have hk3 : k = a.ords.length := by omega
                        rw [hk3, List.take_length] at ht
                        rw [ht, Lords, List.take_length]
                      clear ht hk
                      refine rn ?_
                      refine aw_loop' (fun k : Nat => k ≤ a.mats.length ∧ a.mats.take k = b.mats.take k) (fun k => ⟨[(128, iv k), (127, iv (a.mats.map matR).length), (126, matsA a.mats), (2, .v (.pointer (some ⟨b2, 0, none⟩))), (3, .v (.pointer (some ⟨b3, 0, none⟩)))], [.box b3 28 (histC b), .box b2 28 (histC a)], []⟩) (fun k => a.mats.length - k) 0 ⟨Nat.zero_le _, by simp⟩
                        (ent_sub (.cons _ _ _ rfl (.cons _ _ _ rfl (.cons _ _ _ rfl (.cons _ _ _ rfl (.cons _ _ _ rfl (.nil))))))) ?_
                      rintro k ⟨hk, ht⟩
                      refine rn ?_
                      refine aw_cond rfl (fun hc129 => ?_) (fun hc129 => ?_)
                      · have hbig := la.mats
                        have hk2 : k < a.mats.length := by simpa using hc129
                        have hk3 : k < b.mats.length := by omega
                        obtain ⟨x, hx0⟩ : ∃ x, x = a.mats[k] := ⟨_, rfl⟩
                        obtain ⟨y, hy0⟩ : ∃ y, y = b.mats[k] := ⟨_, rfl⟩
                        have hrow1 : (a.mats.map matR)[k]? = some (matR x) := by rw [hx0]; simp [hk2]
                        have hrow2 : (b.mats.map matR)[k]? = some (matR y) := by rw [hy0]; simp [hk3]
                        refine rn ?_
                        refine aops_e rfl (oe_alloc rfl fun b10 => ?_)
                        refine rn ?_
                        refine aops_e rfl (oe_alloc rfl fun b11 => ?_)
                        refine rn ?_
                        refine asplit (fun hg20_5 => ?_) (fun hg20_5 => ?_)
                        · refine rn ?_
                          refine aw_ct rfl ?_
                          have hne : x ≠ y := by clear hx0 hy0 hrow1 hrow2 ht; intro q; subst q; simp_all
                          refine rn ?_
                          exact retq (.cons _ _ _ _ (.tmp _ _ rfl) .nil) (.drop [_, _, _, _] _ _) ⟨rfl, congrArg bv (Eq.symm (sameB_f fun q => by subst q; exact hne (hx0.trans hy0.symm)))⟩
                        · refine rn ?_
                          refine asplit (fun hg20_12 => ?_) (fun hg20_12 => ?_)
                          · refine rn ?_
                            refine aw_ct rfl ?_
                            have hne : x ≠ y := by clear hx0 hy0 hrow1 hrow2 ht; intro q; subst q; simp_all
                            refine rn ?_
                            exact retq (.cons _ _ _ _ (.tmp _ _ rfl) .nil) (.drop [_, _, _, _] _ _) ⟨rfl, congrArg bv (Eq.symm (sameB_f fun q => by subst q; exact hne (hx0.trans hy0.symm)))⟩
                          · refine rn ?_
                            refine asplit (fun hg20_19 => ?_) (fun hg20_19 => ?_)
                            · refine rn ?_
                              refine aw_ct rfl ?_
                              have hne : x ≠ y := by clear hx0 hy0 hrow1 hrow2 ht; intro q; subst q; simp_all
                              refine rn ?_
                              exact retq (.cons _ _ _ _ (.tmp _ _ rfl) .nil) (.drop [_, _, _, _] _ _) ⟨rfl, congrArg bv (Eq.symm (sameB_f fun q => by subst q; exact hne (hx0.trans hy0.symm)))⟩
                            · refine rn ?_
                              refine qv rfl rfl (qv_call rfl rfl (pcall (refNumbersD x.ts y.ts (la.matts _ (by rw [hx0]; exact List.getElem_mem _)) (lb.matts _ (by rw [hy0]; exact List.getElem_mem _))) (Sbs.refl _))) ?_
                              refine rn ?_
                              refine aw_cond rfl (fun hc164 => ?_) (fun hc164 => ?_)
                              · have hne : x ≠ y := by clear hx0 hy0 hrow1 hrow2 ht; intro q; subst q; simp_all
                                refine rn ?_
                                exact retq (.cons _ _ _ _ (.tmp _ _ rfl) .nil) (.drop [_, _, _, _] _ _) ⟨rfl, congrArg bv (Eq.symm (sameB_f fun q => by subst q; exact hne (hx0.trans hy0.symm)))⟩
                              · have hxy : x = y := by clear hx0 hy0 hrow1 hrow2 ht; cases x; cases y; simp_all
                                refine rn ?_
                                exact ⟨k + 1, ⟨by omega, by rw [List.take_succ_eq_append_getElem hk2, List.take_succ_eq_append_getElem hk3, ht, ← hx0, ← hy0, hxy]⟩, (ent_trans (ent_drop (h1 := [_, _])) (ent_sub (.cons _ _ _ rfl (.cons _ _ _ rfl (.cons _ _ _ rfl (.cons _ _ _ rfl (.cons _ _ _ rfl (.nil)))))))), by omega⟩
                      · have hk2 : ¬ k < a.mats.length := by simpa using hc129
                        have Emats : a.mats = b.mats := by
                          have hk3 : k = a.mats.length := by omega
                          rw [hk3, List.take_length] at ht
                          rw [ht, Lmats, List.take_length]
                        clear ht hk
                        refine rn ?_
                        refine aw_loop' (fun k : Nat => k ≤ a.wants.length ∧ a.wants.take k = b.wants.take k) (fun k => ⟨[(169, iv k), (168, iv (a.wants.map wanR).length), (2, .v (.pointer (some ⟨b2, 0, none⟩))), (3, .v (.pointer (some ⟨b3, 0, none⟩)))], [.box b3 28 (histC b), .box b2 28 (histC a)], []⟩) (fun k => a.wants.length - k) 0 ⟨Nat.zero_le _, by simp⟩
                          (ent_sub (.cons _ _ _ rfl (.cons _ _ _ rfl (.cons _ _ _ rfl (.cons _ _ _ rfl (.nil)))))) ?_
                        rintro k ⟨hk, ht⟩
                        refine rn ?_
                        refine aw_cond rfl (fun hc170 => ?_) (fun hc170 => ?_)
                        · have hbig := la.wants
                          have hk2 : k < a.wants.length := by simpa using hc170
                          have hk3 : k < b.wants.length := by omega
                          obtain ⟨x, hx0⟩ : ∃ x, x = a.wants[k] := ⟨_, rfl⟩
                          obtain ⟨y, hy0⟩ : ∃ y, y = b.wants[k] := ⟨_, rfl⟩
                          have hrow1 : (a.wants.map wanR)[k]? = some (wanR x) := by rw [hx0]; simp [hk2]
                          have hrow2 : (b.wants.map wanR)[k]? = some (wanR y) := by rw [hy0]; simp [hk3]
                          refine rn ?_
                          refine aw_draw 10 rfl ?_
                          refine rn ?_
                          refine aw_cond rfl (fun hc182 => ?_) (fun hc182 => ?_)
                          · have hne : x ≠ y := by clear hx0 hy0 hrow1 hrow2 ht; intro q; subst q; simp_all
                            refine rn ?_
                            exact retq (.cons _ _ _ _ (.tmp _ _ rfl) .nil) (.drop [_, _] _ _) ⟨rfl, congrArg bv (Eq.symm (sameB_f fun q => by subst q; exact hne (hx0.trans hy0.symm)))⟩
                          · have hxy : x = y := by clear hx0 hy0 hrow1 hrow2 ht; cases x; cases y; simp_all
                            refine rn ?_
                            exact ⟨k + 1, ⟨by omega, by rw [List.take_succ_eq_append_getElem hk2, List.take_succ_eq_append_getElem hk3, ht, ← hx0, ← hy0, hxy]⟩, (ent_sub (.cons _ _ _ rfl (.cons _ _ _ rfl (.cons _ _ _ rfl (.cons _ _ _ rfl (.nil)))))), by omega⟩
                        · have hk2 : ¬ k < a.wants.length := by simpa using hc170
                          have Ewants : a.wants = b.wants := by
                            have hk3 : k = a.wants.length := by omega
                            rw [hk3, List.take_length] at ht
                            rw [ht, Lwants, List.take_length]
                          clear ht hk
                          refine rn ?_
                          exact retq (.cons _ _ _ _ (.tmp _ _ rfl) .nil) (.drop [_, _] _ _) ⟨rfl, congrArg bv (Eq.symm (sameB_t (by cases a; cases b; simp_all)))⟩
end Go.Proofs
/- The walk of IndexSees. Conditions: none. -/
set_option linter.unusedVariables false
set_option linter.unusedSimpArgs false
set_option maxRecDepth 10000
namespace Go.Proofs
open Go Go.Ab
attribute [local irreducible] QR QV OE aops aw dsoup dsoupM dalloc dallocM thn inBlk jsoup jch lsoup
open Go.H
theorem eqS (l : List Seen) (hl : l.length ≤ 4611686018427387904) : ACall Tryz.prog 47 [seensA l, seensA l] [] (fun r h' => h' = [] ∧ r = bv true) := (equalSeen l l hl hl).mono fun _ _ q => ⟨q.1, by rw [q.2, eqF_eq seenEq_eq]; simp⟩
theorem same16 (h : Hist) (la : Lim 4611686018427387904 h) : ACall Tryz.prog 20 [.agg (histC h), .agg (histC h)] [] (fun r h' => h' = [] ∧ r = bv true) := (refSame h h la la).mono fun _ _ q => ⟨q.1, by rw [q.2, sameB_self]⟩
theorem is_0 {n m : Int} (h : decide (0 ≤ n ∧ n < m) = true) : 0 ≤ n := (of_decide_eq_true h).1
theorem is_r {l : List Ev} {n : Int} (h : decide (0 ≤ n ∧ n < ((l.map evR).length : Int)) = true) : (l.map evR)[n.toNat]? = some (evR (evD l n)) := by
  have := of_decide_eq_true h
  exact sg_r (decide_eq_false (by omega)) (decide_eq_false (by omega))
theorem is_n1 {l : List Ev} {n : Int} (h : decide (0 ≤ n ∧ n < ((l.map evR).length : Int)) = false) : ¬ (0 ≤ n ∧ n < l.length ∧ (evD l n).kind = 4) := by
  have := of_decide_eq_false h
  rw [List.length_map] at this
  exact fun u => this ⟨u.1, u.2.1⟩
theorem is_n2 {l : List Ev} {n : Int} (h : ((evD l n).kind == 4) = false) : ¬ (0 ≤ n ∧ n < l.length ∧ (evD l n).kind = 4) := fun u => by rw [u.2.2] at h; cases h
theorem upR_len (n : Nat) : (upR n).length = n := by rw [upR, List.length_map, List.length_range]
set_option maxHeartbeats 4000000 in
theorem indexSees (x : Hist) (l : List Int) (lb : Big x) (hl : l.length ≤ 4611686018427387904) : ACall Tryz.prog 7 [.agg (histC x), intsA l] (.glob 1 112 limitsC :: .glob 2 234 firstC :: .glob 3 237 acceptC :: .glob 0 102 asksC :: []) (fun r h' => h' = .glob 1 112 limitsC :: .glob 2 234 firstC :: .glob 3 237 acceptC :: .glob 0 102 asksC :: [] ∧ r = bv true) := by
  refine acall_of_aw Tryz.func7 rfl rfl rfl ?_
  refine rn ?_
  refine aops_e rfl (oe_box rfl rfl rfl fun b2 => ?_)
  refine rn ?_
  refine qv rfl rfl (qv_call rfl rfl (FCall.qt (FCall.of_fun wakes16) ((pt1 _ _ _).trans (.cons _ ((pt1 _ _ _).trans (.cons _ ((pt1 _ _ _).trans (.cons _ (pt1 _ _ _))))))))) ?_
  refine rn ?_
  refine aw_cond rfl (fun hc14 => ?_) (fun hc14 => ?_)
  · exact absurd hc14 (by decide)
  · refine rn ?_
    refine qv rfl rfl (qv_call rfl rfl (pcall (own16 x lb) (Sbs.refl _))) ?_
    refine aops_e rfl (oe_alloc rfl fun b5 => ?_)
    refine rn ?_
    refine qv rfl rfl (qv_call rfl rfl (pcall (refCheck16 (ownX x) (ownX_lim lb.lim)) (Sbs.refl _))) ?_
    refine rn ?_
    refine aw_rng (l.length) (fun j : Nat => True) (fun j => [(21, iv j)]) [(2, _), (5, _), (6, _), (19, _), (20, _)] trivial ?_
    intro j lj _
    refine rn ?_
    refine aw_cond rfl (fun hc22 => ?_) (fun hc22 => ?_)
    · have hj := ltMap hc22
      have rj := atRow (f := intR) hj
      generalize l[j] = n at rj
      refine rn ?_
      refine aw_cond rfl (fun hc27 => ?_) (fun hc27 => ?_)
      · refine rn ?_
        refine aw_draw 3 rfl ?_
        refine rn ?_
        refine dv rfl rfl (by exact qv_call rfl rfl (pcall (own16 x lb) (Sbs.refl _))) ?_
        refine rn ?_
        refine qv rfl rfl (qv_call rfl rfl (pcall (same16 (ownX x) (ownX_lim lb.lim)) (Sbs.refl _))) ?_
        refine rn ?_
        refine rq 2 ?_
        exact ⟨rfl, rfl⟩
      · refine rn ?_
        refine qv rfl rfl (qv_call rfl rfl (FCall.qt (FCall.of_fun (ixSights (ownX x) (ownX_lim lb.lim) n)) ((pt2 _ _ _ _).trans (.cons _ ((pt2 _ _ _ _).trans (.cons _ ((pt2 _ _ _ _).trans (.cons _ (pt2 _ _ _ _))))))))) ?_
        refine rn ?_
        refine aw_cond rfl (fun hc36 => ?_) (fun hc36 => ?_)
        · have hc : checkI (ownX x) = 0 := by simpa using hc36
          refine rn ?_
          refine qv rfl rfl (qv_call rfl rfl (pcall (isI n ((ownX x).evs.map evR).length) (Sbs.refl _))) ?_
          refine rn ?_
          refine asplit (fun hg14_5 => ?_) (fun hg14_5 => ?_)
          · refine q1 ?_
            refine q1 ?_
            refine q1 ?_
            refine qq rfl rfl (qr_index_int rfl rfl (is_0 hg14_5) (is_r hg14_5)) ?_
            refine rn ?_
            refine aw_cond rfl (fun hc50 => ?_) (fun hc50 => ?_)
            · obtain ⟨a, rfl⟩ := Int.eq_ofNat_of_zero_le (is_0 hg14_5)
              have ha : a < (ownX x).evs.length := by have q := of_decide_eq_true hg14_5; rw [List.length_map] at q; omega
              have h4 : (ownX x).evs[a].kind = 4 := by rw [← evD_at ha]; simpa using hc50
              rw [(sg_y hc ha h4).1, (sg_y hc ha h4).2]
              refine rn ?_
              refine qv rfl rfl (qv_call rfl rfl (pcall (refSights (ownX x) ((chk_lim hc).mono (by decide)) a ha) (Sbs.refl _))) ?_
              refine q1 ?_
              refine q1 ?_
              refine aops_nil (thn_n ?_)
              refine aw_seq (aw_region ?_)
              refine q1 ?_
              refine q1 ?_
              refine qq rfl rfl (qr_cmp (c := false) rfl rfl (congrArg some (bne_self_eq_false _))) ?_
              refine rn ?_
              first | refine qv rfl rfl (qv_call rfl rfl (pcall (eqS ((upR (ownX x).os.length).map (sightO (ownX x).evs (ownX x).evs[a].t (ownX x).evs[a].scan a)) (by rw [List.length_map, upR_len]; exact (ownX_lim lb.lim).os)) (Sbs.refl _))) ?_ | refine qv rfl rfl (qv_call rfl rfl (pcall (eqS [] (by decide)) (by exact ⟨.refl _, .nil _ _, trivial⟩))) ?_
              refine rn ?_
              refine aw_cond rfl (fun hc62 => ?_) (fun hc62 => ?_)
              · first | cases hc62 | exact absurd hc62 (by decide) | (exfalso; simp_all; done)
              · refine rn ?_
                exact ⟨hj, trivial, eA⟩
            · have hn : ¬ (0 ≤ n ∧ n < (ownX x).evs.length ∧ (evD (ownX x).evs n).kind = 4) := by first | exact is_n1 hg14_5 | exact is_n2 hc50
              rw [(sg_n hc hn).1, (sg_n hc hn).2]
              refine aw_skip ?_
              refine thn_n ?_
              refine aw_seq (aw_region ?_)
              refine q1 ?_
              refine q1 ?_
              refine qq rfl rfl (qr_cmp (c := false) rfl rfl (congrArg some (bne_self_eq_false _))) ?_
              refine rn ?_
              first | refine qv rfl rfl (qv_call rfl rfl (pcall (eqS ((upR (ownX x).os.length).map (sightO (ownX x).evs (ownX x).evs[a].t (ownX x).evs[a].scan a)) (by rw [List.length_map, upR_len]; exact (ownX_lim lb.lim).os)) (Sbs.refl _))) ?_ | refine qv rfl rfl (qv_call rfl rfl (pcall (eqS [] (by decide)) (by exact ⟨.refl _, .nil _ _, trivial⟩))) ?_
              refine rn ?_
              refine aw_cond rfl (fun hc62 => ?_) (fun hc62 => ?_)
              · first | cases hc62 | exact absurd hc62 (by decide) | (exfalso; simp_all; done)
              · refine rn ?_
                exact ⟨hj, trivial, eA⟩
          · refine rn ?_
            refine aw_cond rfl (fun hc50 => ?_) (fun hc50 => ?_)
            · first | cases hc50 | exact absurd hc50 (by decide) | (exfalso; simp_all; done)
            · have hn : ¬ (0 ≤ n ∧ n < (ownX x).evs.length ∧ (evD (ownX x).evs n).kind = 4) := by first | exact is_n1 hg14_5 | exact is_n2 hc50
              rw [(sg_n hc hn).1, (sg_n hc hn).2]
              refine aw_skip ?_
              refine thn_n ?_
              refine aw_seq (aw_region ?_)
              refine q1 ?_
              refine q1 ?_
              refine qq rfl rfl (qr_cmp (c := false) rfl rfl (congrArg some (bne_self_eq_false _))) ?_
              refine rn ?_
              first | refine qv rfl rfl (qv_call rfl rfl (pcall (eqS ((upR (ownX x).os.length).map (sightO (ownX x).evs (ownX x).evs[a].t (ownX x).evs[a].scan a)) (by rw [List.length_map, upR_len]; exact (ownX_lim lb.lim).os)) (Sbs.refl _))) ?_ | refine qv rfl rfl (qv_call rfl rfl (pcall (eqS [] (by decide)) (by exact ⟨.refl _, .nil _ _, trivial⟩))) ?_
              refine rn ?_
              refine aw_cond rfl (fun hc62 => ?_) (fun hc62 => ?_)
              · first | cases hc62 | exact absurd hc62 (by decide) | (exfalso; simp_all; done)
              · refine rn ?_
                exact ⟨hj, trivial, eA⟩
        · have hc : checkI (ownX x) ≠ 0 := by simpa using hc36
          rw [(sg_c hc).1, (sg_c hc).2]
          refine aw_skip ?_
          refine thn_n ?_
          refine aw_seq (aw_region ?_)
          refine q1 ?_
          refine q1 ?_
          refine qq rfl rfl (qr_cmp (c := false) rfl rfl (congrArg some (bne_self_eq_false _))) ?_
          refine rn ?_
          first | refine qv rfl rfl (qv_call rfl rfl (pcall (eqS ((upR (ownX x).os.length).map (sightO (ownX x).evs (ownX x).evs[a].t (ownX x).evs[a].scan a)) (by rw [List.length_map, upR_len]; exact (ownX_lim lb.lim).os)) (Sbs.refl _))) ?_ | refine qv rfl rfl (qv_call rfl rfl (pcall (eqS [] (by decide)) (by exact ⟨.refl _, .nil _ _, trivial⟩))) ?_
          refine rn ?_
          refine aw_cond rfl (fun hc62 => ?_) (fun hc62 => ?_)
          · first | cases hc62 | exact absurd hc62 (by decide) | (exfalso; simp_all; done)
          · refine rn ?_
            exact ⟨hj, trivial, eA⟩
    · have qj := geMap hc22 lj
      refine rn ?_
      refine aw_draw 3 rfl ?_
      refine rn ?_
      refine dv rfl rfl (by exact qv_call rfl rfl (pcall (own16 x lb) (Sbs.refl _))) ?_
      refine rn ?_
      refine qv rfl rfl (qv_call rfl rfl (pcall (same16 (ownX x) (ownX_lim lb.lim)) (Sbs.refl _))) ?_
      refine rn ?_
      refine rq 2 ?_
      exact ⟨rfl, rfl⟩
end Go.Proofs
