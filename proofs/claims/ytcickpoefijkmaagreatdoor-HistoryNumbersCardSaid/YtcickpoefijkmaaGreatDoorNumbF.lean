/- The walks of slices.EqualFunc and slices.Clone. Conditions: none. -/
import Derived.Test.YtcickpoefijkmaaGreatDoorNumbE
set_option linter.unusedSimpArgs false
set_option linter.unusedVariables false
set_option linter.unusedVariables false
set_option linter.unusedSimpArgs false
set_option maxRecDepth 10000
namespace Go.Proofs
open Go Go.Ab
attribute [local irreducible] QR QV OE aops aw dsoup dsoupM dalloc dallocM thn inBlk
open Go.H
theorem equalFuncOrd {f g : Bool} (l m : List Ord) (fv : AV) (q : Ord → Ord → Bool) (hp : ∀ a ∈ l, ∀ b ∈ m, FCall Tryz.prog fv [.agg (ordR a), .agg (ordR b)] [] (fun r h' => h' = [] ∧ r = bv (q a b))) (hl : l.length ≤ 4611686018427387904) (hm : m.length ≤ 4611686018427387904) : ACall Tryz.prog 38 [.list f 2 (l.map ordR), .list g 2 (m.map ordR), fv] [] (fun r h' => h' = [] ∧ r = bv (eqF q l m)) := by
  refine acall_of_aw Tryz.func38 rfl rfl rfl ?_
  refine rn ?_
  refine aw_cond rfl (fun hc14 => ?_) (fun hc14 => ?_)
  · refine rn ?_
    have hne : (l.length == m.length) = false := beq_eq_false_iff_ne.2 fun q => by simp [q] at hc14
    exact retq (.cons _ _ _ _ (.tmp _ _ rfl) .nil) (.refl _ _) ⟨rfl, by rw [eqF, hne, Bool.false_and]; rfl⟩
  · have hlm : l.length = m.length := by simp at hc14; omega
    refine rn ?_
    refine aw_loop' (fun k : Nat => k ≤ l.length ∧ zall q l m = zall q (l.drop k) (m.drop k)) (fun k => ⟨[(17, iv k), (16, iv (l.map ordR).length), (15, .list f 2 (l.map ordR)), (1, .list g 2 (m.map ordR)), (2, fv)], [], []⟩) (fun k => l.length - k) 0 ⟨Nat.zero_le _, by simp⟩
      (ent_sub (.cons _ _ _ rfl (.cons _ _ _ rfl (.cons _ _ _ rfl (.cons _ _ _ rfl (.cons _ _ _ rfl (.nil))))))) ?_
    rintro k ⟨hk, hz⟩
    refine rn ?_
    refine aw_cond rfl (fun hc18 => ?_) (fun hc18 => ?_)
    · have hk2 : k < l.length := by simpa using hc18
      have hk3 : k < m.length := by omega
      have hrow1 : (l.map ordR)[k]? = some (ordR l[k]) := by simp [hk2]
      have hrow2 : (m.map ordR)[k]? = some (ordR m[k]) := by simp [hk3]
      have hd1 := List.drop_eq_getElem_cons hk2
      have hd2 := List.drop_eq_getElem_cons hk3
      refine rn ?_
      refine aops_e rfl (oe_alloc rfl fun b8 => ?_)
      refine rn ?_
      refine aops_e rfl (oe_alloc rfl fun b9 => ?_)
      refine rn ?_
      refine qv rfl rfl (qv_call rfl rfl (FCall.pure (R := fun x => x = bv (q l[k] m[k])) (hp l[k] (by simp) m[k] (by simp)))) ?_
      refine rn ?_
      refine aw_cond rfl (fun hc30 => ?_) (fun hc30 => ?_)
      · refine rn ?_
        exact retq (.cons _ _ _ _ (.tmp _ _ rfl) .nil) (.drop [_, _] _ _) ⟨rfl, by rw [eqF, hz, hd1, hd2, zall, show q l[k] m[k] = false from not_t hc30, Bool.false_and, Bool.and_false]; rfl⟩
      · refine rn ?_
        exact ⟨k + 1, ⟨by omega, by rw [hz, hd1, hd2, zall, show q l[k] m[k] = true from not_f hc30, Bool.true_and]⟩, (ent_trans (ent_drop (h1 := [_, _])) (ent_sub (.cons _ _ _ rfl (.cons _ _ _ rfl (.cons _ _ _ rfl (.cons _ _ _ rfl (.cons _ _ _ rfl (.nil)))))))), by omega⟩
    · have hk3 : k = l.length := by
        have : l.length ≤ k := by simpa using hc18
        omega
      refine rn ?_
      exact retq (.cons _ _ _ _ (.tmp _ _ rfl) .nil) (.refl _ _) ⟨rfl, by rw [eqF, hz, hk3, List.drop_length, zall_nil, hlm, beq_self_eq_true]; rfl⟩
theorem equalFuncMat {f g : Bool} (l m : List Mat) (fv : AV) (q : Mat → Mat → Bool) (hp : ∀ a ∈ l, ∀ b ∈ m, FCall Tryz.prog fv [.agg (matR a), .agg (matR b)] [] (fun r h' => h' = [] ∧ r = bv (q a b))) (hl : l.length ≤ 4611686018427387904) (hm : m.length ≤ 4611686018427387904) : ACall Tryz.prog 40 [.list f 4 (l.map matR), .list g 4 (m.map matR), fv] [] (fun r h' => h' = [] ∧ r = bv (eqF q l m)) := by
  refine acall_of_aw Tryz.func40 rfl rfl rfl ?_
  refine rn ?_
  refine aw_cond rfl (fun hc14 => ?_) (fun hc14 => ?_)
  · refine rn ?_
    have hne : (l.length == m.length) = false := beq_eq_false_iff_ne.2 fun q => by simp [q] at hc14
    exact retq (.cons _ _ _ _ (.tmp _ _ rfl) .nil) (.refl _ _) ⟨rfl, by rw [eqF, hne, Bool.false_and]; rfl⟩
  · have hlm : l.length = m.length := by simp at hc14; omega
    refine rn ?_
    refine aw_loop' (fun k : Nat => k ≤ l.length ∧ zall q l m = zall q (l.drop k) (m.drop k)) (fun k => ⟨[(17, iv k), (16, iv (l.map matR).length), (15, .list f 4 (l.map matR)), (1, .list g 4 (m.map matR)), (2, fv)], [], []⟩) (fun k => l.length - k) 0 ⟨Nat.zero_le _, by simp⟩
      (ent_sub (.cons _ _ _ rfl (.cons _ _ _ rfl (.cons _ _ _ rfl (.cons _ _ _ rfl (.cons _ _ _ rfl (.nil))))))) ?_
    rintro k ⟨hk, hz⟩
    refine rn ?_
    refine aw_cond rfl (fun hc18 => ?_) (fun hc18 => ?_)
    · have hk2 : k < l.length := by simpa using hc18
      have hk3 : k < m.length := by omega
      have hrow1 : (l.map matR)[k]? = some (matR l[k]) := by simp [hk2]
      have hrow2 : (m.map matR)[k]? = some (matR m[k]) := by simp [hk3]
      have hd1 := List.drop_eq_getElem_cons hk2
      have hd2 := List.drop_eq_getElem_cons hk3
      refine rn ?_
      refine aops_e rfl (oe_alloc rfl fun b8 => ?_)
      refine rn ?_
      refine aops_e rfl (oe_alloc rfl fun b9 => ?_)
      refine rn ?_
      refine qv rfl rfl (qv_call rfl rfl (FCall.pure (R := fun x => x = bv (q l[k] m[k])) (hp l[k] (by simp) m[k] (by simp)))) ?_
      refine rn ?_
      refine aw_cond rfl (fun hc30 => ?_) (fun hc30 => ?_)
      · refine rn ?_
        exact retq (.cons _ _ _ _ (.tmp _ _ rfl) .nil) (.drop [_, _] _ _) ⟨rfl, by rw [eqF, hz, hd1, hd2, zall, show q l[k] m[k] = false from not_t hc30, Bool.false_and, Bool.and_false]; rfl⟩
      · refine rn ?_
        exact ⟨k + 1, ⟨by omega, by rw [hz, hd1, hd2, zall, show q l[k] m[k] = true from not_f hc30, Bool.true_and]⟩, (ent_trans (ent_drop (h1 := [_, _])) (ent_sub (.cons _ _ _ rfl (.cons _ _ _ rfl (.cons _ _ _ rfl (.cons _ _ _ rfl (.cons _ _ _ rfl (.nil)))))))), by omega⟩
    · have hk3 : k = l.length := by
        have : l.length ≤ k := by simpa using hc18
        omega
      refine rn ?_
      exact retq (.cons _ _ _ _ (.tmp _ _ rfl) .nil) (.refl _ _) ⟨rfl, by rw [eqF, hz, hk3, List.drop_length, zall_nil, hlm, beq_self_eq_true]; rfl⟩
theorem equalFuncEv {f g : Bool} (l m : List Ev) (fv : AV) (q : Ev → Ev → Bool) (hp : ∀ a ∈ l, ∀ b ∈ m, FCall Tryz.prog fv [.agg (evR a), .agg (evR b)] [] (fun r h' => h' = [] ∧ r = bv (q a b))) (hl : l.length ≤ 4611686018427387904) (hm : m.length ≤ 4611686018427387904) : ACall Tryz.prog 43 [.list f 9 (l.map evR), .list g 9 (m.map evR), fv] [] (fun r h' => h' = [] ∧ r = bv (eqF q l m)) := by
  refine acall_of_aw Tryz.func43 rfl rfl rfl ?_
  refine rn ?_
  refine aw_cond rfl (fun hc14 => ?_) (fun hc14 => ?_)
  · refine rn ?_
    have hne : (l.length == m.length) = false := beq_eq_false_iff_ne.2 fun q => by simp [q] at hc14
    exact retq (.cons _ _ _ _ (.tmp _ _ rfl) .nil) (.refl _ _) ⟨rfl, by rw [eqF, hne, Bool.false_and]; rfl⟩
  · have hlm : l.length = m.length := by simp at hc14; omega
    refine rn ?_
    refine aw_loop' (fun k : Nat => k ≤ l.length ∧ zall q l m = zall q (l.drop k) (m.drop k)) (fun k => ⟨[(17, iv k), (16, iv (l.map evR).length), (15, .list f 9 (l.map evR)), (1, .list g 9 (m.map evR)), (2, fv)], [], []⟩) (fun k => l.length - k) 0 ⟨Nat.zero_le _, by simp⟩
      (ent_sub (.cons _ _ _ rfl (.cons _ _ _ rfl (.cons _ _ _ rfl (.cons _ _ _ rfl (.cons _ _ _ rfl (.nil))))))) ?_
    rintro k ⟨hk, hz⟩
    refine rn ?_
    refine aw_cond rfl (fun hc18 => ?_) (fun hc18 => ?_)
    · have hk2 : k < l.length := by simpa using hc18
      have hk3 : k < m.length := by omega
      have hrow1 : (l.map evR)[k]? = some (evR l[k]) := by simp [hk2]
      have hrow2 : (m.map evR)[k]? = some (evR m[k]) := by simp [hk3]
      have hd1 := List.drop_eq_getElem_cons hk2
      have hd2 := List.drop_eq_getElem_cons hk3
      refine rn ?_
      refine aops_e rfl (oe_alloc rfl fun b8 => ?_)
      refine rn ?_
      refine aops_e rfl (oe_alloc rfl fun b9 => ?_)
      refine rn ?_
      refine qv rfl rfl (qv_call rfl rfl (FCall.pure (R := fun x => x = bv (q l[k] m[k])) (hp l[k] (by simp) m[k] (by simp)))) ?_
      refine rn ?_
      refine aw_cond rfl (fun hc30 => ?_) (fun hc30 => ?_)
      · refine rn ?_
        exact retq (.cons _ _ _ _ (.tmp _ _ rfl) .nil) (.drop [_, _] _ _) ⟨rfl, by rw [eqF, hz, hd1, hd2, zall, show q l[k] m[k] = false from not_t hc30, Bool.false_and, Bool.and_false]; rfl⟩
      · refine rn ?_
        exact ⟨k + 1, ⟨by omega, by rw [hz, hd1, hd2, zall, show q l[k] m[k] = true from not_f hc30, Bool.true_and]⟩, (ent_trans (ent_drop (h1 := [_, _])) (ent_sub (.cons _ _ _ rfl (.cons _ _ _ rfl (.cons _ _ _ rfl (.cons _ _ _ rfl (.cons _ _ _ rfl (.nil)))))))), by omega⟩
    · have hk3 : k = l.length := by
        have : l.length ≤ k := by simpa using hc18
        omega
      refine rn ?_
      exact retq (.cons _ _ _ _ (.tmp _ _ rfl) .nil) (.refl _ _) ⟨rfl, by rw [eqF, hz, hk3, List.drop_length, zall_nil, hlm, beq_self_eq_true]; rfl⟩
theorem cloneInt {f : Bool} (rows : List (List AV)) (hl : rows.length ≤ 1099511627776) : ACall Tryz.prog 29 [.list f 1 rows] [] (fun r h' => h' = [] ∧ r = .list false 1 rows) := by
  refine acall_of_aw Tryz.func29 rfl rfl rfl ?_
  refine rn ?_
  refine aops_e rfl (oe_eqnil rfl rfl rfl fun b4 hb4 => ?_)
  refine rn ?_
  refine aw_cond rfl (fun hc4 => ?_) (fun hc4 => ?_)
  · refine rn ?_
    have h0 := hb4 hc4
    subst h0
    exact retq (.cons _ _ _ _ (.tmp _ _ rfl) .nil) (.le (Sb.nil _ _).le) ⟨rfl, rfl⟩
  · refine rn ?_
    refine qv rfl rfl (qv_buildSlice rfl rfl) ?_
    refine rn ?_
    refine qv rfl rfl (qv_append rfl rfl (by simpa using hl)) ?_
    refine rn ?_
    exact retq (.cons _ _ _ _ (.tmp _ _ rfl) .nil) (.refl _ _) ⟨rfl, by rw [List.nil_append]; rfl⟩
theorem cloneRowInt {f : Bool} (rows : List (List AV)) (hl : rows.length ≤ 1099511627776) (hone : ∀ r ∈ rows, r.all AV.one = true) : ACall Tryz.prog 29 [.list f 1 rows] [] (fun r h' => ∃ s, h' = [.row s 1 3 rows] ∧ r = .v s) := by
  refine acall_of_aw Tryz.func29 rfl rfl rfl ?_
  refine rn ?_
  refine aops_e rfl (oe_eqnil rfl rfl rfl fun b4 hb4 => ?_)
  refine rn ?_
  refine aw_cond rfl (fun hc4 => ?_) (fun hc4 => ?_)
  · refine rn ?_
    have h0 := hb4 hc4
    subst h0
    exact retq (.cons _ _ _ _ (.tmp _ _ rfl) .nil) (vent_nilrow 1 3 _) ⟨_, rfl, rfl⟩
  · refine rn ?_
    refine aops_e rfl (oe_buildRow rfl rfl rfl fun s5 => ?_)
    refine rn ?_
    refine aops_e rfl (oe_append_row rfl rfl (by simpa using hl) rfl (fun s7 => ?_) hone)
    refine rn ?_
    exact retq (.cons _ _ _ _ (.tmp _ _ rfl) .nil) (.refl _ _) ⟨_, by rw [List.nil_append], rfl⟩
theorem cloneStr {f : Bool} (rows : List (List AV)) (hl : rows.length ≤ 1099511627776) : ACall Tryz.prog 59 [.list f 1 rows] [] (fun r h' => h' = [] ∧ r = .list false 1 rows) := by
  refine acall_of_aw Tryz.func59 rfl rfl rfl ?_
  refine rn ?_
  refine aops_e rfl (oe_eqnil rfl rfl rfl fun b4 hb4 => ?_)
  refine rn ?_
  refine aw_cond rfl (fun hc4 => ?_) (fun hc4 => ?_)
  · refine rn ?_
    have h0 := hb4 hc4
    subst h0
    exact retq (.cons _ _ _ _ (.tmp _ _ rfl) .nil) (.le (Sb.nil _ _).le) ⟨rfl, rfl⟩
  · refine rn ?_
    refine qv rfl rfl (qv_buildSlice rfl rfl) ?_
    refine rn ?_
    refine qv rfl rfl (qv_append rfl rfl (by simpa using hl)) ?_
    refine rn ?_
    exact retq (.cons _ _ _ _ (.tmp _ _ rfl) .nil) (.refl _ _) ⟨rfl, by rw [List.nil_append]; rfl⟩
theorem cloneRowStr {f : Bool} (rows : List (List AV)) (hl : rows.length ≤ 1099511627776) (hone : ∀ r ∈ rows, r.all AV.one = true) : ACall Tryz.prog 59 [.list f 1 rows] [] (fun r h' => ∃ s, h' = [.row s 1 9 rows] ∧ r = .v s) := by
  refine acall_of_aw Tryz.func59 rfl rfl rfl ?_
  refine rn ?_
  refine aops_e rfl (oe_eqnil rfl rfl rfl fun b4 hb4 => ?_)
  refine rn ?_
  refine aw_cond rfl (fun hc4 => ?_) (fun hc4 => ?_)
  · refine rn ?_
    have h0 := hb4 hc4
    subst h0
    exact retq (.cons _ _ _ _ (.tmp _ _ rfl) .nil) (vent_nilrow 1 9 _) ⟨_, rfl, rfl⟩
  · refine rn ?_
    refine aops_e rfl (oe_buildRow rfl rfl rfl fun s5 => ?_)
    refine rn ?_
    refine aops_e rfl (oe_append_row rfl rfl (by simpa using hl) rfl (fun s7 => ?_) hone)
    refine rn ?_
    exact retq (.cons _ _ _ _ (.tmp _ _ rfl) .nil) (.refl _ _) ⟨_, by rw [List.nil_append], rfl⟩
theorem cloneSeen {f : Bool} (rows : List (List AV)) (hl : rows.length ≤ 1099511627776) : ACall Tryz.prog 28 [.list f 3 rows] [] (fun r h' => h' = [] ∧ r = .list false 3 rows) := by
  refine acall_of_aw Tryz.func28 rfl rfl rfl ?_
  refine rn ?_
  refine aops_e rfl (oe_eqnil rfl rfl rfl fun b4 hb4 => ?_)
  refine rn ?_
  refine aw_cond rfl (fun hc4 => ?_) (fun hc4 => ?_)
  · refine rn ?_
    have h0 := hb4 hc4
    subst h0
    exact retq (.cons _ _ _ _ (.tmp _ _ rfl) .nil) (.le (Sb.nil _ _).le) ⟨rfl, rfl⟩
  · refine rn ?_
    refine qv rfl rfl (qv_buildSlice rfl rfl) ?_
    refine rn ?_
    refine qv rfl rfl (qv_append rfl rfl (by simpa using hl)) ?_
    refine rn ?_
    exact retq (.cons _ _ _ _ (.tmp _ _ rfl) .nil) (.refl _ _) ⟨rfl, by rw [List.nil_append]; rfl⟩
theorem cloneRowSeen {f : Bool} (rows : List (List AV)) (hl : rows.length ≤ 1099511627776) (hone : ∀ r ∈ rows, r.all AV.one = true) : ACall Tryz.prog 28 [.list f 3 rows] [] (fun r h' => ∃ s, h' = [.row s 3 59 rows] ∧ r = .v s) := by
  refine acall_of_aw Tryz.func28 rfl rfl rfl ?_
  refine rn ?_
  refine aops_e rfl (oe_eqnil rfl rfl rfl fun b4 hb4 => ?_)
  refine rn ?_
  refine aw_cond rfl (fun hc4 => ?_) (fun hc4 => ?_)
  · refine rn ?_
    have h0 := hb4 hc4
    subst h0
    exact retq (.cons _ _ _ _ (.tmp _ _ rfl) .nil) (vent_nilrow 3 59 _) ⟨_, rfl, rfl⟩
  · refine rn ?_
    refine aops_e rfl (oe_buildRow rfl rfl rfl fun s5 => ?_)
    refine rn ?_
    refine aops_e rfl (oe_append_row rfl rfl (by simpa using hl) rfl (fun s7 => ?_) hone)
    refine rn ?_
    exact retq (.cons _ _ _ _ (.tmp _ _ rfl) .nil) (.refl _ _) ⟨_, by rw [List.nil_append], rfl⟩
theorem cloneEv {f : Bool} (rows : List (List AV)) (hl : rows.length ≤ 1099511627776) : ACall Tryz.prog 79 [.list f 9 rows] [] (fun r h' => h' = [] ∧ r = .list false 9 rows) := by
  refine acall_of_aw Tryz.func79 rfl rfl rfl ?_
  refine rn ?_
  refine aops_e rfl (oe_eqnil rfl rfl rfl fun b4 hb4 => ?_)
  refine rn ?_
  refine aw_cond rfl (fun hc4 => ?_) (fun hc4 => ?_)
  · refine rn ?_
    have h0 := hb4 hc4
    subst h0
    exact retq (.cons _ _ _ _ (.tmp _ _ rfl) .nil) (.le (Sb.nil _ _).le) ⟨rfl, rfl⟩
  · refine rn ?_
    refine qv rfl rfl (qv_buildSlice rfl rfl) ?_
    refine rn ?_
    refine qv rfl rfl (qv_append rfl rfl (by simpa using hl)) ?_
    refine rn ?_
    exact retq (.cons _ _ _ _ (.tmp _ _ rfl) .nil) (.refl _ _) ⟨rfl, by rw [List.nil_append]; rfl⟩
theorem cloneRowEv {f : Bool} (rows : List (List AV)) (hl : rows.length ≤ 1099511627776) (hone : ∀ r ∈ rows, r.all AV.one = true) : ACall Tryz.prog 79 [.list f 9 rows] [] (fun r h' => ∃ s, h' = [.row s 9 39 rows] ∧ r = .v s) := by
  refine acall_of_aw Tryz.func79 rfl rfl rfl ?_
  refine rn ?_
  refine aops_e rfl (oe_eqnil rfl rfl rfl fun b4 hb4 => ?_)
  refine rn ?_
  refine aw_cond rfl (fun hc4 => ?_) (fun hc4 => ?_)
  · refine rn ?_
    have h0 := hb4 hc4
    subst h0
    exact retq (.cons _ _ _ _ (.tmp _ _ rfl) .nil) (vent_nilrow 9 39 _) ⟨_, rfl, rfl⟩
  · refine rn ?_
    refine aops_e rfl (oe_buildRow rfl rfl rfl fun s5 => ?_)
    refine rn ?_
    refine aops_e rfl (oe_append_row rfl rfl (by simpa using hl) rfl (fun s7 => ?_) hone)
    refine rn ?_
    exact retq (.cons _ _ _ _ (.tmp _ _ rfl) .nil) (.refl _ _) ⟨_, by rw [List.nil_append], rfl⟩
theorem cloneOrd {f : Bool} (rows : List (List AV)) (hl : rows.length ≤ 1099511627776) : ACall Tryz.prog 80 [.list f 2 rows] [] (fun r h' => h' = [] ∧ r = .list false 2 rows) := by
  refine acall_of_aw Tryz.func80 rfl rfl rfl ?_
  refine rn ?_
  refine aops_e rfl (oe_eqnil rfl rfl rfl fun b4 hb4 => ?_)
  refine rn ?_
  refine aw_cond rfl (fun hc4 => ?_) (fun hc4 => ?_)
  · refine rn ?_
    have h0 := hb4 hc4
    subst h0
    exact retq (.cons _ _ _ _ (.tmp _ _ rfl) .nil) (.le (Sb.nil _ _).le) ⟨rfl, rfl⟩
  · refine rn ?_
    refine qv rfl rfl (qv_buildSlice rfl rfl) ?_
    refine rn ?_
    refine qv rfl rfl (qv_append rfl rfl (by simpa using hl)) ?_
    refine rn ?_
    exact retq (.cons _ _ _ _ (.tmp _ _ rfl) .nil) (.refl _ _) ⟨rfl, by rw [List.nil_append]; rfl⟩
theorem cloneRowOrd {f : Bool} (rows : List (List AV)) (hl : rows.length ≤ 1099511627776) (hone : ∀ r ∈ rows, r.all AV.one = true) : ACall Tryz.prog 80 [.list f 2 rows] [] (fun r h' => ∃ s, h' = [.row s 2 61 rows] ∧ r = .v s) := by
  refine acall_of_aw Tryz.func80 rfl rfl rfl ?_
  refine rn ?_
  refine aops_e rfl (oe_eqnil rfl rfl rfl fun b4 hb4 => ?_)
  refine rn ?_
  refine aw_cond rfl (fun hc4 => ?_) (fun hc4 => ?_)
  · refine rn ?_
    have h0 := hb4 hc4
    subst h0
    exact retq (.cons _ _ _ _ (.tmp _ _ rfl) .nil) (vent_nilrow 2 61 _) ⟨_, rfl, rfl⟩
  · refine rn ?_
    refine aops_e rfl (oe_buildRow rfl rfl rfl fun s5 => ?_)
    refine rn ?_
    refine aops_e rfl (oe_append_row rfl rfl (by simpa using hl) rfl (fun s7 => ?_) hone)
    refine rn ?_
    exact retq (.cons _ _ _ _ (.tmp _ _ rfl) .nil) (.refl _ _) ⟨_, by rw [List.nil_append], rfl⟩
theorem cloneMat {f : Bool} (rows : List (List AV)) (hl : rows.length ≤ 1099511627776) : ACall Tryz.prog 81 [.list f 4 rows] [] (fun r h' => h' = [] ∧ r = .list false 4 rows) := by
  refine acall_of_aw Tryz.func81 rfl rfl rfl ?_
  refine rn ?_
  refine aops_e rfl (oe_eqnil rfl rfl rfl fun b4 hb4 => ?_)
  refine rn ?_
  refine aw_cond rfl (fun hc4 => ?_) (fun hc4 => ?_)
  · refine rn ?_
    have h0 := hb4 hc4
    subst h0
    exact retq (.cons _ _ _ _ (.tmp _ _ rfl) .nil) (.le (Sb.nil _ _).le) ⟨rfl, rfl⟩
  · refine rn ?_
    refine qv rfl rfl (qv_buildSlice rfl rfl) ?_
    refine rn ?_
    refine qv rfl rfl (qv_append rfl rfl (by simpa using hl)) ?_
    refine rn ?_
    exact retq (.cons _ _ _ _ (.tmp _ _ rfl) .nil) (.refl _ _) ⟨rfl, by rw [List.nil_append]; rfl⟩
theorem cloneRowMat {f : Bool} (rows : List (List AV)) (hl : rows.length ≤ 1099511627776) (hone : ∀ r ∈ rows, r.all AV.one = true) : ACall Tryz.prog 81 [.list f 4 rows] [] (fun r h' => ∃ s, h' = [.row s 4 64 rows] ∧ r = .v s) := by
  refine acall_of_aw Tryz.func81 rfl rfl rfl ?_
  refine rn ?_
  refine aops_e rfl (oe_eqnil rfl rfl rfl fun b4 hb4 => ?_)
  refine rn ?_
  refine aw_cond rfl (fun hc4 => ?_) (fun hc4 => ?_)
  · refine rn ?_
    have h0 := hb4 hc4
    subst h0
    exact retq (.cons _ _ _ _ (.tmp _ _ rfl) .nil) (vent_nilrow 4 64 _) ⟨_, rfl, rfl⟩
  · refine rn ?_
    refine aops_e rfl (oe_buildRow rfl rfl rfl fun s5 => ?_)
    refine rn ?_
    refine aops_e rfl (oe_append_row rfl rfl (by simpa using hl) rfl (fun s7 => ?_) hone)
    refine rn ?_
    exact retq (.cons _ _ _ _ (.tmp _ _ rfl) .nil) (.refl _ _) ⟨_, by rw [List.nil_append], rfl⟩
theorem cloneWan {f : Bool} (rows : List (List AV)) (hl : rows.length ≤ 1099511627776) : ACall Tryz.prog 30 [.list f 2 rows] [] (fun r h' => h' = [] ∧ r = .list false 2 rows) := by
  refine acall_of_aw Tryz.func30 rfl rfl rfl ?_
  refine rn ?_
  refine aops_e rfl (oe_eqnil rfl rfl rfl fun b4 hb4 => ?_)
  refine rn ?_
  refine aw_cond rfl (fun hc4 => ?_) (fun hc4 => ?_)
  · refine rn ?_
    have h0 := hb4 hc4
    subst h0
    exact retq (.cons _ _ _ _ (.tmp _ _ rfl) .nil) (.le (Sb.nil _ _).le) ⟨rfl, rfl⟩
  · refine rn ?_
    refine qv rfl rfl (qv_buildSlice rfl rfl) ?_
    refine rn ?_
    refine qv rfl rfl (qv_append rfl rfl (by simpa using hl)) ?_
    refine rn ?_
    exact retq (.cons _ _ _ _ (.tmp _ _ rfl) .nil) (.refl _ _) ⟨rfl, by rw [List.nil_append]; rfl⟩
theorem cloneRowWan {f : Bool} (rows : List (List AV)) (hl : rows.length ≤ 1099511627776) (hone : ∀ r ∈ rows, r.all AV.one = true) : ACall Tryz.prog 30 [.list f 2 rows] [] (fun r h' => ∃ s, h' = [.row s 2 67 rows] ∧ r = .v s) := by
  refine acall_of_aw Tryz.func30 rfl rfl rfl ?_
  refine rn ?_
  refine aops_e rfl (oe_eqnil rfl rfl rfl fun b4 hb4 => ?_)
  refine rn ?_
  refine aw_cond rfl (fun hc4 => ?_) (fun hc4 => ?_)
  · refine rn ?_
    have h0 := hb4 hc4
    subst h0
    exact retq (.cons _ _ _ _ (.tmp _ _ rfl) .nil) (vent_nilrow 2 67 _) ⟨_, rfl, rfl⟩
  · refine rn ?_
    refine aops_e rfl (oe_buildRow rfl rfl rfl fun s5 => ?_)
    refine rn ?_
    refine aops_e rfl (oe_append_row rfl rfl (by simpa using hl) rfl (fun s7 => ?_) hone)
    refine rn ?_
    exact retq (.cons _ _ _ _ (.tmp _ _ rfl) .nil) (.refl _ _) ⟨_, by rw [List.nil_append], rfl⟩
end Go.Proofs
/- The walks of the closures of history.event. Conditions: none. -/
set_option linter.unusedVariables false
set_option linter.unusedSimpArgs false
set_option maxRecDepth 10000
namespace Go.Proofs
open Go Go.Ab
attribute [local irreducible] QR QV OE aops aw dsoup dsoupM dalloc dallocM thn inBlk
open Go.H
theorem event1 (e : Ev) (h : Hist) (be bh : Nat) : ACall Tryz.prog 103 [.v (.pointer (some ⟨be, 0, none⟩)), .v (.pointer (some ⟨bh, 0, none⟩))] [.box be 39 (evR e), .box bh 28 (histC h)] (fun r h' => h' = [.box be 39 (evR e), .box bh 28 (histC h)] ∧ r = .tup [.agg (evR ⟨0, 0, e.s, e.l, 0, ⟨0, 0⟩, 0, []⟩), bv (mayBegin h e)]) := by
  refine acall_of_aw Tryz.func103 rfl rfl rfl ?_
  refine rn ?_
  refine aops_e rfl (oe_alloc rfl fun b2 => ?_)
  refine rn ?_
  refine aw_drawS 16 [(b2, 39, _)] rfl (List.perm_append_comm (l₁ := [_])) ?_
  refine rn ?_
  refine dv rfl rfl (by exact qv_call rfl rfl (pcall (told _ 1 _ _ rfl (by decide)) (Sbs.refl _))) ?_
  refine rn ?_
  refine dsplit (fun hg1_9 => ?_) (fun hg1_9 => ?_)
  · refine rn ?_
    refine dv rfl rfl (by exact qv_call rfl rfl (pcall (levelCheck _) (Sbs.refl _))) ?_
    refine rn ?_
    refine dw 0 rfl rfl rfl rfl rfl (Nat.le_of_ble_eq_true rfl) ?_
    refine rn2 ?_
    show aops _ _ _ _ _ _ ⟨_, .box b2 39 _ :: _, _⟩
    refine rn ?_
    exact retq (.cons _ _ _ _ (.agg _ _ _ _ _ _ _ rfl inferInstance inferInstance inferInstance rfl) (.cons _ _ _ _ (.tmp _ _ rfl) .nil)) (.trans (.drop1 _ _ _) (vent_tup2 (by exact Sb.aggs (by exact ⟨.refl _, .refl _, .refl _, .refl _, .refl _, .refl _, .refl _, .refl _, .nil _ _, trivial⟩)) (by exact .refl _))) ⟨rfl, congrArg (fun b => AV.tup [.agg (evR ⟨0, 0, e.s, e.l, 0, ⟨0, 0⟩, 0, []⟩), bv b]) (by first | (simp only [mayBegin, *, Bool.true_and, Bool.false_and, Bool.and_false, Bool.and_true, Bool.true_or, Bool.or_false, Bool.false_or, Bool.or_true, if_true, if_false, Bool.false_eq_true, Bool.not_true, Bool.not_false]; done) | (simp_all [mayBegin]; done) | (simp_all [mayBegin] <;> omega))⟩
  · refine rn ?_
    refine dw 0 rfl rfl rfl rfl rfl (Nat.le_of_ble_eq_true rfl) ?_
    refine rn2 ?_
    show aops _ _ _ _ _ _ ⟨_, .box b2 39 _ :: _, _⟩
    refine rn ?_
    exact retq (.cons _ _ _ _ (.agg _ _ _ _ _ _ _ rfl inferInstance inferInstance inferInstance rfl) (.cons _ _ _ _ (.tmp _ _ rfl) .nil)) (.trans (.drop1 _ _ _) (vent_tup2 (by exact Sb.aggs (by exact ⟨.refl _, .refl _, .refl _, .refl _, .refl _, .refl _, .refl _, .refl _, .nil _ _, trivial⟩)) (by exact .refl _))) ⟨rfl, congrArg (fun b => AV.tup [.agg (evR ⟨0, 0, e.s, e.l, 0, ⟨0, 0⟩, 0, []⟩), bv b]) (by first | (simp only [mayBegin, *, Bool.true_and, Bool.false_and, Bool.and_false, Bool.and_true, Bool.true_or, Bool.or_false, Bool.false_or, Bool.or_true, if_true, if_false, Bool.false_eq_true, Bool.not_true, Bool.not_false]; done) | (simp_all [mayBegin]; done) | (simp_all [mayBegin] <;> omega))⟩
theorem event2 (e : Ev) (h : Hist) (be bh : Nat) : ACall Tryz.prog 105 [.v (.pointer (some ⟨be, 0, none⟩)), .v (.pointer (some ⟨bh, 0, none⟩))] [.box be 39 (evR e), .box bh 28 (histC h)] (fun r h' => h' = [.box be 39 (evR e), .box bh 28 (histC h)] ∧ r = .tup [.agg (evR ⟨0, 0, 0, 0, e.o, e.v, 0, []⟩), bv (mayWrite h e)]) := by
  refine acall_of_aw Tryz.func105 rfl rfl rfl ?_
  refine rn ?_
  refine aops_e rfl (oe_alloc rfl fun b2 => ?_)
  refine rn ?_
  refine aw_drawS 30 [(b2, 39, _)] rfl (List.perm_append_comm (l₁ := [_])) ?_
  refine rn ?_
  refine dv rfl rfl (by exact qv_call rfl rfl (pcall (told _ 2 _ _ rfl (by decide)) (Sbs.refl _))) ?_
  refine rn ?_
  refine dsplit (fun hg1_9 => ?_) (fun hg1_9 => ?_)
  · refine rn ?_
    refine dv rfl rfl (by exact qv_call rfl rfl (pcall (version h e.v) (Sbs.refl _))) ?_
    refine rn ?_
    refine dsplit (fun hg1_15 => ?_) (fun hg1_15 => ?_)
    · refine rn ?_
      refine dsplit (fun hg1_23 => ?_) (fun hg1_23 => ?_)
      · refine rn ?_
        refine dw 0 rfl rfl rfl rfl rfl (Nat.le_of_ble_eq_true rfl) ?_
        refine rn2 ?_
        show aops _ _ _ _ _ _ ⟨_, .box b2 39 _ :: _, _⟩
        refine rn ?_
        exact retq (.cons _ _ _ _ (.agg _ _ _ _ _ _ _ rfl inferInstance inferInstance inferInstance rfl) (.cons _ _ _ _ (.tmp _ _ rfl) .nil)) (.trans (.drop1 _ _ _) (vent_tup2 (by exact Sb.aggs (by exact ⟨.refl _, .refl _, .refl _, .refl _, .refl _, .refl _, .refl _, .refl _, .nil _ _, trivial⟩)) (by exact .refl _))) ⟨rfl, congrArg (fun b => AV.tup [.agg (evR ⟨0, 0, 0, 0, e.o, e.v, 0, []⟩), bv b]) (by first | (simp only [mayWrite, *, Bool.true_and, Bool.false_and, Bool.and_false, Bool.and_true, Bool.true_or, Bool.or_false, Bool.false_or, Bool.or_true, if_true, if_false, Bool.false_eq_true, Bool.not_true, Bool.not_false]; done) | (simp_all [mayWrite]; done) | (simp_all [mayWrite] <;> omega))⟩
      · refine rn ?_
        refine dw 0 rfl rfl rfl rfl rfl (Nat.le_of_ble_eq_true rfl) ?_
        refine rn2 ?_
        show aops _ _ _ _ _ _ ⟨_, .box b2 39 _ :: _, _⟩
        refine rn ?_
        exact retq (.cons _ _ _ _ (.agg _ _ _ _ _ _ _ rfl inferInstance inferInstance inferInstance rfl) (.cons _ _ _ _ (.tmp _ _ rfl) .nil)) (.trans (.drop1 _ _ _) (vent_tup2 (by exact Sb.aggs (by exact ⟨.refl _, .refl _, .refl _, .refl _, .refl _, .refl _, .refl _, .refl _, .nil _ _, trivial⟩)) (by exact .refl _))) ⟨rfl, congrArg (fun b => AV.tup [.agg (evR ⟨0, 0, 0, 0, e.o, e.v, 0, []⟩), bv b]) (by first | (simp only [mayWrite, *, Bool.true_and, Bool.false_and, Bool.and_false, Bool.and_true, Bool.true_or, Bool.or_false, Bool.false_or, Bool.or_true, if_true, if_false, Bool.false_eq_true, Bool.not_true, Bool.not_false]; done) | (simp_all [mayWrite]; done) | (simp_all [mayWrite] <;> omega))⟩
    · refine rn ?_
      refine dw 0 rfl rfl rfl rfl rfl (Nat.le_of_ble_eq_true rfl) ?_
      refine rn2 ?_
      show aops _ _ _ _ _ _ ⟨_, .box b2 39 _ :: _, _⟩
      refine rn ?_
      exact retq (.cons _ _ _ _ (.agg _ _ _ _ _ _ _ rfl inferInstance inferInstance inferInstance rfl) (.cons _ _ _ _ (.tmp _ _ rfl) .nil)) (.trans (.drop1 _ _ _) (vent_tup2 (by exact Sb.aggs (by exact ⟨.refl _, .refl _, .refl _, .refl _, .refl _, .refl _, .refl _, .refl _, .nil _ _, trivial⟩)) (by exact .refl _))) ⟨rfl, congrArg (fun b => AV.tup [.agg (evR ⟨0, 0, 0, 0, e.o, e.v, 0, []⟩), bv b]) (by first | (simp only [mayWrite, *, Bool.true_and, Bool.false_and, Bool.and_false, Bool.and_true, Bool.true_or, Bool.or_false, Bool.false_or, Bool.or_true, if_true, if_false, Bool.false_eq_true, Bool.not_true, Bool.not_false]; done) | (simp_all [mayWrite]; done) | (simp_all [mayWrite] <;> omega))⟩
  · refine rn ?_
    refine dw 0 rfl rfl rfl rfl rfl (Nat.le_of_ble_eq_true rfl) ?_
    refine rn2 ?_
    show aops _ _ _ _ _ _ ⟨_, .box b2 39 _ :: _, _⟩
    refine rn ?_
    exact retq (.cons _ _ _ _ (.agg _ _ _ _ _ _ _ rfl inferInstance inferInstance inferInstance rfl) (.cons _ _ _ _ (.tmp _ _ rfl) .nil)) (.trans (.drop1 _ _ _) (vent_tup2 (by exact Sb.aggs (by exact ⟨.refl _, .refl _, .refl _, .refl _, .refl _, .refl _, .refl _, .refl _, .nil _ _, trivial⟩)) (by exact .refl _))) ⟨rfl, congrArg (fun b => AV.tup [.agg (evR ⟨0, 0, 0, 0, e.o, e.v, 0, []⟩), bv b]) (by first | (simp only [mayWrite, *, Bool.true_and, Bool.false_and, Bool.and_false, Bool.and_true, Bool.true_or, Bool.or_false, Bool.false_or, Bool.or_true, if_true, if_false, Bool.false_eq_true, Bool.not_true, Bool.not_false]; done) | (simp_all [mayWrite]; done) | (simp_all [mayWrite] <;> omega))⟩
theorem event3 (e : Ev) (h : Hist) (be bh : Nat) : ACall Tryz.prog 107 [.v (.pointer (some ⟨be, 0, none⟩)), .v (.pointer (some ⟨bh, 0, none⟩))] [.box be 39 (evR e), .box bh 28 (histC h)] (fun r h' => h' = [.box be 39 (evR e), .box bh 28 (histC h)] ∧ r = .tup [.agg (evR ⟨0, 0, 0, 0, e.o, e.v, 0, []⟩), bv (mayRead h e)]) := by
  refine acall_of_aw Tryz.func107 rfl rfl rfl ?_
  refine rn ?_
  refine aops_e rfl (oe_alloc rfl fun b2 => ?_)
  refine rn ?_
  refine aw_drawS 16 [(b2, 39, _)] rfl (List.perm_append_comm (l₁ := [_])) ?_
  refine rn ?_
  refine dv rfl rfl (by exact qv_call rfl rfl (pcall (told _ 2 _ _ rfl (by decide)) (Sbs.refl _))) ?_
  refine rn ?_
  refine dsplit (fun hg1_9 => ?_) (fun hg1_9 => ?_)
  · refine rn ?_
    refine dv rfl rfl (by exact qv_call rfl rfl (pcall (version h e.v) (Sbs.refl _))) ?_
    refine rn ?_
    refine dw 0 rfl rfl rfl rfl rfl (Nat.le_of_ble_eq_true rfl) ?_
    refine rn2 ?_
    show aops _ _ _ _ _ _ ⟨_, .box b2 39 _ :: _, _⟩
    refine rn ?_
    exact retq (.cons _ _ _ _ (.agg _ _ _ _ _ _ _ rfl inferInstance inferInstance inferInstance rfl) (.cons _ _ _ _ (.tmp _ _ rfl) .nil)) (.trans (.drop1 _ _ _) (vent_tup2 (by exact Sb.aggs (by exact ⟨.refl _, .refl _, .refl _, .refl _, .refl _, .refl _, .refl _, .refl _, .nil _ _, trivial⟩)) (by exact .refl _))) ⟨rfl, congrArg (fun b => AV.tup [.agg (evR ⟨0, 0, 0, 0, e.o, e.v, 0, []⟩), bv b]) (by first | (simp only [mayRead, *, Bool.true_and, Bool.false_and, Bool.and_false, Bool.and_true, Bool.true_or, Bool.or_false, Bool.false_or, Bool.or_true, if_true, if_false, Bool.false_eq_true, Bool.not_true, Bool.not_false]; done) | (simp_all [mayRead]; done) | (simp_all [mayRead] <;> omega))⟩
  · refine rn ?_
    refine dw 0 rfl rfl rfl rfl rfl (Nat.le_of_ble_eq_true rfl) ?_
    refine rn2 ?_
    show aops _ _ _ _ _ _ ⟨_, .box b2 39 _ :: _, _⟩
    refine rn ?_
    exact retq (.cons _ _ _ _ (.agg _ _ _ _ _ _ _ rfl inferInstance inferInstance inferInstance rfl) (.cons _ _ _ _ (.tmp _ _ rfl) .nil)) (.trans (.drop1 _ _ _) (vent_tup2 (by exact Sb.aggs (by exact ⟨.refl _, .refl _, .refl _, .refl _, .refl _, .refl _, .refl _, .refl _, .nil _ _, trivial⟩)) (by exact .refl _))) ⟨rfl, congrArg (fun b => AV.tup [.agg (evR ⟨0, 0, 0, 0, e.o, e.v, 0, []⟩), bv b]) (by first | (simp only [mayRead, *, Bool.true_and, Bool.false_and, Bool.and_false, Bool.and_true, Bool.true_or, Bool.or_false, Bool.false_or, Bool.or_true, if_true, if_false, Bool.false_eq_true, Bool.not_true, Bool.not_false]; done) | (simp_all [mayRead]; done) | (simp_all [mayRead] <;> omega))⟩
theorem event41 (s : Seen) (h : Hist) (bh : Nat) : ACall Tryz.prog 109 [.agg (seenR s), .v (.pointer (some ⟨bh, 0, none⟩))] [.box bh 28 (histC h)] (fun r h' => h' = [.box bh 28 (histC h)] ∧ r = bv (seenB h s)) := by
  refine acall_of_aw Tryz.func109 rfl rfl rfl ?_
  refine rn ?_
  refine aops_e rfl (oe_box rfl rfl rfl fun b2 => ?_)
  refine rn ?_
  refine qv rfl rfl (qv_call rfl rfl (pcall (told _ 2 _ _ rfl (by decide)) (Sbs.refl _))) ?_
  refine rn ?_
  refine asplit (fun hg1_4 => ?_) (fun hg1_4 => ?_)
  · refine rn ?_
    refine qv rfl rfl (qv_call rfl rfl (pcall (version h s.v) (Sbs.refl _))) ?_
    refine rn ?_
    exact retq (.cons _ _ _ _ (.tmp _ _ rfl) .nil) (.drop1 _ _ _) ⟨rfl, congrArg bv (by first | (simp only [seenB, *, Bool.true_and, Bool.false_and, Bool.and_false, Bool.and_true, Bool.true_or, Bool.or_false, Bool.false_or, Bool.or_true, if_true, if_false, Bool.false_eq_true, Bool.not_true, Bool.not_false]; done) | (simp_all [seenB]; done) | (simp_all [seenB] <;> omega))⟩
  · refine rn ?_
    exact retq (.cons _ _ _ _ (.tmp _ _ rfl) .nil) (.drop1 _ _ _) ⟨rfl, congrArg bv (by first | (simp only [seenB, *, Bool.true_and, Bool.false_and, Bool.and_false, Bool.and_true, Bool.true_or, Bool.or_false, Bool.false_or, Bool.or_true, if_true, if_false, Bool.false_eq_true, Bool.not_true, Bool.not_false]; done) | (simp_all [seenB]; done) | (simp_all [seenB] <;> omega))⟩
theorem event4 (e : Ev) (h : Hist) (be bh : Nat) (hl : e.scan.length ≤ 4611686018427387904) : ACall Tryz.prog 108 [.v (.pointer (some ⟨bh, 0, none⟩)), .v (.pointer (some ⟨be, 0, none⟩))] [.box be 39 (evR e), .box bh 28 (histC h)] (fun r h' => h' = [.box be 39 (evR e), .box bh 28 (histC h)] ∧ r = .tup [.agg (evR ⟨0, 0, 0, 0, 0, ⟨0, 0⟩, e.p, e.scan⟩), bv (mayScan h e)]) := by
  refine acall_of_aw Tryz.func108 rfl rfl rfl ?_
  refine rn ?_
  refine aops_e rfl (oe_alloc rfl fun b2 => ?_)
  refine rn ?_
  refine aw_drawS 22 [(b2, 39, _)] rfl (List.perm_append_comm (l₁ := [_])) ?_
  refine rn ?_
  refine dv rfl rfl (by exact qv_call rfl rfl (pcall (told _ 3 _ _ rfl (by decide)) (Sbs.refl _))) ?_
  refine rn ?_
  refine dsplit (fun hg2_9 => ?_) (fun hg2_9 => ?_)
  · refine rn ?_
    refine dsplit (fun hg2_15 => ?_) (fun hg2_15 => ?_)
    · refine rn ?_
      refine dv rfl rfl (by exact qv_call rfl rfl (FCall.of_fun (allSeen e.scan (.fn (.func 109) [] [.v (.pointer (some ⟨bh, 0, none⟩))]) (seenB h) [.box be 39 (evR e), .box bh 28 (histC h)] rfl (fun s hs => FCall.quiet (R := fun x => x = bv (seenB h s)) (h2 := [_]) (List.perm_append_comm (l₁ := [_])) (FCall.of_acall (fs := []) (cs := [.v (.pointer (some ⟨bh, 0, none⟩))]) (event41 s h bh))) hl))) ?_
      refine rn ?_
      refine dw 0 rfl rfl rfl rfl rfl (Nat.le_of_ble_eq_true rfl) ?_
      refine rn2 ?_
      show aops _ _ _ _ _ _ ⟨_, .box b2 39 _ :: _, _⟩
      refine rn ?_
      exact retq (.cons _ _ _ _ (.agg _ _ _ _ _ _ _ rfl inferInstance inferInstance inferInstance rfl) (.cons _ _ _ _ (.tmp _ _ rfl) .nil)) (.trans (.drop1 _ _ _) (vent_tup2 (by exact Sb.aggs (by exact ⟨.refl _, .refl _, .refl _, .refl _, .refl _, .refl _, .refl _, .refl _, .refl _, trivial⟩)) (by exact .refl _))) ⟨rfl, congrArg (fun b => AV.tup [.agg (evR ⟨0, 0, 0, 0, 0, ⟨0, 0⟩, e.p, e.scan⟩), bv b]) (by first | (simp only [mayScan, *, Bool.true_and, Bool.false_and, Bool.and_false, Bool.and_true, Bool.true_or, Bool.or_false, Bool.false_or, Bool.or_true, if_true, if_false, Bool.false_eq_true, Bool.not_true, Bool.not_false]; done) | (simp_all [mayScan]; done) | (simp_all [mayScan] <;> omega))⟩
    · refine rn ?_
      refine dw 0 rfl rfl rfl rfl rfl (Nat.le_of_ble_eq_true rfl) ?_
      refine rn2 ?_
      show aops _ _ _ _ _ _ ⟨_, .box b2 39 _ :: _, _⟩
      refine rn ?_
      exact retq (.cons _ _ _ _ (.agg _ _ _ _ _ _ _ rfl inferInstance inferInstance inferInstance rfl) (.cons _ _ _ _ (.tmp _ _ rfl) .nil)) (.trans (.drop1 _ _ _) (vent_tup2 (by exact Sb.aggs (by exact ⟨.refl _, .refl _, .refl _, .refl _, .refl _, .refl _, .refl _, .refl _, .refl _, trivial⟩)) (by exact .refl _))) ⟨rfl, congrArg (fun b => AV.tup [.agg (evR ⟨0, 0, 0, 0, 0, ⟨0, 0⟩, e.p, e.scan⟩), bv b]) (by first | (simp only [mayScan, *, Bool.true_and, Bool.false_and, Bool.and_false, Bool.and_true, Bool.true_or, Bool.or_false, Bool.false_or, Bool.or_true, if_true, if_false, Bool.false_eq_true, Bool.not_true, Bool.not_false]; done) | (simp_all [mayScan]; done) | (simp_all [mayScan] <;> omega))⟩
  · refine rn ?_
    refine dw 0 rfl rfl rfl rfl rfl (Nat.le_of_ble_eq_true rfl) ?_
    refine rn2 ?_
    show aops _ _ _ _ _ _ ⟨_, .box b2 39 _ :: _, _⟩
    refine rn ?_
    exact retq (.cons _ _ _ _ (.agg _ _ _ _ _ _ _ rfl inferInstance inferInstance inferInstance rfl) (.cons _ _ _ _ (.tmp _ _ rfl) .nil)) (.trans (.drop1 _ _ _) (vent_tup2 (by exact Sb.aggs (by exact ⟨.refl _, .refl _, .refl _, .refl _, .refl _, .refl _, .refl _, .refl _, .refl _, trivial⟩)) (by exact .refl _))) ⟨rfl, congrArg (fun b => AV.tup [.agg (evR ⟨0, 0, 0, 0, 0, ⟨0, 0⟩, e.p, e.scan⟩), bv b]) (by first | (simp only [mayScan, *, Bool.true_and, Bool.false_and, Bool.and_false, Bool.and_true, Bool.true_or, Bool.or_false, Bool.false_or, Bool.or_true, if_true, if_false, Bool.false_eq_true, Bool.not_true, Bool.not_false]; done) | (simp_all [mayScan]; done) | (simp_all [mayScan] <;> omega))⟩
theorem event5  : ACall Tryz.prog 111 [] [] (fun r h' => h' = [] ∧ r = .tup [.agg (evR ⟨0, 0, 0, 0, 0, ⟨0, 0⟩, 0, []⟩), bv true]) := by
  refine acall_of_aw Tryz.func111 rfl rfl rfl ?_
  refine rn ?_
  refine aops_e rfl (oe_alloc rfl fun b0 => ?_)
  refine rn ?_
  exact retq (.cons _ _ _ _ (.agg _ _ _ _ _ _ _ rfl inferInstance inferInstance inferInstance rfl) (.cons _ _ _ _ (.tmp _ _ rfl) .nil)) (.trans (.drop1 _ _ _) (vent_tup2 (by exact Sb.aggs (by exact ⟨.refl _, .refl _, .refl _, .refl _, .refl _, .refl _, .refl _, .refl _, .nil _ _, trivial⟩)) (by exact .refl _))) ⟨rfl, congrArg (fun b => AV.tup [.agg (evR ⟨0, 0, 0, 0, 0, ⟨0, 0⟩, 0, []⟩), bv b]) (by rfl)⟩
theorem event6  : ACall Tryz.prog 112 [] [] (fun r h' => h' = [] ∧ r = .tup [.agg (evR ⟨0, 0, 0, 0, 0, ⟨0, 0⟩, 0, []⟩), bv true]) := by
  refine acall_of_aw Tryz.func112 rfl rfl rfl ?_
  refine rn ?_
  refine aops_e rfl (oe_alloc rfl fun b0 => ?_)
  refine rn ?_
  exact retq (.cons _ _ _ _ (.agg _ _ _ _ _ _ _ rfl inferInstance inferInstance inferInstance rfl) (.cons _ _ _ _ (.tmp _ _ rfl) .nil)) (.trans (.drop1 _ _ _) (vent_tup2 (by exact Sb.aggs (by exact ⟨.refl _, .refl _, .refl _, .refl _, .refl _, .refl _, .refl _, .refl _, .nil _ _, trivial⟩)) (by exact .refl _))) ⟨rfl, congrArg (fun b => AV.tup [.agg (evR ⟨0, 0, 0, 0, 0, ⟨0, 0⟩, 0, []⟩), bv b]) (by rfl)⟩
end Go.Proofs
/- The walk of history.event. Conditions: none. -/
set_option linter.unusedVariables false
set_option linter.unusedSimpArgs false
set_option maxRecDepth 10000
namespace Go.Proofs
open Go Go.Ab
attribute [local irreducible] QR QV OE aops aw dsoup dsoupM dalloc dallocM thn inBlk
open Go.H
theorem eventTab (h : Hist) (e : Ev) (b2 b3 k : Nat) (hl : e.scan.length ≤ 4611686018427387904) (hk : e.kind = k) (h1 : 1 ≤ k) (h7 : k < 7) :
    ∃ av, (([.v .nilFunc, .fn (.func 103) [] [.v (.pointer (some ⟨b3, 0, none⟩)), .v (.pointer (some ⟨b2, 0, none⟩))], .fn (.func 105) [] [.v (.pointer (some ⟨b3, 0, none⟩)), .v (.pointer (some ⟨b2, 0, none⟩))], .fn (.func 107) [] [.v (.pointer (some ⟨b3, 0, none⟩)), .v (.pointer (some ⟨b2, 0, none⟩))], .fn (.func 108) [] [.v (.pointer (some ⟨b2, 0, none⟩)), .v (.pointer (some ⟨b3, 0, none⟩))], .fn (.func 111) [] [], .fn (.func 112) [] []]) : List AV)[k * 1]? = some av ∧ FCall Tryz.prog av [] [.box b3 39 (evR e), .box b2 28 (histC h)] (fun r h' => h' = [.box b3 39 (evR e), .box b2 28 (histC h)] ∧ r = .tup [.agg (evR (cand h e).1), bv (cand h e).2]) := by
  rcases (by omega : k = 1 ∨ k = 2 ∨ k = 3 ∨ k = 4 ∨ k = 5 ∨ k = 6) with rfl | rfl | rfl | rfl | rfl | rfl
  · refine ⟨_, rfl, ?_⟩
    have hc : cand h e = (⟨0, 0, e.s, e.l, 0, ⟨0, 0⟩, 0, []⟩, mayBegin h e) := by unfold cand; rw [hk]; rfl
    rw [hc]
    exact FCall.of_acall (fs := []) (cs := [.v (.pointer (some ⟨b3, 0, none⟩)), .v (.pointer (some ⟨b2, 0, none⟩))]) (event1 e h b3 b2)
  · refine ⟨_, rfl, ?_⟩
    have hc : cand h e = (⟨0, 0, 0, 0, e.o, e.v, 0, []⟩, mayWrite h e) := by unfold cand; rw [hk]; rfl
    rw [hc]
    exact FCall.of_acall (fs := []) (cs := [.v (.pointer (some ⟨b3, 0, none⟩)), .v (.pointer (some ⟨b2, 0, none⟩))]) (event2 e h b3 b2)
  · refine ⟨_, rfl, ?_⟩
    have hc : cand h e = (⟨0, 0, 0, 0, e.o, e.v, 0, []⟩, mayRead h e) := by unfold cand; rw [hk]; rfl
    rw [hc]
    exact FCall.of_acall (fs := []) (cs := [.v (.pointer (some ⟨b3, 0, none⟩)), .v (.pointer (some ⟨b2, 0, none⟩))]) (event3 e h b3 b2)
  · refine ⟨_, rfl, ?_⟩
    have hc : cand h e = (⟨0, 0, 0, 0, 0, ⟨0, 0⟩, e.p, e.scan⟩, mayScan h e) := by unfold cand; rw [hk]; rfl
    rw [hc]
    exact FCall.of_acall (fs := []) (cs := [.v (.pointer (some ⟨b2, 0, none⟩)), .v (.pointer (some ⟨b3, 0, none⟩))]) (event4 e h b3 b2 hl)
  · refine ⟨_, rfl, ?_⟩
    have hc : cand h e = (⟨0, 0, 0, 0, 0, ⟨0, 0⟩, 0, []⟩, true) := by unfold cand; rw [hk]; rfl
    rw [hc]
    exact FCall.pure (R := fun x => x = _) (FCall.of_acall (fs := []) (cs := []) event5)
  · refine ⟨_, rfl, ?_⟩
    have hc : cand h e = (⟨0, 0, 0, 0, 0, ⟨0, 0⟩, 0, []⟩, true) := by unfold cand; rw [hk]; rfl
    rw [hc]
    exact FCall.pure (R := fun x => x = _) (FCall.of_acall (fs := []) (cs := []) event6)
theorem event (h : Hist) (e : Ev) (hl : e.scan.length ≤ 4611686018427387904) : ACall Tryz.prog 67 [.agg (histC h), .agg (evR e)] [] (fun r h' => h' = [] ∧ r = bv (eventB h e)) := by
  refine acall_of_aw Tryz.func67 rfl rfl rfl ?_
  refine rn ?_
  refine aops_e rfl (oe_box rfl rfl rfl fun b2 => ?_)
  refine aops_e rfl (oe_box rfl rfl rfl fun b3 => ?_)
  refine rn ?_
  refine aops_e rfl (oe_alloc rfl fun b5 => ?_)
  refine rn ?_
  refine asplit (fun hg2_3 => ?_) (fun hg2_3 => ?_)
  · refine rn ?_
    refine aw_ct rfl ?_
    refine rn ?_
    exact retq (.cons _ _ _ _ (.tmp _ _ rfl) .nil) (.drop [_, _, _] _ _) ⟨rfl, congrArg bv (by first | (simp only [eventB, *, Bool.true_and, Bool.false_and, Bool.and_false, Bool.and_true, Bool.true_or, Bool.or_false, Bool.false_or, Bool.or_true, if_true, if_false, Bool.false_eq_true, Bool.not_true, Bool.not_false]; done) | (simp_all [eventB]; done) | (simp_all [eventB] <;> omega))⟩
  · refine rn ?_
    refine asplit (fun hg2_8 => ?_) (fun hg2_8 => ?_)
    · refine rn ?_
      refine aw_ct rfl ?_
      refine rn ?_
      exact retq (.cons _ _ _ _ (.tmp _ _ rfl) .nil) (.drop [_, _, _] _ _) ⟨rfl, congrArg bv (by first | (simp only [eventB, *, Bool.true_and, Bool.false_and, Bool.and_false, Bool.and_true, Bool.true_or, Bool.or_false, Bool.false_or, Bool.or_true, if_true, if_false, Bool.false_eq_true, Bool.not_true, Bool.not_false]; done) | (simp_all [eventB]; done) | (simp_all [eventB] <;> omega))⟩
    · refine rn ?_
      refine qv rfl rfl (qv_call rfl rfl (pcall (told h 0 e.t _ rfl (by decide)) (Sbs.refl _))) ?_
      refine rn ?_
      refine aw_cond rfl (fun hc27 => ?_) (fun hc27 => ?_)
      · refine rn ?_
        exact retq (.cons _ _ _ _ (.tmp _ _ rfl) .nil) (.drop [_, _, _] _ _) ⟨rfl, congrArg bv (by first | (simp only [eventB, *, Bool.true_and, Bool.false_and, Bool.and_false, Bool.and_true, Bool.true_or, Bool.or_false, Bool.false_or, Bool.or_true, if_true, if_false, Bool.false_eq_true, Bool.not_true, Bool.not_false]; done) | (simp_all [eventB]; done) | (simp_all [eventB] <;> omega))⟩
      · have hlo : 1 ≤ e.kind := by simpa using hg2_3
        have hhi : e.kind < 7 := by simpa using hg2_8
        obtain ⟨k, hk⟩ := Int.eq_ofNat_of_zero_le (show 0 ≤ e.kind by omega)
        obtain ⟨av, hav, hfc⟩ := eventTab h e b2 b3 k hl hk (by omega) (by omega)
        refine aw_skip ?_
        refine thn_n ?_
        refine aw_seq (aw_region ?_)
        refine q1 ?_
        refine q1 ?_
        refine qq rfl rfl (qr_indexAddr_arr rfl (by rw [← hk]; rfl) (by omega)) ?_
        refine qq rfl rfl (qr_load_one rfl (by simpa using hav)) ?_
        refine qv rfl rfl (qv_call rfl rfl (FCall.quiet (R := fun x => x = _) (h2 := [_]) (List.perm_append_comm (l₁ := [_])) hfc)) ?_
        refine rn ?_
        refine aops_e rfl (oe_alloc rfl fun b6 => ?_)
        refine rn ?_
        refine aw_drawS 6 [(b6, 39, _)] rfl (List.perm_append_comm (l₁ := [_])) ?_
        refine rn ?_
        refine dw 0 rfl rfl rfl rfl rfl (Nat.le_of_ble_eq_true rfl) ?_
        refine rn2 ?_
        show aops _ _ _ _ _ _ ⟨_, [.box b6 39 _, .box b5 _ _, .box b3 39 (evR e), .box b2 28 (histC h)], _⟩
        refine rn ?_
        refine asplit (fun hg6_1 => ?_) (fun hg6_1 => ?_)
        · refine rn ?_
          refine qv rfl rfl (qv_call rfl rfl (pcall (sameEvent { (cand h e).1 with kind := e.kind, t := e.t } e (cand_scan h e hl) hl) (by exact Sbs.refl _))) ?_
          refine rn ?_
          exact retq (.cons _ _ _ _ (.tmp _ _ rfl) .nil) (.drop [_, _, _, _] _ _) ⟨rfl, congrArg bv (by first | (simp only [eventB, *, Bool.true_and, Bool.false_and, Bool.and_false, Bool.and_true, Bool.true_or, Bool.or_false, Bool.false_or, Bool.or_true, if_true, if_false, Bool.false_eq_true, Bool.not_true, Bool.not_false]; done) | (simp_all [eventB]; done) | (simp_all [eventB] <;> omega))⟩
        · refine rn ?_
          exact retq (.cons _ _ _ _ (.tmp _ _ rfl) .nil) (.drop [_, _, _, _] _ _) ⟨rfl, congrArg bv (by first | (simp only [eventB, *, Bool.true_and, Bool.false_and, Bool.and_false, Bool.and_true, Bool.true_or, Bool.or_false, Bool.false_or, Bool.or_true, if_true, if_false, Bool.false_eq_true, Bool.not_true, Bool.not_false]; done) | (simp_all [eventB]; done) | (simp_all [eventB] <;> omega))⟩
end Go.Proofs
/- The walks of the closures of history.shaped. Conditions: none. -/
set_option linter.unusedVariables false
set_option linter.unusedSimpArgs false
set_option maxRecDepth 10000
namespace Go.Proofs
open Go Go.Ab
attribute [local irreducible] QR QV OE aops aw dsoup dsoupM dalloc dallocM thn inBlk
open Go.H
theorem shaped11 (h : Hist) (b : Nat) (t : Int) : ACall Tryz.prog 63 [iv t, .v (.pointer (some ⟨b, 0, none⟩))] [.box b 28 (histC h)] (fun r h' => h' = [.box b 28 (histC h)] ∧ r = bv (toldB h.ts t)) := by
  refine acall_of_aw Tryz.func63 rfl rfl rfl ?_
  refine rn ?_
  refine qv rfl rfl (qv_call rfl rfl (pcall (told h 0 _ _ rfl (by decide)) (Sbs.refl _))) ?_
  refine rn ?_
  exact retq (.cons _ _ _ _ (.tmp _ _ rfl) .nil) (.refl _ _) ⟨rfl, congrArg bv (by rfl)⟩
theorem shaped1 {full : Bool} (h : Hist) (b : Nat) (ts : List Int) (hl : ts.length ≤ 4611686018427387904) : ACall Tryz.prog 61 [.list full 1 (ts.map intR), .v (.pointer (some ⟨b, 0, none⟩))] [.box b 28 (histC h)] (fun r h' => h' = [.box b 28 (histC h)] ∧ r = bv (tsB h ts)) := by
  refine acall_of_aw Tryz.func61 rfl rfl rfl ?_
  refine rn ?_
  refine asplit (fun hg1_3 => ?_) (fun hg1_3 => ?_)
  · refine rn ?_
    refine qv rfl rfl (qv_call rfl rfl (FCall.of_fun (allInt ts (.fn (.func 63) [] [.v (.pointer (some ⟨b, 0, none⟩))]) (toldB h.ts) [.box b 28 (histC h)] rfl (fun t _ => FCall.of_acall (fs := []) (cs := [.v (.pointer (some ⟨b, 0, none⟩))]) (shaped11 h b t)) hl))) ?_
    refine rn ?_
    exact retq (.cons _ _ _ _ (.tmp _ _ rfl) .nil) (.refl _ _) ⟨rfl, congrArg bv (by first | (simp only [tsB, *, Bool.true_and, Bool.false_and, Bool.and_false, Bool.and_true, Bool.true_or, Bool.or_false, Bool.false_or, Bool.or_true, if_true, if_false, Bool.false_eq_true, Bool.not_true, Bool.not_false]; done) | (simp_all [tsB]; done) | (simp_all [tsB] <;> omega))⟩
  · refine rn ?_
    exact retq (.cons _ _ _ _ (.tmp _ _ rfl) .nil) (.refl _ _) ⟨rfl, congrArg bv (by first | (simp only [tsB, *, Bool.true_and, Bool.false_and, Bool.and_false, Bool.and_true, Bool.true_or, Bool.or_false, Bool.false_or, Bool.or_true, if_true, if_false, Bool.false_eq_true, Bool.not_true, Bool.not_false]; done) | (simp_all [tsB]; done) | (simp_all [tsB] <;> omega))⟩
theorem shaped2 (h : Hist) (b : Nat) (e : Ev) (hl : e.scan.length ≤ 4611686018427387904) : ACall Tryz.prog 66 [.agg (evR e), .v (.pointer (some ⟨b, 0, none⟩))] [.box b 28 (histC h)] (fun r h' => h' = [.box b 28 (histC h)] ∧ r = bv (eventB h e)) := by
  refine acall_of_aw Tryz.func66 rfl rfl rfl ?_
  refine rn ?_
  refine aops_e rfl (oe_box rfl rfl rfl fun b2 => ?_)
  refine rn ?_
  refine qv rfl rfl (qv_call rfl rfl (pcall (event h e hl) (Sbs.refl _))) ?_
  refine rn ?_
  exact retq (.cons _ _ _ _ (.tmp _ _ rfl) .nil) (.drop1 _ _ _) ⟨rfl, congrArg bv (by rfl)⟩
theorem shaped3 (h : Hist) (b c : Nat) (m : H.Ord) (hl : m.ts.length ≤ 4611686018427387904) : ACall Tryz.prog 69 [.agg (ordR m), .v (.pointer (some ⟨b, 0, none⟩)), .v (.pointer (some ⟨c, 0, none⟩))] [.box b 28 (histC h), .box c 53 [.fn (.func 61) [] [.v (.pointer (some ⟨b, 0, none⟩))]]] (fun r h' => h' = [.box b 28 (histC h), .box c 53 [.fn (.func 61) [] [.v (.pointer (some ⟨b, 0, none⟩))]]] ∧ r = bv (ordB h m)) := by
  refine acall_of_aw Tryz.func69 rfl rfl rfl ?_
  refine rn ?_
  refine aops_e rfl (oe_box rfl rfl rfl fun b3 => ?_)
  refine rn ?_
  refine qv rfl rfl (qv_call rfl rfl (pcall (told h 2 _ _ rfl (by decide)) (Sbs.refl _))) ?_
  refine rn ?_
  refine asplit (fun hg1_4 => ?_) (fun hg1_4 => ?_)
  · refine rn ?_
    refine qv rfl rfl (qv_call rfl rfl (FCall.quiet (R := fun x => x = bv (tsB h m.ts)) (h2 := [_, _]) (List.Perm.swap _ _ _) (FCall.of_acall (fs := []) (cs := [.v (.pointer (some ⟨b, 0, none⟩))]) (shaped1 h b m.ts hl)))) ?_
    refine rn ?_
    exact retq (.cons _ _ _ _ (.tmp _ _ rfl) .nil) (.drop1 _ _ _) ⟨rfl, congrArg bv (by first | (simp only [ordB, *, Bool.true_and, Bool.false_and, Bool.and_false, Bool.and_true, Bool.true_or, Bool.or_false, Bool.false_or, Bool.or_true, if_true, if_false, Bool.false_eq_true, Bool.not_true, Bool.not_false]; done) | (simp_all [ordB]; done) | (simp_all [ordB] <;> omega))⟩
  · refine rn ?_
    exact retq (.cons _ _ _ _ (.tmp _ _ rfl) .nil) (.drop1 _ _ _) ⟨rfl, congrArg bv (by first | (simp only [ordB, *, Bool.true_and, Bool.false_and, Bool.and_false, Bool.and_true, Bool.true_or, Bool.or_false, Bool.false_or, Bool.or_true, if_true, if_false, Bool.false_eq_true, Bool.not_true, Bool.not_false]; done) | (simp_all [ordB]; done) | (simp_all [ordB] <;> omega))⟩
theorem shaped4 (h : Hist) (b c : Nat) (m : Mat) (hl : m.ts.length ≤ 4611686018427387904) : ACall Tryz.prog 71 [.agg (matR m), .v (.pointer (some ⟨b, 0, none⟩)), .v (.pointer (some ⟨c, 0, none⟩))] [.box b 28 (histC h), .box c 53 [.fn (.func 61) [] [.v (.pointer (some ⟨b, 0, none⟩))]]] (fun r h' => h' = [.box b 28 (histC h), .box c 53 [.fn (.func 61) [] [.v (.pointer (some ⟨b, 0, none⟩))]]] ∧ r = bv (matB h m)) := by
  refine acall_of_aw Tryz.func71 rfl rfl rfl ?_
  refine rn ?_
  refine aops_e rfl (oe_box rfl rfl rfl fun b3 => ?_)
  refine rn ?_
  refine qv rfl rfl (qv_call rfl rfl (pcall (told h 3 _ _ rfl (by decide)) (Sbs.refl _))) ?_
  refine rn ?_
  refine asplit (fun hg1_4 => ?_) (fun hg1_4 => ?_)
  · refine rn ?_
    refine qv rfl rfl (qv_call rfl rfl (pcall (told h 2 _ _ rfl (by decide)) (Sbs.refl _))) ?_
    refine rn ?_
    refine asplit (fun hg1_10 => ?_) (fun hg1_10 => ?_)
    · refine rn ?_
      refine qv rfl rfl (qv_call rfl rfl (FCall.quiet (R := fun x => x = bv (tsB h m.ts)) (h2 := [_, _]) (List.Perm.swap _ _ _) (FCall.of_acall (fs := []) (cs := [.v (.pointer (some ⟨b, 0, none⟩))]) (shaped1 h b m.ts hl)))) ?_
      refine rn ?_
      exact retq (.cons _ _ _ _ (.tmp _ _ rfl) .nil) (.drop1 _ _ _) ⟨rfl, congrArg bv (by first | (simp only [matB, *, Bool.true_and, Bool.false_and, Bool.and_false, Bool.and_true, Bool.true_or, Bool.or_false, Bool.false_or, Bool.or_true, if_true, if_false, Bool.false_eq_true, Bool.not_true, Bool.not_false]; done) | (simp_all [matB]; done) | (simp_all [matB] <;> omega))⟩
    · refine rn ?_
      exact retq (.cons _ _ _ _ (.tmp _ _ rfl) .nil) (.drop1 _ _ _) ⟨rfl, congrArg bv (by first | (simp only [matB, *, Bool.true_and, Bool.false_and, Bool.and_false, Bool.and_true, Bool.true_or, Bool.or_false, Bool.false_or, Bool.or_true, if_true, if_false, Bool.false_eq_true, Bool.not_true, Bool.not_false]; done) | (simp_all [matB]; done) | (simp_all [matB] <;> omega))⟩
  · refine rn ?_
    exact retq (.cons _ _ _ _ (.tmp _ _ rfl) .nil) (.drop1 _ _ _) ⟨rfl, congrArg bv (by first | (simp only [matB, *, Bool.true_and, Bool.false_and, Bool.and_false, Bool.and_true, Bool.true_or, Bool.or_false, Bool.false_or, Bool.or_true, if_true, if_false, Bool.false_eq_true, Bool.not_true, Bool.not_false]; done) | (simp_all [matB]; done) | (simp_all [matB] <;> omega))⟩
theorem shaped5 (h : Hist) (b : Nat) (w : Wan) : ACall Tryz.prog 73 [.agg (wanR w), .v (.pointer (some ⟨b, 0, none⟩))] [.box b 28 (histC h)] (fun r h' => h' = [.box b 28 (histC h)] ∧ r = bv (wanB h w)) := by
  refine acall_of_aw Tryz.func73 rfl rfl rfl ?_
  refine rn ?_
  refine aops_e rfl (oe_box rfl rfl rfl fun b2 => ?_)
  refine rn ?_
  refine qv rfl rfl (qv_call rfl rfl (pcall (told h 1 _ _ rfl (by decide)) (Sbs.refl _))) ?_
  refine rn ?_
  refine asplit (fun hg1_4 => ?_) (fun hg1_4 => ?_)
  · refine rn ?_
    refine asplit (fun hg1_9 => ?_) (fun hg1_9 => ?_)
    · refine rn ?_
      exact retq (.cons _ _ _ _ (.tmp _ _ rfl) .nil) (.drop1 _ _ _) ⟨rfl, congrArg bv (by first | (simp only [wanB, *, Bool.true_and, Bool.false_and, Bool.and_false, Bool.and_true, Bool.true_or, Bool.or_false, Bool.false_or, Bool.or_true, if_true, if_false, Bool.false_eq_true, Bool.not_true, Bool.not_false]; done) | (simp_all [wanB]; done) | (simp_all [wanB] <;> omega))⟩
    · refine rn ?_
      exact retq (.cons _ _ _ _ (.tmp _ _ rfl) .nil) (.drop1 _ _ _) ⟨rfl, congrArg bv (by first | (simp only [wanB, *, Bool.true_and, Bool.false_and, Bool.and_false, Bool.and_true, Bool.true_or, Bool.or_false, Bool.false_or, Bool.or_true, if_true, if_false, Bool.false_eq_true, Bool.not_true, Bool.not_false]; done) | (simp_all [wanB]; done) | (simp_all [wanB] <;> omega))⟩
  · refine rn ?_
    exact retq (.cons _ _ _ _ (.tmp _ _ rfl) .nil) (.drop1 _ _ _) ⟨rfl, congrArg bv (by first | (simp only [wanB, *, Bool.true_and, Bool.false_and, Bool.and_false, Bool.and_true, Bool.true_or, Bool.or_false, Bool.false_or, Bool.or_true, if_true, if_false, Bool.false_eq_true, Bool.not_true, Bool.not_false]; done) | (simp_all [wanB]; done) | (simp_all [wanB] <;> omega))⟩
end Go.Proofs
/- The walk of history.shaped. Conditions: none. -/
set_option linter.unusedVariables false
set_option linter.unusedSimpArgs false
set_option maxRecDepth 10000
namespace Go.Proofs
open Go Go.Ab
attribute [local irreducible] QR QV OE aops aw dsoup dsoupM dalloc dallocM thn inBlk
open Go.H
theorem shaped (h : Hist) (la : Lim 4611686018427387904 h) : ACall Tryz.prog 31 [.agg (histC h)] [.glob 0 68 limitsC, .glob 1 168 firstC, .glob 2 171 acceptC] (fun r h' => h' = [.glob 0 68 limitsC, .glob 1 168 firstC, .glob 2 171 acceptC] ∧ r = bv (shapedB h)) := by
  refine acall_of_aw Tryz.func31 rfl rfl rfl ?_
  refine rn ?_
  refine aops_e rfl (oe_box rfl rfl rfl fun b1 => ?_)
  refine rn ?_
  refine aw_scope ?_
  refine aw_cut (⟨[(1, .v (.pointer (some ⟨b1, 0, none⟩))), (3, bv (okK h 0))], .box b1 28 (histC h) :: [.glob 0 68 limitsC, .glob 1 168 firstC, .glob 2 171 acceptC], []⟩) ?_ ?_
  · refine rn ?_
    refine asplit (fun hg1_4 => ?_) (fun hg1_4 => ?_)
    · refine rn ?_
      rw [show okK h 0 = _ from sizes_eq h, hg1_4]
      exact (ent_sub (.cons _ _ _ rfl (.cons _ _ _ rfl (.nil))))
    · refine rn ?_
      rw [show okK h 0 = _ from sizes_eq h, hg1_4]
      exact (ent_sub (.cons _ _ _ rfl (.cons _ _ _ rfl (.nil))))
  · refine aw_seq ?_
    refine aw_label ?_
    refine rn0 ?_
    refine aw_cut (⟨[(3, bv (okK h 4)), (1, .v (.pointer (some ⟨b1, 0, none⟩)))], .box b1 28 (histC h) :: [.glob 0 68 limitsC, .glob 1 168 firstC, .glob 2 171 acceptC], []⟩) ?_ ?_
    · refine rn ?_
      refine qv rfl rfl (qv_call rfl rfl (pcall (names _) (Sbs.refl _))) ?_
      refine rn ?_
      refine aw_loop' (fun k : Nat => k ≤ 4) (fun k => ⟨[(29, iv k), (28, .agg (namesC h)), (1, .v (.pointer (some ⟨b1, 0, none⟩))), (3, bv (okK h k))], .box b1 28 (histC h) :: [.glob 0 68 limitsC, .glob 1 168 firstC, .glob 2 171 acceptC], []⟩) (fun k => 4 - k) 0 (by omega)
        (ent_sub (.cons _ _ _ rfl (.cons _ _ _ rfl (.cons _ _ _ rfl (.cons _ _ _ rfl (.nil)))))) ?_
      rintro k hk
      refine rn ?_
      refine aw_cond rfl (fun hc30 => ?_) (fun hc30 => ?_)
      · have hk4 : k < 4 := by simp at hc30; omega
        refine aw_skip ?_
        refine thn_n ?_
        refine aw_seq ?_
        refine aw_block ?_
        refine aw_seq (aw_region ?_)
        refine q1 ?_
        refine qq rfl rfl (qr_index_arr_one rfl rfl (by omega) (by have := nmK_get h hk4; simpa using this)) ?_
        refine rn ?_
        refine aops_e rfl (oe_makeMap (enc := strK) rfl fun b33 => ?_)
        refine rn0 ?_
        refine aw_cut (⟨[(5, strsA (nmK h k)), (3, bv (okj h k 0)), (6, .v (.map (some b33))), (29, iv k), (28, .agg (namesC h)), (1, .v (.pointer (some ⟨b1, 0, none⟩)))], .map b33 (encM strK []) :: .box b1 28 (histC h) :: [.glob 0 68 limitsC, .glob 1 168 firstC, .glob 2 171 acceptC], []⟩) ?_ ?_
        · refine rn ?_
          refine asplit (fun hg6_1 => ?_) (fun hg6_1 => ?_)
          · refine q1 ?_
            refine q1 ?_
            refine q1 ?_
            refine qq rfl rfl (qr_indexAddr_arr rfl rfl (by omega)) ?_
            refine qq rfl rfl (qr_load_one rfl (limitsC_get hk4)) ?_
            refine rn ?_
            rw [okj_eq h k, hg6_1]
            first | exact (ent_sub (.cons _ _ _ rfl (.cons _ _ _ rfl (.cons _ _ _ rfl (.cons _ _ _ rfl (.cons _ _ _ rfl (.cons _ _ _ rfl (.nil)))))))) | (rw [Bool.true_and]; exact (ent_sub (.cons _ _ _ rfl (.cons _ _ _ rfl (.cons _ _ _ rfl (.cons _ _ _ rfl (.cons _ _ _ rfl (.cons _ _ _ rfl (.nil)))))))))
          · refine rn ?_
            rw [okj_eq h k, hg6_1]
            first | exact (ent_sub (.cons _ _ _ rfl (.cons _ _ _ rfl (.cons _ _ _ rfl (.cons _ _ _ rfl (.cons _ _ _ rfl (.cons _ _ _ rfl (.nil)))))))) | (rw [Bool.true_and]; exact (ent_sub (.cons _ _ _ rfl (.cons _ _ _ rfl (.cons _ _ _ rfl (.cons _ _ _ rfl (.cons _ _ _ rfl (.cons _ _ _ rfl (.nil)))))))))
        · refine rn ?_
          refine aw_loop' (fun j : Nat => j ≤ (nmK h k).length ∧ (0 < j → okj h k 0 = true) ∧ freshB [] (nmK h k) = freshB ((nmK h k).take j) ((nmK h k).drop j)) (fun j => ⟨[(45, iv j), (43, strsA (nmK h k)), (44, iv ((nmK h k).map strR).length), (3, bv (okj h k 0)), (6, .v (.map (some b33))), (29, iv k), (28, .agg (namesC h)), (1, .v (.pointer (some ⟨b1, 0, none⟩)))], .map b33 (encM strK (metM ((nmK h k).take j))) :: .box b1 28 (histC h) :: [.glob 0 68 limitsC, .glob 1 168 firstC, .glob 2 171 acceptC], []⟩) (fun j => (nmK h k).length - j) 0 ⟨by omega, by omega, by simp⟩
            (ent_sub (.cons _ _ _ rfl (.cons _ _ _ rfl (.cons _ _ _ rfl (.cons _ _ _ rfl (.cons _ _ _ rfl (.cons _ _ _ rfl (.cons _ _ _ rfl (.cons _ _ _ rfl (.nil)))))))))) ?_
          rintro j ⟨hj, hok, hf⟩
          have hlk := la.nm k
          refine rn ?_
          refine aw_cond rfl (fun hc46 => ?_) (fun hc46 => ?_)
          · have hj2 : j < (nmK h k).length := by simpa using hc46
            have hrow : (strsA (nmK h k)) = .list false 1 ((nmK h k).map strR) := rfl
            have hrow2 : ((nmK h k).map strR)[j]? = some (strR (nmK h k)[j]) := by simp [hj2]
            have hd := List.drop_eq_getElem_cons hj2
            refine aw_skip ?_
            refine rn0 ?_
            refine aw_seq ?_
            refine aw_block ?_
            refine aw_seq (aw_region ?_)
            refine rn0 ?_
            refine aw_seq ?_
            refine aw_cut (⟨[(3, bv (okj h k 0 && wordB (nmK h k)[j] && !memB (nmK h k)[j] ((nmK h k).take j))), (8, sv (nmK h k)[j]), (45, iv j), (43, strsA (nmK h k)), (44, iv ((nmK h k).map strR).length), (6, .v (.map (some b33))), (29, iv k), (28, .agg (namesC h)), (1, .v (.pointer (some ⟨b1, 0, none⟩)))], .map b33 (encM strK (metM ((nmK h k).take j))) :: .box b1 28 (histC h) :: [.glob 0 68 limitsC, .glob 1 168 firstC, .glob 2 171 acceptC], []⟩) ?_ ?_
            · refine rn ?_
              refine asplit (fun hg10_1 => ?_) (fun hg10_1 => ?_)
              · refine rn ?_
                refine qv rfl rfl (qv_call rfl rfl (FCall.qt (FCall.of_fun (word ((nmK h k)[j]))) ((pt3 _ _ _ _ _).trans (.cons _ (pt3 _ _ _ _ _))))) ?_
                refine rn ?_
                refine asplit (fun hg10_5 => ?_) (fun hg10_5 => ?_)
                · refine rn ?_
                  refine qq rfl rfl (qr_lookup (enc := strK) (k := (nmK h k)[j]) rfl rfl (lookM_metD _ _)) ?_
                  refine rn ?_
                  first | (rw [hg10_1, hg10_5]; exact (ent_sub (.cons _ _ _ rfl (.cons _ _ _ rfl (.cons _ _ _ rfl (.cons _ _ _ rfl (.cons _ _ _ rfl (.cons _ _ _ rfl (.cons _ _ _ rfl (.cons _ _ _ rfl (.cons _ _ _ rfl (.nil)))))))))))) | (rw [hg10_1]; exact (ent_sub (.cons _ _ _ rfl (.cons _ _ _ rfl (.cons _ _ _ rfl (.cons _ _ _ rfl (.cons _ _ _ rfl (.cons _ _ _ rfl (.cons _ _ _ rfl (.cons _ _ _ rfl (.cons _ _ _ rfl (.nil))))))))))))
                · refine rn ?_
                  first | (rw [hg10_1, hg10_5]; exact (ent_sub (.cons _ _ _ rfl (.cons _ _ _ rfl (.cons _ _ _ rfl (.cons _ _ _ rfl (.cons _ _ _ rfl (.cons _ _ _ rfl (.cons _ _ _ rfl (.cons _ _ _ rfl (.cons _ _ _ rfl (.nil)))))))))))) | (rw [hg10_1]; exact (ent_sub (.cons _ _ _ rfl (.cons _ _ _ rfl (.cons _ _ _ rfl (.cons _ _ _ rfl (.cons _ _ _ rfl (.cons _ _ _ rfl (.cons _ _ _ rfl (.cons _ _ _ rfl (.cons _ _ _ rfl (.nil))))))))))))
              · refine rn ?_
                first | (rw [hg10_1, hg10_5]; exact (ent_sub (.cons _ _ _ rfl (.cons _ _ _ rfl (.cons _ _ _ rfl (.cons _ _ _ rfl (.cons _ _ _ rfl (.cons _ _ _ rfl (.cons _ _ _ rfl (.cons _ _ _ rfl (.cons _ _ _ rfl (.nil)))))))))))) | (rw [hg10_1]; exact (ent_sub (.cons _ _ _ rfl (.cons _ _ _ rfl (.cons _ _ _ rfl (.cons _ _ _ rfl (.cons _ _ _ rfl (.cons _ _ _ rfl (.cons _ _ _ rfl (.cons _ _ _ rfl (.cons _ _ _ rfl (.nil))))))))))))
            · refine rn ?_
              refine aw_cond rfl (fun hc61 => ?_) (fun hc61 => ?_)
              · have hfl : (okj h k 0 && wordB (nmK h k)[j] && !memB (nmK h k)[j] ((nmK h k).take j)) = false := not_t hc61
                have hbad : okK h 4 = false := ok_bad hk4 (ok_or (hf.trans (by rw [hd])) hfl)
                refine rn ?_
                first
                  | exact (ent_sub (.cons _ _ _ rfl (.cons _ _ _ rfl (.nil))))
                  | (rw [hbad, ← hfl]; exact (ent_trans (ent_drop (h1 := [_])) (ent_sub (.cons _ _ _ rfl (.cons _ _ _ rfl (.nil))))))
              · obtain ⟨hok2, hw, hfresh⟩ := ok_and (not_f hc61)
                refine rn ?_
                refine aops_e rfl (oe_mapUpdate (enc := strK) (k := (nmK h k)[j]) rfl rfl rfl ?_)
                refine rn ?_
                have hu := updM_met ((nmK h k)[j]) ((nmK h k).take j) (memB_f.1 hfresh)
                rw [← List.take_succ_eq_append_getElem hj2] at hu
                exact ⟨j + 1, ⟨by omega, fun _ => hok2, by rw [hf, hd, freshB, hw, List.take_succ_eq_append_getElem hj2]; simp [hfresh]⟩, by simp only [hu, hok2, hw, hfresh, Bool.true_and, Bool.not_false]; exact (ent_sub (.cons _ _ _ rfl (.cons _ _ _ rfl (.cons _ _ _ rfl (.cons _ _ _ rfl (.cons _ _ _ rfl (.cons _ _ _ rfl (.cons _ _ _ rfl (.cons _ _ _ rfl (.nil)))))))))), by omega⟩
          · have hj3 : j = (nmK h k).length := by
              have : (nmK h k).length ≤ j := by simpa using hc46
              omega
            refine rn ?_
            have hend := ok_end (h := h) (k := k) (by rw [hf, hj3, List.drop_length]; rfl)
            exact ⟨k + 1, by omega, by rw [← hend]; exact (ent_trans (ent_drop (h1 := [_])) (ent_sub (.cons _ _ _ rfl (.cons _ _ _ rfl (.cons _ _ _ rfl (.cons _ _ _ rfl (.nil))))))), by omega⟩
      · have hk4 : k = 4 := by simp at hc30; omega
        subst hk4
        refine rn ?_
        first
          | exact (ent_sub (.cons _ _ _ rfl (.cons _ _ _ rfl (.nil))))
          | (rw [hbad, ← hfl]; exact (ent_trans (ent_drop (h1 := [_])) (ent_sub (.cons _ _ _ rfl (.cons _ _ _ rfl (.nil))))))
    · refine rn ?_
      refine aops_e rfl (oe_alloc rfl fun b9 => ?_)
      refine rn ?_
      refine asplit (fun hg16_1 => ?_) (fun hg16_1 => ?_)
      · refine rn ?_
        refine qv rfl rfl (qv_call rfl rfl (FCall.of_fun (allEv h.evs (.fn (.func 66) [] [.v (.pointer (some ⟨b1, 0, none⟩))]) (eventB h) (.box b9 53 [.fn (.func 61) [] [.v (.pointer (some ⟨b1, 0, none⟩))]] :: .box b1 28 (histC h) :: [.glob 0 68 limitsC, .glob 1 168 firstC, .glob 2 171 acceptC]) rfl (fun e he => FCall.qt (FCall.of_acall (fs := []) (cs := [.v (.pointer (some ⟨b1, 0, none⟩))]) (shaped2 h b1 e (la.scans e he))) (pt1 _ _ _)) la.evs))) ?_
        refine rn ?_
        refine asplit (fun hg16_7 => ?_) (fun hg16_7 => ?_)
        · refine rn ?_
          refine qv rfl rfl (qv_call rfl rfl (FCall.of_fun (allOrd h.ords (.fn (.func 69) [] [.v (.pointer (some ⟨b1, 0, none⟩)), .v (.pointer (some ⟨b9, 0, none⟩))]) (ordB h) (.box b9 53 [.fn (.func 61) [] [.v (.pointer (some ⟨b1, 0, none⟩))]] :: .box b1 28 (histC h) :: [.glob 0 68 limitsC, .glob 1 168 firstC, .glob 2 171 acceptC]) rfl (fun e he => FCall.qt (FCall.of_acall (fs := []) (cs := [.v (.pointer (some ⟨b1, 0, none⟩)), .v (.pointer (some ⟨b9, 0, none⟩))]) (shaped3 h b1 b9 e (la.ordts e he))) (pt1 _ _ _)) la.ords))) ?_
          refine rn ?_
          refine asplit (fun hg16_13 => ?_) (fun hg16_13 => ?_)
          · refine rn ?_
            refine qv rfl rfl (qv_call rfl rfl (FCall.of_fun (allMat h.mats (.fn (.func 71) [] [.v (.pointer (some ⟨b1, 0, none⟩)), .v (.pointer (some ⟨b9, 0, none⟩))]) (matB h) (.box b9 53 [.fn (.func 61) [] [.v (.pointer (some ⟨b1, 0, none⟩))]] :: .box b1 28 (histC h) :: [.glob 0 68 limitsC, .glob 1 168 firstC, .glob 2 171 acceptC]) rfl (fun e he => FCall.qt (FCall.of_acall (fs := []) (cs := [.v (.pointer (some ⟨b1, 0, none⟩)), .v (.pointer (some ⟨b9, 0, none⟩))]) (shaped4 h b1 b9 e (la.matts e he))) (pt1 _ _ _)) la.mats))) ?_
            refine rn ?_
            refine asplit (fun hg16_19 => ?_) (fun hg16_19 => ?_)
            · refine rn ?_
              refine qv rfl rfl (qv_call rfl rfl (FCall.of_fun (allWan h.wants (.fn (.func 73) [] [.v (.pointer (some ⟨b1, 0, none⟩))]) (wanB h) (.box b9 53 [.fn (.func 61) [] [.v (.pointer (some ⟨b1, 0, none⟩))]] :: .box b1 28 (histC h) :: [.glob 0 68 limitsC, .glob 1 168 firstC, .glob 2 171 acceptC]) rfl (fun e he => FCall.qt (FCall.of_acall (fs := []) (cs := [.v (.pointer (some ⟨b1, 0, none⟩))]) (shaped5 h b1 e)) (pt1 _ _ _)) la.wants))) ?_
              refine rn ?_
              refine ⟨fun l h => (by cases h), ?_⟩
              exact retq (.cons _ _ _ _ (.tmp _ _ rfl) .nil) (.drop [_, _] _ _) ⟨rfl, congrArg bv (by first | (simp only [shapedB, *, Bool.true_and, Bool.false_and, Bool.and_false, Bool.and_true, Bool.true_or, Bool.or_false, Bool.false_or, Bool.or_true, if_true, if_false, Bool.false_eq_true, Bool.not_true, Bool.not_false]; done) | (simp_all [shapedB]; done))⟩
            · refine rn ?_
              refine ⟨fun l h => (by cases h), ?_⟩
              exact retq (.cons _ _ _ _ (.tmp _ _ rfl) .nil) (.drop [_, _] _ _) ⟨rfl, congrArg bv (by first | (simp only [shapedB, *, Bool.true_and, Bool.false_and, Bool.and_false, Bool.and_true, Bool.true_or, Bool.or_false, Bool.false_or, Bool.or_true, if_true, if_false, Bool.false_eq_true, Bool.not_true, Bool.not_false]; done) | (simp_all [shapedB]; done))⟩
          · refine rn ?_
            refine ⟨fun l h => (by cases h), ?_⟩
            exact retq (.cons _ _ _ _ (.tmp _ _ rfl) .nil) (.drop [_, _] _ _) ⟨rfl, congrArg bv (by first | (simp only [shapedB, *, Bool.true_and, Bool.false_and, Bool.and_false, Bool.and_true, Bool.true_or, Bool.or_false, Bool.false_or, Bool.or_true, if_true, if_false, Bool.false_eq_true, Bool.not_true, Bool.not_false]; done) | (simp_all [shapedB]; done))⟩
        · refine rn ?_
          refine ⟨fun l h => (by cases h), ?_⟩
          exact retq (.cons _ _ _ _ (.tmp _ _ rfl) .nil) (.drop [_, _] _ _) ⟨rfl, congrArg bv (by first | (simp only [shapedB, *, Bool.true_and, Bool.false_and, Bool.and_false, Bool.and_true, Bool.true_or, Bool.or_false, Bool.false_or, Bool.or_true, if_true, if_false, Bool.false_eq_true, Bool.not_true, Bool.not_false]; done) | (simp_all [shapedB]; done))⟩
      · refine rn ?_
        refine ⟨fun l h => (by cases h), ?_⟩
        exact retq (.cons _ _ _ _ (.tmp _ _ rfl) .nil) (.drop [_, _] _ _) ⟨rfl, congrArg bv (by first | (simp only [shapedB, *, Bool.true_and, Bool.false_and, Bool.and_false, Bool.and_true, Bool.true_or, Bool.or_false, Bool.false_or, Bool.or_true, if_true, if_false, Bool.false_eq_true, Bool.not_true, Bool.not_false]; done) | (simp_all [shapedB]; done))⟩
end Go.Proofs
/- The walk of history.spoken, reading. Conditions: none. -/
set_option linter.unusedVariables false
set_option linter.unusedSimpArgs false
set_option maxRecDepth 10000
namespace Go.Proofs
open Go Go.Ab
attribute [local irreducible] QR QV OE aops aw dsoup dsoupM dalloc dallocM thn inBlk
open Go.H
theorem sayR {σ : Type} (step : σ → Nat × Int → Option σ) (ok : Nat × Int → Prop) (IJ : Option σ → List Res → Prop) (y : AV) (hy : ∀ (s : σ) (L : List Res) (sort : Nat) (n : Int) (cells : List AV), ok (sort, n) → IJ (some s) L → FCall Tryz.prog y [iv sort, .pp (iv n :: cells)] L (fun r h' => r = bv (step s (sort, n)).isSome ∧ IJ (step s (sort, n)) h')) (sort : Nat) (n : Int) (hs : ok (sort, n)) (cells : List AV) (bm by_ : Nat) (st : Option σ) (L : List Res) (hI : IJ st L) : ACall Tryz.prog 75 [iv sort, .pp (iv n :: cells), .v (.pointer (some ⟨bm, 0, none⟩)), .v (.pointer (some ⟨by_, 0, none⟩))] (.box bm 4 [bv (st).isSome] :: .box by_ 114 [y] :: L) (fun r h' => ∃ L', IJ (goes step st [(sort, n)]) L' ∧ h' = .box bm 4 [bv (goes step st [(sort, n)]).isSome] :: .box by_ 114 [y] :: L') := by
  refine acall_of_aw Tryz.func75 rfl rfl rfl ?_
  refine rn ?_
  refine asplit (fun hg0_1 => ?_) (fun hg0_1 => ?_)
  · refine rn ?_
    obtain ⟨s, rfl⟩ := Option.isSome_iff_exists.1 hg0_1
    refine aops_e rfl (oe_call rfl rfl (FCall.fr2 (hy s L sort n cells hs hI)) rfl ?_)
    rintro _ _ ⟨L2, rfl, rfl, hI2⟩
    refine rn ?_
    first
      | exact retq_n .nil (.refl _ _) ⟨L2, hI2, rfl⟩
      | (obtain rfl := Option.not_isSome_iff_eq_none.1 (show ¬ st.isSome = true by simp [hg0_1])
         exact retq_n .nil (.refl _ _) ⟨L, hI, rfl⟩)
  · refine rn ?_
    first
      | exact retq_n .nil (.refl _ _) ⟨L2, hI2, rfl⟩
      | (obtain rfl := Option.not_isSome_iff_eq_none.1 (show ¬ st.isSome = true by simp [hg0_1])
         exact retq_n .nil (.refl _ _) ⟨L, hI, rfl⟩)
theorem madeR {σ : Type} (step : σ → Nat × Int → Option σ) (ok : Nat × Int → Prop) (IJ : Option σ → List Res → Prop) (y : AV) (hy : ∀ (s : σ) (L : List Res) (sort : Nat) (n : Int) (cells : List AV), ok (sort, n) → IJ (some s) L → FCall Tryz.prog y [iv sort, .pp (iv n :: cells)] L (fun r h' => r = bv (step s (sort, n)).isSome ∧ IJ (step s (sort, n)) h')) (v : Ver) (hv : ∀ x ∈ madeL v, ok x) (cells : List AV) (bs bm by_ : Nat) (st : Option σ) (L : List Res) (hI : IJ st L) : ACall Tryz.prog 76 [.pp (iv v.t :: iv v.k :: cells), .v (.pointer (some ⟨bs, 0, none⟩))] (.box bs 115 [.fn (.func 75) [] [.v (.pointer (some ⟨bm, 0, none⟩)), .v (.pointer (some ⟨by_, 0, none⟩))]] :: .box bm 4 [bv (st).isSome] :: .box by_ 114 [y] :: L) (fun r h' => ∃ L', IJ (goes step st (madeL v)) L' ∧ h' = .box bs 115 [.fn (.func 75) [] [.v (.pointer (some ⟨bm, 0, none⟩)), .v (.pointer (some ⟨by_, 0, none⟩))]] :: .box bm 4 [bv (goes step st (madeL v)).isSome] :: .box by_ 114 [y] :: L') := by
  refine acall_of_aw Tryz.func76 rfl rfl rfl ?_
  refine rn ?_
  refine aw_cond rfl (fun hc7 => ?_) (fun hc7 => ?_)
  · refine aw_draw 4 rfl ?_
    refine rn ?_
    refine aops_e rfl (oe_call rfl rfl (FCall.fr1 (FCall.of_acall (fs := []) (cs := [.v (.pointer (some ⟨bm, 0, none⟩)), .v (.pointer (some ⟨by_, 0, none⟩))]) (sayR step ok IJ y hy 0 v.t (hv _ (by rw [madeL, if_pos hc7]; simp)) (iv v.k :: cells) bm by_ _ _ hI))) rfl ?_)
    rintro _ _ ⟨_, rfl, L2, hI2, rfl⟩
    refine rn ?_
    first
      | (have hm : madeL v = [(0, v.t)] := by rw [madeL, if_pos hc7]
         rw [hm]; exact retq_n .nil (.refl _ _) ⟨L2, hI2, rfl⟩)
      | (have hm : madeL v = [] := by rw [madeL, if_neg (by rw [hc7]; decide)]
         rw [hm]; exact retq_n .nil (.refl _ _) ⟨L, hI, rfl⟩)
  · refine rn ?_
    first
      | (have hm : madeL v = [(0, v.t)] := by rw [madeL, if_pos hc7]
         rw [hm]; exact retq_n .nil (.refl _ _) ⟨L2, hI2, rfl⟩)
      | (have hm : madeL v = [] := by rw [madeL, if_neg (by rw [hc7]; decide)]
         rw [hm]; exact retq_n .nil (.refl _ _) ⟨L, hI, rfl⟩)
theorem spokenR {σ : Type} (step : σ → Nat × Int → Option σ) (ok : Nat × Int → Prop) (IJ : Option σ → List Res → Prop) (y : AV) (hone : y.cellsOf = some [y]) (hy : ∀ (s : σ) (L : List Res) (sort : Nat) (n : Int) (cells : List AV), ok (sort, n) → IJ (some s) L → FCall Tryz.prog y [iv sort, .pp (iv n :: cells)] L (fun r h' => r = bv (step s (sort, n)).isSome ∧ IJ (step s (sort, n)) h')) (h : Hist) (la : Lim 4611686018427387904 h) (b1 bh : Nat) (hok : ∀ x ∈ spokenL h, ok x) (s0 : σ) (L0 : List Res) (h0 : IJ (some s0) L0) : ACall Tryz.prog 74 [y, .v (.pointer (some ⟨b1, 0, none⟩))] (.box b1 72 [.v (.pointer (some ⟨bh, 0, none⟩))] :: .box bh 28 (histC h) :: L0) (fun r h' => ∃ L', IJ (goes step (some s0) (spokenL h)) L' ∧ h' = .box b1 72 [.v (.pointer (some ⟨bh, 0, none⟩))] :: .box bh 28 (histC h) :: L') := by
  refine acall_of_aw Tryz.func74 rfl rfl rfl ?_
  refine rn ?_
  refine aops_e rfl (oe_box rfl hone rfl fun by_ => ?_)
  refine rn ?_
  refine aops_e rfl (oe_alloc rfl fun bm => ?_)
  refine rn ?_
  refine aops_e rfl (oe_alloc rfl fun bs => ?_)
  refine rn ?_
  refine aw_loop' (fun x : Nat × Option σ × List Res => x.1 ≤ h.evs.length ∧ IJ x.2.1 x.2.2 ∧ Rem step ok x.2.1 (((h.evs.drop x.1).flatMap evL) ++ (h.ords.flatMap ordL ++ (h.mats.flatMap matL ++ h.wants.flatMap wanL))) (goes step (some s0) (spokenL h))) (fun x => ⟨[(22, iv x.1), (21, iv (h.evs.map evR).length), (1, .v (.pointer (some ⟨b1, 0, none⟩))), (4, .v (.pointer (some ⟨bs, 0, none⟩))), (5, .fn (.func 76) [] [.v (.pointer (some ⟨bs, 0, none⟩))])], .box b1 72 [.v (.pointer (some ⟨bh, 0, none⟩))] :: .box bh 28 (histC h) :: .box bs 115 [.fn (.func 75) [] [.v (.pointer (some ⟨bm, 0, none⟩)), .v (.pointer (some ⟨by_, 0, none⟩))]] :: .box bm 4 [bv (x.2.1).isSome] :: .box by_ 114 [y] :: x.2.2, []⟩) (fun x => h.evs.length - x.1) (0, some s0, L0) ⟨by omega, h0, rfl, hok⟩
    (ent_trans (ent_perm ((pt3 _ _ _ _ _).trans (.cons _ (pt3 _ _ _ _ _)))) (ent_sub (.cons _ _ _ rfl (.cons _ _ _ rfl (.cons _ _ _ rfl (.cons _ _ _ rfl (.cons _ _ _ rfl (.nil)))))))) ?_
  rintro ⟨k, st, L⟩ ⟨hk, hI, hF⟩
  simp only at hk hI hF
  refine rn ?_
  refine aw_cond rfl (fun hc23 => ?_) (fun hc23 => ?_)
  · have k2 : k < h.evs.length := by simpa using hc23
    obtain ⟨e, he⟩ : ∃ e, e = h.evs[k] := ⟨_, rfl⟩
    have hrowe : (h.evs.map evR)[k]? = some (evR e) := by rw [he]; simp [k2]
    have hde := List.drop_eq_getElem_cons k2
    rw [hde, ← he] at hF
    simp only [List.flatMap_cons, evL, List.cons_append, List.append_assoc] at hF
    obtain ⟨hx, hF⟩ := hF.cons
    obtain ⟨hkx, hF⟩ := hF.app
    have hle := la.evs
    have hls := la.scans e (by rw [he]; simp)
    refine rn ?_
    refine aw_draw 4 rfl ?_
    refine rn ?_
    refine aops_e rfl (oe_call rfl rfl (FCall.fr3 (FCall.of_acall (fs := []) (cs := [.v (.pointer (some ⟨bm, 0, none⟩)), .v (.pointer (some ⟨by_, 0, none⟩))]) (sayR step ok IJ y hy 0 e.t hx _ bm by_ _ _ hI))) rfl ?_)
    rintro _ _ ⟨_, rfl, L, hI, rfl⟩
    refine rn0 ?_
    refine aw_cutE (fun L => IJ (goes step (goes step st [(0, e.t)]) (kindL e)) L) (fun L => ⟨[(7, .pp (evR e)), (22, iv k), (21, iv (h.evs.map evR).length), (1, .v (.pointer (some ⟨b1, 0, none⟩))), (4, .v (.pointer (some ⟨bs, 0, none⟩))), (5, .fn (.func 76) [] [.v (.pointer (some ⟨bs, 0, none⟩))])], .box b1 72 [.v (.pointer (some ⟨bh, 0, none⟩))] :: .box bh 28 (histC h) :: .box bs 115 [.fn (.func 75) [] [.v (.pointer (some ⟨bm, 0, none⟩)), .v (.pointer (some ⟨by_, 0, none⟩))]] :: .box bm 4 [bv (goes step (goes step st [(0, e.t)]) (kindL e)).isSome] :: .box by_ 114 [y] :: L, []⟩) ?_ ?_
    · refine rn ?_
      refine aw_cond rfl (fun hc40 => ?_) (fun hc40 => ?_)
      · have hkl := kindL_1 (e := e) (by simpa using hc40)
        refine aw_draw 4 rfl ?_
        refine rn ?_
        refine aops_e rfl (oe_call rfl rfl (FCall.fr3 (FCall.of_acall (fs := []) (cs := [.v (.pointer (some ⟨bm, 0, none⟩)), .v (.pointer (some ⟨by_, 0, none⟩))]) (sayR step ok IJ y hy 1 e.s (hkx _ (by rw [hkl]; simp)) _ bm by_ _ _ hI))) rfl ?_)
        rintro _ _ ⟨_, rfl, L, hI, rfl⟩
        refine rn ?_
        refine ⟨L, ?_, ?_⟩
        · show IJ (goes step _ (kindL e)) L
          rw [hkl]; exact hI
        · rw [hkl]; exact (ent_sub (.cons _ _ _ rfl (.cons _ _ _ rfl (.cons _ _ _ rfl (.cons _ _ _ rfl (.cons _ _ _ rfl (.cons _ _ _ rfl (.nil))))))))
      · have hn1 : e.kind ≠ 1 := by simpa using hc40
        refine rn ?_
        refine aw_cond rfl (fun hc47 => ?_) (fun hc47 => ?_)
        · have hk23 : e.kind = 2 ∨ e.kind = 3 := by simp at hc47; omega
          have hkl := kindL_2 hk23
          refine rn ?_
          refine aw_cond rfl (fun hc47 => ?_) (fun hc47 => ?_)
          · have hk23 : e.kind = 2 ∨ e.kind = 3 := by simp at hc47; omega
            have hkl := kindL_2 hk23
            refine rn ?_
            refine aw_draw 4 rfl ?_
            refine rn ?_
            refine aops_e rfl (oe_call rfl rfl (FCall.fr3 (FCall.of_acall (fs := []) (cs := [.v (.pointer (some ⟨bm, 0, none⟩)), .v (.pointer (some ⟨by_, 0, none⟩))]) (sayR step ok IJ y hy 2 e.o (hkx _ (by rw [hkl]; simp)) _ bm by_ _ _ hI))) rfl ?_)
            rintro _ _ ⟨_, rfl, L, hI, rfl⟩
            refine rn ?_
            refine aops_e rfl (oe_call rfl rfl (FCall.fr2 (FCall.of_acall (fs := []) (cs := [.v (.pointer (some ⟨bs, 0, none⟩))]) (madeR step ok IJ y hy e.v (fun x hx => hkx x (by rw [hkl]; simp [hx])) _ bs bm by_ _ _ hI))) rfl ?_)
            rintro _ _ ⟨_, rfl, L, hI, rfl⟩
            refine rn ?_
            refine ⟨L, ?_, ?_⟩
            · show IJ (goes step _ (kindL e)) L
              rw [hkl]; exact hI
            · rw [hkl]; exact (ent_sub (.cons _ _ _ rfl (.cons _ _ _ rfl (.cons _ _ _ rfl (.cons _ _ _ rfl (.cons _ _ _ rfl (.cons _ _ _ rfl (.nil))))))))
          · first | cases hc47 | exact absurd hc47 (by decide) | (exfalso; simp_all; done)
        · have hn23 := hc47
          simp at hn23
          refine rn ?_
          refine aw_cond rfl (fun hc47 => ?_) (fun hc47 => ?_)
          · have hk23 : e.kind = 2 ∨ e.kind = 3 := by simp at hc47; omega
            have hkl := kindL_2 hk23
            refine rn ?_
            refine aw_draw 4 rfl ?_
            refine rn ?_
            refine aops_e rfl (oe_call rfl rfl (FCall.fr3 (FCall.of_acall (fs := []) (cs := [.v (.pointer (some ⟨bm, 0, none⟩)), .v (.pointer (some ⟨by_, 0, none⟩))]) (sayR step ok IJ y hy 2 e.o (hkx _ (by rw [hkl]; simp)) _ bm by_ _ _ hI))) rfl ?_)
            rintro _ _ ⟨_, rfl, L, hI, rfl⟩
            refine rn ?_
            refine aops_e rfl (oe_call rfl rfl (FCall.fr2 (FCall.of_acall (fs := []) (cs := [.v (.pointer (some ⟨bs, 0, none⟩))]) (madeR step ok IJ y hy e.v (fun x hx => hkx x (by rw [hkl]; simp [hx])) _ bs bm by_ _ _ hI))) rfl ?_)
            rintro _ _ ⟨_, rfl, L, hI, rfl⟩
            refine rn ?_
            refine ⟨L, ?_, ?_⟩
            · show IJ (goes step _ (kindL e)) L
              rw [hkl]; exact hI
            · rw [hkl]; exact (ent_sub (.cons _ _ _ rfl (.cons _ _ _ rfl (.cons _ _ _ rfl (.cons _ _ _ rfl (.cons _ _ _ rfl (.cons _ _ _ rfl (.nil))))))))
          · have hn23 := hc47
            simp at hn23
            refine rn ?_
            refine aw_cond rfl (fun hc60 => ?_) (fun hc60 => ?_)
            · have hkl := kindL_4 (e := e) (by simpa using hc60)
              refine aw_draw 4 rfl ?_
              refine rn ?_
              refine aops_e rfl (oe_call rfl rfl (FCall.fr3 (FCall.of_acall (fs := []) (cs := [.v (.pointer (some ⟨bm, 0, none⟩)), .v (.pointer (some ⟨by_, 0, none⟩))]) (sayR step ok IJ y hy 3 e.p (hkx _ (by rw [hkl]; simp)) _ bm by_ _ _ hI))) rfl ?_)
              rintro _ _ ⟨_, rfl, L, hI, rfl⟩
              refine rn ?_
              refine ⟨L, ?_, ?_⟩
              · show IJ (goes step _ (kindL e)) L
                rw [hkl]; exact hI
              · rw [hkl]; exact (ent_sub (.cons _ _ _ rfl (.cons _ _ _ rfl (.cons _ _ _ rfl (.cons _ _ _ rfl (.cons _ _ _ rfl (.cons _ _ _ rfl (.nil))))))))
            · have hn4 : e.kind ≠ 4 := by simpa using hc60
              have hkl := kindL_0 (e := e) hn1 (by omega) (by omega) hn4
              refine rn ?_
              refine ⟨L, ?_, ?_⟩
              · show IJ (goes step _ (kindL e)) L
                rw [hkl]; exact hI
              · rw [hkl]; exact (ent_sub (.cons _ _ _ rfl (.cons _ _ _ rfl (.cons _ _ _ rfl (.cons _ _ _ rfl (.cons _ _ _ rfl (.cons _ _ _ rfl (.nil))))))))
    · rintro L hI
      revert hI hF
      generalize goes step (goes step st [(0, e.t)]) (kindL e) = st2
      intro hF hI
      refine rn ?_
      refine aw_loop' (fun x : Nat × Option σ × List Res => x.1 ≤ e.scan.length ∧ IJ x.2.1 x.2.2 ∧ Rem step ok x.2.1 (((e.scan.drop x.1).flatMap seenL) ++ (((h.evs.drop (k + 1)).flatMap evL) ++ (h.ords.flatMap ordL ++ (h.mats.flatMap matL ++ h.wants.flatMap wanL)))) (goes step (some s0) (spokenL h))) (fun x => ⟨[(72, iv x.1), (71, iv (e.scan.map seenR).length), (7, .pp (evR e)), (22, iv k), (21, iv (h.evs.map evR).length), (1, .v (.pointer (some ⟨b1, 0, none⟩))), (4, .v (.pointer (some ⟨bs, 0, none⟩))), (5, .fn (.func 76) [] [.v (.pointer (some ⟨bs, 0, none⟩))])], .box b1 72 [.v (.pointer (some ⟨bh, 0, none⟩))] :: .box bh 28 (histC h) :: .box bs 115 [.fn (.func 75) [] [.v (.pointer (some ⟨bm, 0, none⟩)), .v (.pointer (some ⟨by_, 0, none⟩))]] :: .box bm 4 [bv (x.2.1).isSome] :: .box by_ 114 [y] :: x.2.2, []⟩) (fun x => e.scan.length - x.1) (0, st2, L) ⟨by omega, hI, hF⟩
        (ent_sub (.cons _ _ _ rfl (.cons _ _ _ rfl (.cons _ _ _ rfl (.cons _ _ _ rfl (.cons _ _ _ rfl (.cons _ _ _ rfl (.cons _ _ _ rfl (.cons _ _ _ rfl (.nil)))))))))) ?_
      rintro ⟨j, st, L⟩ ⟨hj, hI, hF⟩
      simp only at hj hI hF
      refine rn ?_
      refine aw_cond rfl (fun hc73 => ?_) (fun hc73 => ?_)
      · have j2 : j < e.scan.length := by simpa using hc73
        obtain ⟨x, hx⟩ : ∃ x, x = e.scan[j] := ⟨_, rfl⟩
        have hrowx : (e.scan.map seenR)[j]? = some (seenR x) := by rw [hx]; simp [j2]
        have hdx := List.drop_eq_getElem_cons j2
        rw [hdx, ← hx] at hF
        simp only [List.flatMap_cons, seenL, List.cons_append, List.append_assoc] at hF
        obtain ⟨hx, hF⟩ := hF.cons
        obtain ⟨hkx, hF⟩ := hF.app
        refine rn ?_
        refine aw_draw 8 rfl ?_
        refine rn ?_
        refine aops_e rfl (oe_call rfl rfl (FCall.fr3 (FCall.of_acall (fs := []) (cs := [.v (.pointer (some ⟨bm, 0, none⟩)), .v (.pointer (some ⟨by_, 0, none⟩))]) (sayR step ok IJ y hy 2 x.o hx _ bm by_ _ _ hI))) rfl ?_)
        rintro _ _ ⟨_, rfl, L, hI, rfl⟩
        refine rn ?_
        refine aops_e rfl (oe_call rfl rfl (FCall.fr2 (FCall.of_acall (fs := []) (cs := [.v (.pointer (some ⟨bs, 0, none⟩))]) (madeR step ok IJ y hy x.v hkx _ bs bm by_ _ _ hI))) rfl ?_)
        rintro _ _ ⟨_, rfl, L, hI, rfl⟩
        refine rn ?_
        exact ⟨(j + 1, _, L), ⟨by omega, hI, hF⟩, (ent_sub (.cons _ _ _ rfl (.cons _ _ _ rfl (.cons _ _ _ rfl (.cons _ _ _ rfl (.cons _ _ _ rfl (.cons _ _ _ rfl (.cons _ _ _ rfl (.cons _ _ _ rfl (.nil)))))))))), by simp only; omega⟩
      · obtain rfl : j = e.scan.length := by
          have : e.scan.length ≤ j := by simpa using hc73
          omega
        rw [List.drop_length, List.flatMap_nil, List.nil_append] at hF
        refine rn ?_
        exact ⟨(k + 1, _, L), ⟨by omega, hI, hF⟩, (ent_sub (.cons _ _ _ rfl (.cons _ _ _ rfl (.cons _ _ _ rfl (.cons _ _ _ rfl (.cons _ _ _ rfl (.nil))))))), by simp only; omega⟩
  · obtain rfl : k = h.evs.length := by
      have : h.evs.length ≤ k := by simpa using hc23
      omega
    rw [List.drop_length, List.flatMap_nil, List.nil_append] at hF
    refine rn ?_
    refine aw_loop' (fun x : Nat × Option σ × List Res => x.1 ≤ h.ords.length ∧ IJ x.2.1 x.2.2 ∧ Rem step ok x.2.1 (((h.ords.drop x.1).flatMap ordL) ++ (h.mats.flatMap matL ++ h.wants.flatMap wanL)) (goes step (some s0) (spokenL h))) (fun x => ⟨[(100, iv x.1), (99, iv (h.ords.map ordR).length), (1, .v (.pointer (some ⟨b1, 0, none⟩))), (4, .v (.pointer (some ⟨bs, 0, none⟩))), (5, .fn (.func 76) [] [.v (.pointer (some ⟨bs, 0, none⟩))])], .box b1 72 [.v (.pointer (some ⟨bh, 0, none⟩))] :: .box bh 28 (histC h) :: .box bs 115 [.fn (.func 75) [] [.v (.pointer (some ⟨bm, 0, none⟩)), .v (.pointer (some ⟨by_, 0, none⟩))]] :: .box bm 4 [bv (x.2.1).isSome] :: .box by_ 114 [y] :: x.2.2, []⟩) (fun x => h.ords.length - x.1) (0, st, L) ⟨by omega, hI, hF⟩
      (ent_sub (.cons _ _ _ rfl (.cons _ _ _ rfl (.cons _ _ _ rfl (.cons _ _ _ rfl (.cons _ _ _ rfl (.nil))))))) ?_
    rintro ⟨k, st, L⟩ ⟨hk, hI, hF⟩
    simp only at hk hI hF
    refine rn ?_
    refine aw_cond rfl (fun hc101 => ?_) (fun hc101 => ?_)
    · have k2 : k < h.ords.length := by simpa using hc101
      obtain ⟨r, hr⟩ : ∃ r, r = h.ords[k] := ⟨_, rfl⟩
      have hrowr : (h.ords.map ordR)[k]? = some (ordR r) := by rw [hr]; simp [k2]
      have hdr := List.drop_eq_getElem_cons k2
      rw [hdr, ← hr] at hF
      simp only [List.flatMap_cons, ordL, List.cons_append, List.append_assoc] at hF
      obtain ⟨hx, hF⟩ := hF.cons
      have hle := la.ords
      have hls := la.ordts r (by rw [hr]; simp)
      refine rn ?_
      refine aw_draw 8 rfl ?_
      refine rn ?_
      refine aops_e rfl (oe_call rfl rfl (FCall.fr3 (FCall.of_acall (fs := []) (cs := [.v (.pointer (some ⟨bm, 0, none⟩)), .v (.pointer (some ⟨by_, 0, none⟩))]) (sayR step ok IJ y hy 2 r.o hx _ bm by_ _ _ hI))) rfl ?_)
      rintro _ _ ⟨_, rfl, L, hI, rfl⟩
      refine rn ?_
      refine aw_loop' (fun x : Nat × Option σ × List Res => x.1 ≤ r.ts.length ∧ IJ x.2.1 x.2.2 ∧ Rem step ok x.2.1 (((r.ts.drop x.1).map fun t => ((0 : Nat), t)) ++ (((h.ords.drop (k + 1)).flatMap ordL) ++ (h.mats.flatMap matL ++ h.wants.flatMap wanL))) (goes step (some s0) (spokenL h))) (fun x => ⟨[(121, iv x.1), (120, iv (r.ts.map intR).length), (9, iv k), (100, iv k), (99, iv (h.ords.map ordR).length), (1, .v (.pointer (some ⟨b1, 0, none⟩))), (4, .v (.pointer (some ⟨bs, 0, none⟩))), (5, .fn (.func 76) [] [.v (.pointer (some ⟨bs, 0, none⟩))])], .box b1 72 [.v (.pointer (some ⟨bh, 0, none⟩))] :: .box bh 28 (histC h) :: .box bs 115 [.fn (.func 75) [] [.v (.pointer (some ⟨bm, 0, none⟩)), .v (.pointer (some ⟨by_, 0, none⟩))]] :: .box bm 4 [bv (x.2.1).isSome] :: .box by_ 114 [y] :: x.2.2, []⟩) (fun x => r.ts.length - x.1) (0, _, L) ⟨by omega, hI, hF⟩
        (ent_sub (.cons _ _ _ rfl (.cons _ _ _ rfl (.cons _ _ _ rfl (.cons _ _ _ rfl (.cons _ _ _ rfl (.cons _ _ _ rfl (.cons _ _ _ rfl (.cons _ _ _ rfl (.nil)))))))))) ?_
      rintro ⟨j, st, L⟩ ⟨hj, hI, hF⟩
      simp only at hj hI hF
      refine rn ?_
      refine aw_cond rfl (fun hc122 => ?_) (fun hc122 => ?_)
      · have j2 : j < r.ts.length := by simpa using hc122
        obtain ⟨t, ht⟩ : ∃ t, t = r.ts[j] := ⟨_, rfl⟩
        have hrowt : (r.ts.map intR)[j]? = some (intR t) := by rw [ht]; simp [j2]
        have hdt := List.drop_eq_getElem_cons j2
        rw [hdt, ← ht] at hF
        simp only [List.map_cons, List.cons_append] at hF
        obtain ⟨hx, hF⟩ := hF.cons
        refine rn ?_
        refine aw_draw 11 rfl ?_
        refine rn ?_
        refine aops_e rfl (oe_call rfl rfl (FCall.fr3 (FCall.of_acall (fs := []) (cs := [.v (.pointer (some ⟨bm, 0, none⟩)), .v (.pointer (some ⟨by_, 0, none⟩))]) (sayR step ok IJ y hy 0 t hx _ bm by_ _ _ hI))) rfl ?_)
        rintro _ _ ⟨_, rfl, L, hI, rfl⟩
        refine rn ?_
        exact ⟨(j + 1, _, L), ⟨by omega, hI, hF⟩, (ent_sub (.cons _ _ _ rfl (.cons _ _ _ rfl (.cons _ _ _ rfl (.cons _ _ _ rfl (.cons _ _ _ rfl (.cons _ _ _ rfl (.cons _ _ _ rfl (.cons _ _ _ rfl (.nil)))))))))), by simp only; omega⟩
      · obtain rfl : j = r.ts.length := by
          have : r.ts.length ≤ j := by simpa using hc122
          omega
        rw [List.drop_length, List.map_nil, List.nil_append] at hF
        refine rn ?_
        exact ⟨(k + 1, _, L), ⟨by omega, hI, hF⟩, (ent_sub (.cons _ _ _ rfl (.cons _ _ _ rfl (.cons _ _ _ rfl (.cons _ _ _ rfl (.cons _ _ _ rfl (.nil))))))), by simp only; omega⟩
    · obtain rfl : k = h.ords.length := by
        have : h.ords.length ≤ k := by simpa using hc101
        omega
      rw [List.drop_length, List.flatMap_nil, List.nil_append] at hF
      refine rn ?_
      refine aw_loop' (fun x : Nat × Option σ × List Res => x.1 ≤ h.mats.length ∧ IJ x.2.1 x.2.2 ∧ Rem step ok x.2.1 (((h.mats.drop x.1).flatMap matL) ++ h.wants.flatMap wanL) (goes step (some s0) (spokenL h))) (fun x => ⟨[(143, iv x.1), (142, iv (h.mats.map matR).length), (1, .v (.pointer (some ⟨b1, 0, none⟩))), (4, .v (.pointer (some ⟨bs, 0, none⟩))), (5, .fn (.func 76) [] [.v (.pointer (some ⟨bs, 0, none⟩))])], .box b1 72 [.v (.pointer (some ⟨bh, 0, none⟩))] :: .box bh 28 (histC h) :: .box bs 115 [.fn (.func 75) [] [.v (.pointer (some ⟨bm, 0, none⟩)), .v (.pointer (some ⟨by_, 0, none⟩))]] :: .box bm 4 [bv (x.2.1).isSome] :: .box by_ 114 [y] :: x.2.2, []⟩) (fun x => h.mats.length - x.1) (0, st, L) ⟨by omega, hI, hF⟩
        (ent_sub (.cons _ _ _ rfl (.cons _ _ _ rfl (.cons _ _ _ rfl (.cons _ _ _ rfl (.cons _ _ _ rfl (.nil))))))) ?_
      rintro ⟨k, st, L⟩ ⟨hk, hI, hF⟩
      simp only at hk hI hF
      refine rn ?_
      refine aw_cond rfl (fun hc144 => ?_) (fun hc144 => ?_)
      · have k2 : k < h.mats.length := by simpa using hc144
        obtain ⟨r, hr⟩ : ∃ r, r = h.mats[k] := ⟨_, rfl⟩
        have hrowr : (h.mats.map matR)[k]? = some (matR r) := by rw [hr]; simp [k2]
        have hdr := List.drop_eq_getElem_cons k2
        rw [hdr, ← hr] at hF
        simp only [List.flatMap_cons, matL, List.cons_append, List.append_assoc] at hF
        obtain ⟨hx, hF⟩ := hF.cons
        obtain ⟨hx2, hF⟩ := hF.cons
        have hle := la.mats
        have hls := la.matts r (by rw [hr]; simp)
        refine rn ?_
        refine aw_draw 4 rfl ?_
        refine rn ?_
        refine aops_e rfl (oe_call rfl rfl (FCall.fr3 (FCall.of_acall (fs := []) (cs := [.v (.pointer (some ⟨bm, 0, none⟩)), .v (.pointer (some ⟨by_, 0, none⟩))]) (sayR step ok IJ y hy 3 r.p hx _ bm by_ _ _ hI))) rfl ?_)
        rintro _ _ ⟨_, rfl, L, hI, rfl⟩
        refine rn ?_
        refine aw_draw 4 rfl ?_
        refine rn ?_
        refine aops_e rfl (oe_call rfl rfl (FCall.fr3 (FCall.of_acall (fs := []) (cs := [.v (.pointer (some ⟨bm, 0, none⟩)), .v (.pointer (some ⟨by_, 0, none⟩))]) (sayR step ok IJ y hy 2 r.o hx2 _ bm by_ _ _ hI))) rfl ?_)
        rintro _ _ ⟨_, rfl, L, hI, rfl⟩
        refine rn ?_
        refine aw_loop' (fun x : Nat × Option σ × List Res => x.1 ≤ r.ts.length ∧ IJ x.2.1 x.2.2 ∧ Rem step ok x.2.1 (((r.ts.drop x.1).map fun t => ((0 : Nat), t)) ++ (((h.mats.drop (k + 1)).flatMap matL) ++ h.wants.flatMap wanL)) (goes step (some s0) (spokenL h))) (fun x => ⟨[(167, iv x.1), (166, iv (r.ts.map intR).length), (12, .pp (matR r)), (143, iv k), (142, iv (h.mats.map matR).length), (1, .v (.pointer (some ⟨b1, 0, none⟩))), (4, .v (.pointer (some ⟨bs, 0, none⟩))), (5, .fn (.func 76) [] [.v (.pointer (some ⟨bs, 0, none⟩))])], .box b1 72 [.v (.pointer (some ⟨bh, 0, none⟩))] :: .box bh 28 (histC h) :: .box bs 115 [.fn (.func 75) [] [.v (.pointer (some ⟨bm, 0, none⟩)), .v (.pointer (some ⟨by_, 0, none⟩))]] :: .box bm 4 [bv (x.2.1).isSome] :: .box by_ 114 [y] :: x.2.2, []⟩) (fun x => r.ts.length - x.1) (0, _, L) ⟨by omega, hI, hF⟩
          (ent_sub (.cons _ _ _ rfl (.cons _ _ _ rfl (.cons _ _ _ rfl (.cons _ _ _ rfl (.cons _ _ _ rfl (.cons _ _ _ rfl (.cons _ _ _ rfl (.cons _ _ _ rfl (.nil)))))))))) ?_
        rintro ⟨j, st, L⟩ ⟨hj, hI, hF⟩
        simp only at hj hI hF
        refine rn ?_
        refine aw_cond rfl (fun hc168 => ?_) (fun hc168 => ?_)
        · have j2 : j < r.ts.length := by simpa using hc168
          obtain ⟨t, ht⟩ : ∃ t, t = r.ts[j] := ⟨_, rfl⟩
          have hrowt : (r.ts.map intR)[j]? = some (intR t) := by rw [ht]; simp [j2]
          have hdt := List.drop_eq_getElem_cons j2
          rw [hdt, ← ht] at hF
          simp only [List.map_cons, List.cons_append] at hF
          obtain ⟨hx, hF⟩ := hF.cons
          refine rn ?_
          refine aw_draw 7 rfl ?_
          refine rn ?_
          refine aops_e rfl (oe_call rfl rfl (FCall.fr3 (FCall.of_acall (fs := []) (cs := [.v (.pointer (some ⟨bm, 0, none⟩)), .v (.pointer (some ⟨by_, 0, none⟩))]) (sayR step ok IJ y hy 0 t hx _ bm by_ _ _ hI))) rfl ?_)
          rintro _ _ ⟨_, rfl, L, hI, rfl⟩
          refine rn ?_
          exact ⟨(j + 1, _, L), ⟨by omega, hI, hF⟩, (ent_sub (.cons _ _ _ rfl (.cons _ _ _ rfl (.cons _ _ _ rfl (.cons _ _ _ rfl (.cons _ _ _ rfl (.cons _ _ _ rfl (.cons _ _ _ rfl (.cons _ _ _ rfl (.nil)))))))))), by simp only; omega⟩
        · obtain rfl : j = r.ts.length := by
            have : r.ts.length ≤ j := by simpa using hc168
            omega
          rw [List.drop_length, List.map_nil, List.nil_append] at hF
          refine rn ?_
          exact ⟨(k + 1, _, L), ⟨by omega, hI, hF⟩, (ent_sub (.cons _ _ _ rfl (.cons _ _ _ rfl (.cons _ _ _ rfl (.cons _ _ _ rfl (.cons _ _ _ rfl (.nil))))))), by simp only; omega⟩
      · obtain rfl : k = h.mats.length := by
          have : h.mats.length ≤ k := by simpa using hc144
          omega
        rw [List.drop_length, List.flatMap_nil, List.nil_append] at hF
        refine rn ?_
        refine aw_loop' (fun x : Nat × Option σ × List Res => x.1 ≤ h.wants.length ∧ IJ x.2.1 x.2.2 ∧ Rem step ok x.2.1 (((h.wants.drop x.1).flatMap wanL) ++ []) (goes step (some s0) (spokenL h))) (fun x => ⟨[(185, iv x.1), (184, iv (h.wants.map wanR).length), (1, .v (.pointer (some ⟨b1, 0, none⟩))), (4, .v (.pointer (some ⟨bs, 0, none⟩))), (5, .fn (.func 76) [] [.v (.pointer (some ⟨bs, 0, none⟩))])], .box b1 72 [.v (.pointer (some ⟨bh, 0, none⟩))] :: .box bh 28 (histC h) :: .box bs 115 [.fn (.func 75) [] [.v (.pointer (some ⟨bm, 0, none⟩)), .v (.pointer (some ⟨by_, 0, none⟩))]] :: .box bm 4 [bv (x.2.1).isSome] :: .box by_ 114 [y] :: x.2.2, []⟩) (fun x => h.wants.length - x.1) (0, st, L) ⟨by omega, hI, by rw [List.append_nil]; exact hF⟩
          (ent_sub (.cons _ _ _ rfl (.cons _ _ _ rfl (.cons _ _ _ rfl (.cons _ _ _ rfl (.cons _ _ _ rfl (.nil))))))) ?_
        rintro ⟨k, st, L⟩ ⟨hk, hI, hF⟩
        simp only at hk hI hF
        refine rn ?_
        refine aw_cond rfl (fun hc186 => ?_) (fun hc186 => ?_)
        · have k2 : k < h.wants.length := by simpa using hc186
          obtain ⟨r, hr⟩ : ∃ r, r = h.wants[k] := ⟨_, rfl⟩
          have hrowr : (h.wants.map wanR)[k]? = some (wanR r) := by rw [hr]; simp [k2]
          have hdr := List.drop_eq_getElem_cons k2
          rw [hdr, ← hr] at hF
          simp only [List.flatMap_cons, wanL, List.cons_append, List.append_assoc, List.nil_append] at hF
          obtain ⟨hx, hF⟩ := hF.cons
          have hle := la.wants
          refine rn ?_
          refine aw_draw 8 rfl ?_
          refine rn ?_
          refine aops_e rfl (oe_call rfl rfl (FCall.fr3 (FCall.of_acall (fs := []) (cs := [.v (.pointer (some ⟨bm, 0, none⟩)), .v (.pointer (some ⟨by_, 0, none⟩))]) (sayR step ok IJ y hy 1 r.s hx _ bm by_ _ _ hI))) rfl ?_)
          rintro _ _ ⟨_, rfl, L, hI, rfl⟩
          refine rn ?_
          exact ⟨(k + 1, _, L), ⟨by omega, hI, hF⟩, (ent_sub (.cons _ _ _ rfl (.cons _ _ _ rfl (.cons _ _ _ rfl (.cons _ _ _ rfl (.cons _ _ _ rfl (.nil))))))), by simp only; omega⟩
        · obtain rfl : k = h.wants.length := by
            have : h.wants.length ≤ k := by simpa using hc186
            omega
          rw [List.drop_length, List.flatMap_nil, List.nil_append] at hF
          refine rn ?_
          have hF' : st = goes step (some s0) (spokenL h) := hF.fin
          exact retq_n .nil (.trans (.perm ((pt2 _ _ _ _).trans (.cons _ ((pt2 _ _ _ _).trans (.cons _ (pt2 _ _ _ _))))) _) (.drop [_, _, _] _ _)) ⟨L, hF' ▸ hI, rfl⟩
theorem spoken (bh : Nat) (h : List Res) : ACall Tryz.prog 32 [.v (.pointer (some ⟨bh, 0, none⟩))] h (fun r h' => ∃ b1, h' = .box b1 72 [.v (.pointer (some ⟨bh, 0, none⟩))] :: h ∧ r = .fn (.func 74) [] [.v (.pointer (some ⟨b1, 0, none⟩))]) := by
  refine acall_of_aw Tryz.func32 rfl rfl rfl ?_
  refine rn ?_
  refine aops_e rfl (oe_box rfl rfl rfl fun b1 => ?_)
  refine rn ?_
  exact retq (.cons _ _ _ _ (.tmp _ _ rfl) .nil) (.refl _ _) ⟨_, rfl, rfl⟩
end Go.Proofs
/- The walk of history.own. Conditions: none. -/
set_option linter.unusedVariables false
set_option linter.unusedSimpArgs false
set_option maxRecDepth 10000
namespace Go.Proofs
open Go Go.Ab
attribute [local irreducible] QR QV OE aops aw dsoup dsoupM dalloc dallocM thn inBlk
open Go.H
def nmR (n : NV) (h : Hist) (L : List Res) : List Res := .row n.vT.v 1 9 (h.ts.map strR) :: .row n.vS.v 1 9 (h.ss.map strR) :: .row n.vO.v 1 9 (h.os.map strR) :: .row n.vP.v 1 9 (h.ps.map strR) :: L
def ohF (o : OH) (L : List Res) : List Res := .row o.vE.v 9 39 (o.evs.map evRw) :: .row o.vR.v 2 61 (o.ords.map ordRw) :: .row o.vM.v 4 64 (o.mats.map matRw) :: .row o.vW.v 2 67 (o.wants.map wanR) :: (scR 59 o.evs ++ (otR 3 o.ords ++ (mtR 3 o.mats ++ L)))
def ohR (o : OH) : List Res := .row o.vE.v 9 39 (o.evs.map evRw) :: .row o.vR.v 2 61 (o.ords.map ordRw) :: .row o.vM.v 4 64 (o.mats.map matRw) :: .row o.vW.v 2 67 (o.wants.map wanR) :: (scR 59 o.evs ++ (otR 3 o.ords ++ mtR 3 o.mats))
theorem ohF_eq (o : OH) (L : List Res) : ohR o ++ L = ohF o L := by simp [ohR, ohF]
theorem own (h : Hist) (la : Lim 1099511627776 h) : ACall Tryz.prog 46 [.agg (histC h)] [] (fun r h' => ∃ (n : NV) (o : OH), o.hist = h ∧ h' = nmR n h (ohR o) ∧ r = .agg (n.cells ++ o.cells)) := by
  refine acall_of_aw Tryz.func46 rfl rfl rfl ?_
  refine rn ?_
  refine aops_e rfl (oe_box rfl rfl rfl fun b1 => ?_)
  refine aops_e rfl (oe_alloc rfl fun b2 => ?_)
  refine rn0 ?_
  refine aw_cutE (fun _ : SV × SV × SV × SV => True) (fun x => ⟨[(1, .v (.pointer (some ⟨b1, 0, none⟩))), (2, .v (.pointer (some ⟨b2, 0, none⟩)))], .box b2 28 histZ :: .box b1 28 [.v x.1.v, .v x.2.1.v, .v x.2.2.1.v, .v x.2.2.2.v, evsA h.evs, ordsA h.ords, matsA h.mats, wansA h.wants] :: .row x.1.v 1 9 (h.ts.map strR) :: .row x.2.1.v 1 9 (h.ss.map strR) :: .row x.2.2.1.v 1 9 (h.os.map strR) :: .row x.2.2.2.v 1 9 (h.ps.map strR) :: [], []⟩) ?_ ?_
  · refine aw_drawM 13 rfl ?_
    refine rn ?_
    refine mcall (mrow 1 9 (h.ts.map strR)) rfl rfl rfl (mk_row (FCall.of_fun (cloneRowStr _ (by simpa using la.ts) (one_str _)))) ?_
    refine rn ?_
    refine mcall (mrow 1 9 (h.ss.map strR)) rfl rfl rfl (mk_row (FCall.of_fun (cloneRowStr _ (by simpa using la.ss) (one_str _)))) ?_
    refine rn ?_
    refine mcall (mrow 1 9 (h.os.map strR)) rfl rfl rfl (mk_row (FCall.of_fun (cloneRowStr _ (by simpa using la.os) (one_str _)))) ?_
    refine rn ?_
    refine mcall (mrow 1 9 (h.ps.map strR)) rfl rfl rfl (mk_row (FCall.of_fun (cloneRowStr _ (by simpa using la.ps) (one_str _)))) ?_
    refine rn ?_
    refine mnil ⟨.refl _, ?_⟩
    refine rn ?_
    refine mal_row fun s8 => ?_
    refine rn ?_
    refine mal_row fun s11 => ?_
    refine rn ?_
    refine mal_row fun s14 => ?_
    refine rn ?_
    refine mal_row fun s17 => ?_
    refine rn ?_
    exact ⟨(s8, s11, s14, s17), trivial, ent_trans (ent_perm ((pt4 _ _ _ _ _ _).trans (.cons _ ((pt4 _ _ _ _ _ _).trans (.cons _ ((pt3 _ _ _ _ _).trans (.cons _ ((pt2 _ _ _ _).trans (.cons _ (pt1 _ _ _)))))))))) (ent_sub (.cons _ _ _ rfl (.cons _ _ _ rfl (.nil))))⟩
  · rintro ⟨s8, s11, s14, s17⟩ _
    refine aw_cutE (fun _ : SV × SV × SV × SV => True) (fun x => ⟨[(1, .v (.pointer (some ⟨b1, 0, none⟩))), (2, .v (.pointer (some ⟨b2, 0, none⟩)))], .box b2 28 histZ :: .box b1 28 [.v s8.v, .v s11.v, .v s14.v, .v s17.v, .v x.1.v, .v x.2.1.v, .v x.2.2.1.v, .v x.2.2.2.v] :: .row s8.v 1 9 (h.ts.map strR) :: .row s11.v 1 9 (h.ss.map strR) :: .row s14.v 1 9 (h.os.map strR) :: .row s17.v 1 9 (h.ps.map strR) :: .row x.1.v 9 39 (h.evs.map evR) :: .row x.2.1.v 2 61 (h.ords.map ordR) :: .row x.2.2.1.v 4 64 (h.mats.map matR) :: .row x.2.2.2.v 2 67 (h.wants.map wanR) :: [], []⟩) ?_ ?_
    · refine aw_drawM 13 rfl ?_
      refine rn ?_
      refine mcall (mrow 9 39 (h.evs.map evR)) rfl rfl rfl (mk_row (FCall.of_fun (cloneRowEv _ (by simpa using la.evs) (one_ev _)))) ?_
      refine rn ?_
      refine mcall (mrow 2 61 (h.ords.map ordR)) rfl rfl rfl (mk_row (FCall.of_fun (cloneRowOrd _ (by simpa using la.ords) (one_ord _)))) ?_
      refine rn ?_
      refine mcall (mrow 4 64 (h.mats.map matR)) rfl rfl rfl (mk_row (FCall.of_fun (cloneRowMat _ (by simpa using la.mats) (one_mat _)))) ?_
      refine rn ?_
      refine mcall (mrow 2 67 (h.wants.map wanR)) rfl rfl rfl (mk_row (FCall.of_fun (cloneRowWan _ (by simpa using la.wants) (one_wan _)))) ?_
      refine rn ?_
      refine mnil ⟨.refl _, ?_⟩
      refine rn ?_
      refine mal_row fun s24 => ?_
      refine rn ?_
      refine mal_row fun s27 => ?_
      refine rn ?_
      refine mal_row fun s30 => ?_
      refine rn ?_
      refine mal_row fun s33 => ?_
      refine rn ?_
      exact ⟨(s24, s27, s30, s33), trivial, ent_trans (ent_perm ((pt4 _ _ _ _ _ _).trans (.cons _ ((pt4 _ _ _ _ _ _).trans (.cons _ ((pt4 _ _ _ _ _ _).trans (.cons _ ((pt4 _ _ _ _ _ _).trans (.cons _ ((pt4 _ _ _ _ _ _).trans (.cons _ ((pt4 _ _ _ _ _ _).trans (.cons _ ((pt3 _ _ _ _ _).trans (.cons _ ((pt2 _ _ _ _).trans (.cons _ (pt1 _ _ _)))))))))))))))))) (ent_sub (.cons _ _ _ rfl (.cons _ _ _ rfl (.nil))))⟩
    · rintro ⟨s24, s27, s30, s33⟩ _
      refine rn ?_
      refine aw_loop' (fun x : Nat × List (SV × Ev) => x.1 ≤ h.evs.length ∧ x.2.map (·.2) = h.evs.take x.1) (fun x => ⟨[(41, iv x.1), (40, iv (h.evs.map evR).length), (1, .v (.pointer (some ⟨b1, 0, none⟩))), (2, .v (.pointer (some ⟨b2, 0, none⟩)))], .box b2 28 histZ :: .box b1 28 [.v s8.v, .v s11.v, .v s14.v, .v s17.v, .v s24.v, .v s27.v, .v s30.v, .v s33.v] :: .row s8.v 1 9 (h.ts.map strR) :: .row s11.v 1 9 (h.ss.map strR) :: .row s14.v 1 9 (h.os.map strR) :: .row s17.v 1 9 (h.ps.map strR) :: .row s24.v 9 39 (x.2.map evRw ++ (h.evs.drop x.1).map evR) :: .row s27.v 2 61 (h.ords.map ordR) :: .row s30.v 4 64 (h.mats.map matR) :: .row s33.v 2 67 (h.wants.map wanR) :: scR 59 x.2, []⟩) (fun x => h.evs.length - x.1) (0, []) ⟨by omega, rfl⟩
        (ent_sub (.cons _ _ _ rfl (.cons _ _ _ rfl (.cons _ _ _ rfl (.cons _ _ _ rfl (.nil)))))) ?_
      rintro ⟨k, x⟩ ⟨hk, hx⟩
      simp only at hk hx
      have hxl := mid_len2 hx hk
      refine rn ?_
      refine aw_cond rfl (fun hc42 => ?_) (fun hc42 => ?_)
      · have hk2 : k < h.evs.length := by simpa using hc42
        obtain ⟨e, he⟩ : ∃ e, e = h.evs[k] := ⟨_, rfl⟩
        have hd := List.drop_eq_getElem_cons hk2
        rw [← he] at hd
        have hrow : (x.map evRw ++ (h.evs.drop k).map evR)[k]? = some (evR e) := mid_get hxl hd
        have hmem : e ∈ h.evs := by rw [he]; simp
        have hle := la.evs
        have hk3 : k < (x.map evRw ++ (h.evs.drop k).map evR).length := by rw [mid_len hxl hk]; exact hk2
        refine rn ?_
        refine aw_drawM 10 rfl ?_
        refine mq rfl rfl qrA ?_
        refine mq rfl rfl qrA ?_
        refine mq rfl rfl qrA ?_
        refine mq rfl rfl qrA ?_
        refine mq rfl rfl qrA ?_
        refine mq rfl rfl qrA ?_
        refine mq rfl rfl (qr_index_row rfl rfl hk3) ?_
        refine mq rfl rfl qrA ?_
        refine mq rfl rfl (qr_load_rp_one rfl hrow rfl) ?_
        refine mcall (mrow 3 59 (e.scan.map seenR)) rfl rfl rfl (mk_row (FCall.of_fun (cloneRowSeen _ (by simpa using (la.scans e hmem)) (one_seen _)))) ?_
        refine mnil ⟨.refl _, ?_⟩
        refine rn ?_
        refine mal_row fun s53 => ?_
        refine rn2 ?_
        refine qq rfl rfl (qr_index_row rfl rfl hk3) ?_
        refine rn ?_
        refine aops_e rfl (oe_store_rp rfl rfl rfl hrow rfl (Nat.le_of_ble_eq_true rfl) ?_)
        refine rn ?_
        have hset := mid_set (f := evRw) (g := evR) (a := (s53, e)) (r := (evR e).take 8 ++ [.v s53.v] ++ (evR e).drop (8 + 1)) hxl hd rfl
        have htl : scR 59 (x ++ [(s53, e)]) = scR 59 x ++ [.row s53.v 3 59 (e.scan.map seenR)] := by simp [scR]
        exact ⟨(k + 1, x ++ [(s53, e)]), ⟨by omega, mid_snoc hx hk2 he⟩, by simp only [htl]; exact ent_trans (ent_perm (perm_swap [_] _)) (by rw [← hset]; exact (ent_sub (.cons _ _ _ rfl (.cons _ _ _ rfl (.cons _ _ _ rfl (.cons _ _ _ rfl (.nil))))))), by simp only; omega⟩
      · obtain rfl : k = h.evs.length := by
          have : h.evs.length ≤ k := by simpa using hc42
          omega
        rw [List.take_length] at hx
        obtain ⟨E, hE⟩ : ∃ E, E = x := ⟨_, rfl⟩
        rw [← hE] at hx ⊢
        have hxE := hx
        rw [List.drop_length, List.map_nil, List.append_nil]
        refine rn ?_
        refine aw_loop' (fun x : Nat × List (SV × H.Ord) => x.1 ≤ h.ords.length ∧ x.2.map (·.2) = h.ords.take x.1) (fun x => ⟨[(60, iv x.1), (59, iv (h.ords.map ordR).length), (1, .v (.pointer (some ⟨b1, 0, none⟩))), (2, .v (.pointer (some ⟨b2, 0, none⟩)))], .box b2 28 histZ :: .box b1 28 [.v s8.v, .v s11.v, .v s14.v, .v s17.v, .v s24.v, .v s27.v, .v s30.v, .v s33.v] :: .row s8.v 1 9 (h.ts.map strR) :: .row s11.v 1 9 (h.ss.map strR) :: .row s14.v 1 9 (h.os.map strR) :: .row s17.v 1 9 (h.ps.map strR) :: .row s24.v 9 39 (E.map evRw) :: .row s27.v 2 61 (x.2.map ordRw ++ (h.ords.drop x.1).map ordR) :: .row s30.v 4 64 (h.mats.map matR) :: .row s33.v 2 67 (h.wants.map wanR) :: (scR 59 E ++ otR 3 x.2), []⟩) (fun x => h.ords.length - x.1) (0, []) ⟨by omega, rfl⟩
          (by simp only [otR, List.map_nil, List.append_nil]; exact (ent_sub (.cons _ _ _ rfl (.cons _ _ _ rfl (.cons _ _ _ rfl (.cons _ _ _ rfl (.nil))))))) ?_
        rintro ⟨k, x⟩ ⟨hk, hx⟩
        simp only at hk hx
        have hxl := mid_len2 hx hk
        refine rn ?_
        refine aw_cond rfl (fun hc61 => ?_) (fun hc61 => ?_)
        · have hk2 : k < h.ords.length := by simpa using hc61
          obtain ⟨e, he⟩ : ∃ e, e = h.ords[k] := ⟨_, rfl⟩
          have hd := List.drop_eq_getElem_cons hk2
          rw [← he] at hd
          have hrow : (x.map ordRw ++ (h.ords.drop k).map ordR)[k]? = some (ordR e) := mid_get hxl hd
          have hmem : e ∈ h.ords := by rw [he]; simp
          have hle := la.ords
          have hk3 : k < (x.map ordRw ++ (h.ords.drop k).map ordR).length := by rw [mid_len hxl hk]; exact hk2
          refine rn ?_
          refine aw_drawM 10 rfl ?_
          refine mq rfl rfl qrA ?_
          refine mq rfl rfl qrA ?_
          refine mq rfl rfl qrA ?_
          refine mq rfl rfl qrA ?_
          refine mq rfl rfl qrA ?_
          refine mq rfl rfl qrA ?_
          refine mq rfl rfl (qr_index_row rfl rfl hk3) ?_
          refine mq rfl rfl qrA ?_
          refine mq rfl rfl (qr_load_rp_one rfl hrow rfl) ?_
          refine mcall (mrow 1 3 (e.ts.map intR)) rfl rfl rfl (mk_row (FCall.of_fun (cloneRowInt _ (by simpa using (la.ordts e hmem)) (one_int _)))) ?_
          refine mnil ⟨.refl _, ?_⟩
          refine rn ?_
          refine mal_row fun s72 => ?_
          refine rn2 ?_
          refine qq rfl rfl (qr_index_row rfl rfl hk3) ?_
          refine rn ?_
          refine aops_e rfl (oe_store_rp rfl rfl rfl hrow rfl (Nat.le_of_ble_eq_true rfl) ?_)
          refine rn ?_
          have hset := mid_set (f := ordRw) (g := ordR) (a := (s72, e)) (r := (ordR e).take 1 ++ [.v s72.v] ++ (ordR e).drop (1 + 1)) hxl hd rfl
          have htl : ∀ L : List Res, L ++ otR 3 (x ++ [(s72, e)]) = (L ++ otR 3 x) ++ [.row s72.v 1 3 (e.ts.map intR)] := by simp [otR]
          exact ⟨(k + 1, x ++ [(s72, e)]), ⟨by omega, mid_snoc hx hk2 he⟩, by simp only [htl]; exact ent_trans (ent_perm (perm_swap [_] _)) (by rw [← hset]; exact (ent_sub (.cons _ _ _ rfl (.cons _ _ _ rfl (.cons _ _ _ rfl (.cons _ _ _ rfl (.nil))))))), by simp only; omega⟩
        · obtain rfl : k = h.ords.length := by
            have : h.ords.length ≤ k := by simpa using hc61
            omega
          rw [List.take_length] at hx
          obtain ⟨O, hO⟩ : ∃ O, O = x := ⟨_, rfl⟩
          rw [← hO] at hx ⊢
          have hxO := hx
          rw [List.drop_length, List.map_nil, List.append_nil]
          refine rn ?_
          refine aw_loop' (fun x : Nat × List (SV × Mat) => x.1 ≤ h.mats.length ∧ x.2.map (·.2) = h.mats.take x.1) (fun x => ⟨[(79, iv x.1), (78, iv (h.mats.map matR).length), (1, .v (.pointer (some ⟨b1, 0, none⟩))), (2, .v (.pointer (some ⟨b2, 0, none⟩)))], .box b2 28 histZ :: .box b1 28 [.v s8.v, .v s11.v, .v s14.v, .v s17.v, .v s24.v, .v s27.v, .v s30.v, .v s33.v] :: .row s8.v 1 9 (h.ts.map strR) :: .row s11.v 1 9 (h.ss.map strR) :: .row s14.v 1 9 (h.os.map strR) :: .row s17.v 1 9 (h.ps.map strR) :: .row s24.v 9 39 (E.map evRw) :: .row s27.v 2 61 (O.map ordRw) :: .row s30.v 4 64 (x.2.map matRw ++ (h.mats.drop x.1).map matR) :: .row s33.v 2 67 (h.wants.map wanR) :: (scR 59 E ++ (otR 3 O ++ mtR 3 x.2)), []⟩) (fun x => h.mats.length - x.1) (0, []) ⟨by omega, rfl⟩
            (by simp only [mtR, List.map_nil, List.append_nil]; exact (ent_sub (.cons _ _ _ rfl (.cons _ _ _ rfl (.cons _ _ _ rfl (.cons _ _ _ rfl (.nil))))))) ?_
          rintro ⟨k, x⟩ ⟨hk, hx⟩
          simp only at hk hx
          have hxl := mid_len2 hx hk
          refine rn ?_
          refine aw_cond rfl (fun hc80 => ?_) (fun hc80 => ?_)
          · have hk2 : k < h.mats.length := by simpa using hc80
            obtain ⟨e, he⟩ : ∃ e, e = h.mats[k] := ⟨_, rfl⟩
            have hd := List.drop_eq_getElem_cons hk2
            rw [← he] at hd
            have hrow : (x.map matRw ++ (h.mats.drop k).map matR)[k]? = some (matR e) := mid_get hxl hd
            have hmem : e ∈ h.mats := by rw [he]; simp
            have hle := la.mats
            have hk3 : k < (x.map matRw ++ (h.mats.drop k).map matR).length := by rw [mid_len hxl hk]; exact hk2
            refine rn ?_
            refine aw_drawM 10 rfl ?_
            refine mq rfl rfl qrA ?_
            refine mq rfl rfl qrA ?_
            refine mq rfl rfl qrA ?_
            refine mq rfl rfl qrA ?_
            refine mq rfl rfl qrA ?_
            refine mq rfl rfl qrA ?_
            refine mq rfl rfl (qr_index_row rfl rfl hk3) ?_
            refine mq rfl rfl qrA ?_
            refine mq rfl rfl (qr_load_rp_one rfl hrow rfl) ?_
            refine mcall (mrow 1 3 (e.ts.map intR)) rfl rfl rfl (mk_row (FCall.of_fun (cloneRowInt _ (by simpa using (la.matts e hmem)) (one_int _)))) ?_
            refine mnil ⟨.refl _, ?_⟩
            refine rn ?_
            refine mal_row fun s91 => ?_
            refine rn2 ?_
            refine qq rfl rfl (qr_index_row rfl rfl hk3) ?_
            refine rn ?_
            refine aops_e rfl (oe_store_rp rfl rfl rfl hrow rfl (Nat.le_of_ble_eq_true rfl) ?_)
            refine rn ?_
            have hset := mid_set (f := matRw) (g := matR) (a := (s91, e)) (r := (matR e).take 3 ++ [.v s91.v] ++ (matR e).drop (3 + 1)) hxl hd rfl
            have htl : ∀ L L2 : List Res, L ++ (L2 ++ mtR 3 (x ++ [(s91, e)])) = (L ++ (L2 ++ mtR 3 x)) ++ [.row s91.v 1 3 (e.ts.map intR)] := by simp [mtR]
            exact ⟨(k + 1, x ++ [(s91, e)]), ⟨by omega, mid_snoc hx hk2 he⟩, by simp only [htl]; exact ent_trans (ent_perm (perm_swap [_] _)) (by rw [← hset]; exact (ent_sub (.cons _ _ _ rfl (.cons _ _ _ rfl (.cons _ _ _ rfl (.cons _ _ _ rfl (.nil))))))), by simp only; omega⟩
          · obtain rfl : k = h.mats.length := by
              have : h.mats.length ≤ k := by simpa using hc80
              omega
            rw [List.take_length] at hx
            obtain ⟨M, hM⟩ : ∃ M, M = x := ⟨_, rfl⟩
            rw [← hM] at hx ⊢
            have hxM := hx
            rw [List.drop_length, List.map_nil, List.append_nil]
            refine rn ?_
            exact retq (.cons _ _ _ _ (.agg _ _ _ _ _ _ _ rfl inferInstance inferInstance inferInstance rfl) .nil) (.drop [_, _] _ _) ⟨⟨s8, s11, s14, s17⟩, ⟨s24, s27, s30, s33, h.ts, h.ss, h.os, h.ps, E, O, M, h.wants⟩, by simp only [OH.hist, hxE, hxO, hxM], rfl, rfl⟩
end Go.Proofs
/- The walk of history.spoken, writing. Conditions: none. -/
set_option linter.unusedVariables false
set_option linter.unusedSimpArgs false
set_option maxRecDepth 10000
namespace Go.Proofs
open Go Go.Ab
attribute [local irreducible] QR QV OE aops aw dsoup dsoupM dalloc dallocM thn inBlk
open Go.H
theorem sayW {σ : Type} (f : σ → Nat → Int → Int × σ) (ok : Nat × Int → Prop) (I : σ → List Res → Prop) (y : AV) (hy : ∀ (s : σ) (L : List Res) (sort : Nat) (n : Int) (sl : Value) (sz k off : Nat) (T : TypeId) (rows rows' : List (List AV)) (row : List AV), ok (sort, n) → I s L → rows[k]? = some row → row[off]? = some (iv n) → rows.set k (row.take off ++ [iv (f s sort n).1] ++ row.drop (off + 1)) = rows' → FCall Tryz.prog y [iv sort, .rp sl sz k off] (.row sl sz T rows :: L) (fun r h' => ∃ L', r = bv true ∧ I (f s sort n).2 L' ∧ h' = .row sl sz T rows' :: L')) (sort : Nat) (n : Int) (sl : Value) (sz k off : Nat) (T : TypeId) (rows rows' : List (List AV)) (row : List AV) (hs : ok (sort, n)) (h1 : rows[k]? = some row) (h2 : row[off]? = some (iv n)) (bm by_ : Nat) (s : σ) (L : List Res) (hset : rows.set k (row.take off ++ [iv (f s sort n).1] ++ row.drop (off + 1)) = rows') (hI : I s L) : ACall Tryz.prog 75 [iv sort, .rp sl sz k off, .v (.pointer (some ⟨bm, 0, none⟩)), .v (.pointer (some ⟨by_, 0, none⟩))] (.box bm 4 [bv true] :: .box by_ 114 [y] :: .row sl sz T rows :: L) (fun r h' => ∃ G' L', h' = G' ++ L' ∧ G' = [.box bm 4 [bv true], .box by_ 114 [y], .row sl sz T rows'] ∧ I (f s sort n).2 L') := by
  refine acall_of_aw Tryz.func75 rfl rfl rfl ?_
  refine rn ?_
  refine aops_e rfl (oe_call rfl rfl (FCall.fr2 (hy s L sort n sl sz k off T rows rows' row hs hI h1 h2 hset)) rfl ?_)
  rintro _ _ ⟨_, rfl, L2, rfl, hI2, rfl⟩
  refine rn ?_
  exact retq_n .nil (.refl _ _) ⟨[_, _, _], L2, rfl, rfl, hI2⟩
theorem madeW {σ : Type} (f : σ → Nat → Int → Int × σ) (ok : Nat × Int → Prop) (I : σ → List Res → Prop) (y : AV) (hy : ∀ (s : σ) (L : List Res) (sort : Nat) (n : Int) (sl : Value) (sz k off : Nat) (T : TypeId) (rows rows' : List (List AV)) (row : List AV), ok (sort, n) → I s L → rows[k]? = some row → row[off]? = some (iv n) → rows.set k (row.take off ++ [iv (f s sort n).1] ++ row.drop (off + 1)) = rows' → FCall Tryz.prog y [iv sort, .rp sl sz k off] (.row sl sz T rows :: L) (fun r h' => ∃ L', r = bv true ∧ I (f s sort n).2 L' ∧ h' = .row sl sz T rows' :: L')) (v : Ver) (hv : ∀ x ∈ madeL v, ok x) (sl : Value) (sz k off : Nat) (T : TypeId) (rows rows' : List (List AV)) (row : List AV) (h1 : rows[k]? = some row) (h2 : row[off]? = some (iv v.t)) (h3 : row[off + 1]? = some (iv v.k)) (bs bm by_ : Nat) (s : σ) (L : List Res) (hset : rows.set k (row.take off ++ [iv (travVer f s v).1.t] ++ row.drop (off + 1)) = rows') (hI : I s L) : ACall Tryz.prog 76 [.rp sl sz k off, .v (.pointer (some ⟨bs, 0, none⟩))] (.box bs 115 [.fn (.func 75) [] [.v (.pointer (some ⟨bm, 0, none⟩)), .v (.pointer (some ⟨by_, 0, none⟩))]] :: .box bm 4 [bv true] :: .box by_ 114 [y] :: .row sl sz T rows :: L) (fun r h' => ∃ G' L', h' = G' ++ L' ∧ G' = [.box bs 115 [.fn (.func 75) [] [.v (.pointer (some ⟨bm, 0, none⟩)), .v (.pointer (some ⟨by_, 0, none⟩))]], .box bm 4 [bv true], .box by_ 114 [y], .row sl sz T rows'] ∧ I (travVer f s v).2 L') := by
  refine acall_of_aw Tryz.func76 rfl rfl rfl ?_
  refine aw_seq (aw_region ?_)
  refine q1 ?_
  refine q1 ?_
  refine q1 ?_
  refine qq rfl rfl (qr_load_rp_one rfl h1 h3) ?_
  refine rn ?_
  refine aw_cond rfl (fun hc7 => ?_) (fun hc7 => ?_)
  · refine aw_draw 4 rfl ?_
    refine rn ?_
    refine aops_e rfl (oe_call rfl rfl (FCall.around [_] [_, _, _] [] (FCall.of_acall (fs := []) (cs := [.v (.pointer (some ⟨bm, 0, none⟩)), .v (.pointer (some ⟨by_, 0, none⟩))]) (sayW f ok I y hy 0 v.t sl sz k (off + 0) T rows rows' row (hv _ (by rw [madeL, if_pos hc7]; simp)) h1 h2 bm by_ _ _ (by rw [← hset, travVer_1 f (of_decide_eq_true hc7)]; rfl) hI))) rfl ?_)
    rintro _ _ ⟨_, L, rfl, rfl, hI⟩
    refine rn ?_
    first
      | exact retq_n .nil (.refl _ _) ⟨[_, _, _, _], L, rfl, rfl, by rw [travVer_1 f (of_decide_eq_true hc7)]; exact hI⟩
      | (have hr : rows' = rows := by rw [← hset, travVer_0 f (of_decide_eq_false hc7)]; exact set_same h1 h2
         exact retq_n .nil (.refl _ _) ⟨[_, _, _, _], L, rfl, by rw [hr], by rw [travVer_0 f (of_decide_eq_false hc7)]; exact hI⟩)
  · refine rn ?_
    first
      | exact retq_n .nil (.refl _ _) ⟨[_, _, _, _], L, rfl, rfl, by rw [travVer_1 f (of_decide_eq_true hc7)]; exact hI⟩
      | (have hr : rows' = rows := by rw [← hset, travVer_0 f (of_decide_eq_false hc7)]; exact set_same h1 h2
         exact retq_n .nil (.refl _ _) ⟨[_, _, _, _], L, rfl, by rw [hr], by rw [travVer_0 f (of_decide_eq_false hc7)]; exact hI⟩)
theorem spokenW {σ : Type} (f : σ → Nat → Int → Int × σ) (ok : Nat × Int → Prop) (I : σ → List Res → Prop) (y : AV) (hone : y.cellsOf = some [y]) (hy : ∀ (s : σ) (L : List Res) (sort : Nat) (n : Int) (sl : Value) (sz k off : Nat) (T : TypeId) (rows rows' : List (List AV)) (row : List AV), ok (sort, n) → I s L → rows[k]? = some row → row[off]? = some (iv n) → rows.set k (row.take off ++ [iv (f s sort n).1] ++ row.drop (off + 1)) = rows' → FCall Tryz.prog y [iv sort, .rp sl sz k off] (.row sl sz T rows :: L) (fun r h' => ∃ L', r = bv true ∧ I (f s sort n).2 L' ∧ h' = .row sl sz T rows' :: L')) (o : OH) (la : Lim 4611686018427387904 o.hist) (c0 c1 c2 c3 : AV) (b1 bh : Nat) (hok0 : ∀ x ∈ spokenL o.hist, ok x) (s0 : σ) (L0 : List Res) (h0 : I s0 L0) : ACall Tryz.prog 74 [y, .v (.pointer (some ⟨b1, 0, none⟩))] (.box b1 72 [.v (.pointer (some ⟨bh, 0, none⟩))] :: .box bh 28 (c0 :: c1 :: c2 :: c3 :: o.cells) :: .row o.vE.v 9 39 (o.evs.map evRw) :: .row o.vR.v 2 61 (o.ords.map ordRw) :: .row o.vM.v 4 64 (o.mats.map matRw) :: .row o.vW.v 2 67 (o.wants.map wanR) :: (scR 59 o.evs ++ (otR 3 o.ords ++ (mtR 3 o.mats ++ L0)))) (fun r h' => ∃ (o' : OH) (L' : List Res), o'.hist = (travH f s0 o.hist).1 ∧ o'.cells = o.cells ∧ I (travH f s0 o.hist).2 L' ∧ h' = .box b1 72 [.v (.pointer (some ⟨bh, 0, none⟩))] :: .box bh 28 (c0 :: c1 :: c2 :: c3 :: o.cells) :: ohF o' L') := by
  refine acall_of_aw Tryz.func74 rfl rfl rfl ?_
  refine rn ?_
  refine aops_e rfl (oe_box rfl hone rfl fun by_ => ?_)
  refine rn ?_
  refine aops_e rfl (oe_alloc rfl fun bm => ?_)
  refine rn ?_
  refine aops_e rfl (oe_alloc rfl fun bs => ?_)
  refine rn ?_
  refine aw_loop' (fun x : Nat × List (SV × Ev) × List (SV × Ev) × σ × List Res => x.2.1.length = x.1 ∧ x.1 + x.2.2.1.length = o.evs.length ∧ Went (travEv f) (travL (travEv f) s0 (o.evs.map (·.2))) (x.2.1.map (·.2)) x.2.2.2.1 (x.2.2.1.map (·.2)) ∧ (∀ q ∈ x.2.2.1, (∀ z ∈ evL q.2, ok z) ∧ q.2.scan.length ≤ 4611686018427387904) ∧ I x.2.2.2.1 x.2.2.2.2) (fun x => ⟨[(22, iv x.1), (21, iv (o.evs.map evRw).length), (1, .v (.pointer (some ⟨b1, 0, none⟩))), (4, .v (.pointer (some ⟨bs, 0, none⟩))), (5, .fn (.func 76) [] [.v (.pointer (some ⟨bs, 0, none⟩))])], .box b1 72 [.v (.pointer (some ⟨bh, 0, none⟩))] :: .box bh 28 (c0 :: c1 :: c2 :: c3 :: o.cells) :: .box bs 115 [.fn (.func 75) [] [.v (.pointer (some ⟨bm, 0, none⟩)), .v (.pointer (some ⟨by_, 0, none⟩))]] :: .box bm 4 [bv true] :: .box by_ 114 [y] :: .row o.vE.v 9 39 (x.2.1.map evRw ++ x.2.2.1.map evRw) :: .row o.vR.v 2 61 (o.ords.map ordRw) :: .row o.vM.v 4 64 (o.mats.map matRw) :: .row o.vW.v 2 67 (o.wants.map wanR) :: (scR 59 x.2.1 ++ (scR 59 x.2.2.1 ++ (otR 3 o.ords ++ (mtR 3 o.mats ++ x.2.2.2.2)))), []⟩) (fun x => x.2.2.1.length) (0, [], o.evs, s0, L0) ⟨rfl, by simp, .start, fun q hq => ⟨fun z hz => hok0 z (by simp only [spokenL, OH.hist, List.mem_append, List.mem_flatMap, List.mem_map]; exact .inl ⟨q.2, ⟨q, hq, rfl⟩, hz⟩), la.scans q.2 (by simp only [OH.hist, List.mem_map]; exact ⟨q, hq, rfl⟩)⟩, h0⟩
    (ent_trans (ent_pcs (l1 := [[.box bs 115 [.fn (.func 75) [] [.v (.pointer (some ⟨bm, 0, none⟩)), .v (.pointer (some ⟨by_, 0, none⟩))]]], [.box bm 4 [bv true]], [.box by_ 114 [y]], [.box b1 72 [.v (.pointer (some ⟨bh, 0, none⟩))]], [.box bh 28 (c0 :: c1 :: c2 :: c3 :: o.cells)], [.row o.vE.v 9 39 (o.evs.map evRw)], [.row o.vR.v 2 61 (o.ords.map ordRw), .row o.vM.v 4 64 (o.mats.map matRw), .row o.vW.v 2 67 (o.wants.map wanR)], scR 59 o.evs, otR 3 o.ords, mtR 3 o.mats]) (l2 := [[.box b1 72 [.v (.pointer (some ⟨bh, 0, none⟩))]], [.box bh 28 (c0 :: c1 :: c2 :: c3 :: o.cells)], [.box bs 115 [.fn (.func 75) [] [.v (.pointer (some ⟨bm, 0, none⟩)), .v (.pointer (some ⟨by_, 0, none⟩))]]], [.box bm 4 [bv true]], [.box by_ 114 [y]], [.row o.vE.v 9 39 (o.evs.map evRw)], [.row o.vR.v 2 61 (o.ords.map ordRw), .row o.vM.v 4 64 (o.mats.map matRw), .row o.vW.v 2 67 (o.wants.map wanR)], scR 59 o.evs, otR 3 o.ords, mtR 3 o.mats]) ((pt3 _ _ _ _ _).trans (.cons _ (pt3 _ _ _ _ _)))) (ent_sub (.cons _ _ _ rfl (.cons _ _ _ rfl (.cons _ _ _ rfl (.cons _ _ _ rfl (.cons _ _ _ rfl (.nil)))))))) ?_
  rintro ⟨k, ed, er, sa, L⟩ ⟨hk, hn, hw, hok, hI⟩
  simp only at hk hn hw hok hI
  refine rn ?_
  refine aw_cond rfl (fun hc23 => ?_) (fun hc23 => ?_)
  · have hk2 : k < o.evs.length := by simpa using hc23
    obtain ⟨⟨sv, e⟩, er, rfl⟩ : ∃ p r, er = p :: r := by
      cases er with
      | nil => simp at hn; omega
      | cons p r => exact ⟨p, r, rfl⟩
    obtain ⟨hq, hok⟩ := List.forall_mem_cons.1 hok
    simp only [List.length_cons] at hn
    obtain ⟨hq, hls⟩ := hq
    simp only at hq hls
    have hle : o.evs.length ≤ 4611686018427387904 := by have := la.evs; simpa [OH.hist] using this
    have hrow := at_get (f := evRw) (A := ed) (B := er) (b := (sv, e)) hk
    have hk3 := at_len (f := evRw) (A := ed) (B := er) (b := (sv, e)) hk
    refine rn ?_
    refine aw_draw 4 rfl ?_
    refine rn ?_
    obtain ⟨e1, he1⟩ : ∃ e1 : Ev, e1 = { e with t := (f sa 0 e.t).1 } := ⟨_, rfl⟩
    obtain ⟨s1, hs1⟩ : ∃ s1, s1 = (f sa 0 e.t).2 := ⟨_, rfl⟩
    have hkk : kindL e1 = kindL e := by rw [he1]; rfl
    have hkx : ∀ z ∈ kindL e1, ok z := fun z hz => hq z (by rw [hkk] at hz; simp [evL, hz])
    refine aops_e rfl (oe_call rfl rfl (FCall.around [_, _, _] [_, _, _] [[.row o.vR.v 2 61 (o.ords.map ordRw), .row o.vM.v 4 64 (o.mats.map matRw), .row o.vW.v 2 67 (o.wants.map wanR)], scR 59 ed, scR 59 ((sv, e) :: er), otR 3 o.ords, mtR 3 o.mats] (FCall.of_acall (fs := []) (cs := [.v (.pointer (some ⟨bm, 0, none⟩)), .v (.pointer (some ⟨by_, 0, none⟩))]) (sayW f ok I y hy 0 e.t _ _ _ _ _ _ _ _ (hq _ (by simp [evL])) (at_get hk) rfl bm by_ _ _ (at_set (f := evRw) (A := ed) (a := (sv, e1)) (B := er) hk (by rw [he1]; rfl)) hI))) rfl ?_)
    rintro _ _ ⟨_, L, rfl, rfl, hI⟩
    show aops _ _ _ _ _ _ ⟨_, .box b1 72 [.v (.pointer (some ⟨bh, 0, none⟩))] :: .box bh 28 (c0 :: c1 :: c2 :: c3 :: o.cells) :: .box bs 115 [.fn (.func 75) [] [.v (.pointer (some ⟨bm, 0, none⟩)), .v (.pointer (some ⟨by_, 0, none⟩))]] :: .box bm 4 [bv true] :: .box by_ 114 [y] :: .row o.vE.v 9 39 (ed.map evRw ++ ((sv, e1) :: er).map evRw) :: .row o.vR.v 2 61 (o.ords.map ordRw) :: .row o.vM.v 4 64 (o.mats.map matRw) :: .row o.vW.v 2 67 (o.wants.map wanR) :: (scR 59 ed ++ (scR 59 ((sv, e) :: er) ++ (otR 3 o.ords ++ (mtR 3 o.mats ++ L)))), _⟩
    rw [← hs1] at hI
    have hrow := at_get (f := evRw) (A := ed) (B := er) (b := (sv, e1)) hk
    have hk3 := at_len (f := evRw) (A := ed) (B := er) (b := (sv, e1)) hk
    refine rn0 ?_
    refine aw_cutE (fun L => I (travKind f s1 e1).2 L) (fun L => ⟨[(7, .rp o.vE.v 9 k 0), (22, iv k), (21, iv (o.evs.map evRw).length), (1, .v (.pointer (some ⟨b1, 0, none⟩))), (4, .v (.pointer (some ⟨bs, 0, none⟩))), (5, .fn (.func 76) [] [.v (.pointer (some ⟨bs, 0, none⟩))])], .box b1 72 [.v (.pointer (some ⟨bh, 0, none⟩))] :: .box bh 28 (c0 :: c1 :: c2 :: c3 :: o.cells) :: .box bs 115 [.fn (.func 75) [] [.v (.pointer (some ⟨bm, 0, none⟩)), .v (.pointer (some ⟨by_, 0, none⟩))]] :: .box bm 4 [bv true] :: .box by_ 114 [y] :: .row o.vE.v 9 39 (ed.map evRw ++ ((sv, (travKind f s1 e1).1) :: er).map evRw) :: .row o.vR.v 2 61 (o.ords.map ordRw) :: .row o.vM.v 4 64 (o.mats.map matRw) :: .row o.vW.v 2 67 (o.wants.map wanR) :: (scR 59 ed ++ (scR 59 ((sv, e) :: er) ++ (otR 3 o.ords ++ (mtR 3 o.mats ++ L)))), []⟩) ?_ ?_
    · refine rn ?_
      refine aw_cond rfl (fun hc40 => ?_) (fun hc40 => ?_)
      · have hkt := travKind_1 f (s := s1) (e := e1) (by simpa using hc40)
        have hkl := kindL_1 (e := e1) (by simpa using hc40)
        refine aw_draw 4 rfl ?_
        refine rn ?_
        refine aops_e rfl (oe_call rfl rfl (FCall.around [_, _, _] [_, _, _] [[.row o.vR.v 2 61 (o.ords.map ordRw), .row o.vM.v 4 64 (o.mats.map matRw), .row o.vW.v 2 67 (o.wants.map wanR)], scR 59 ed, scR 59 ((sv, e) :: er), otR 3 o.ords, mtR 3 o.mats] (FCall.of_acall (fs := []) (cs := [.v (.pointer (some ⟨bm, 0, none⟩)), .v (.pointer (some ⟨by_, 0, none⟩))]) (sayW f ok I y hy 1 e1.s _ _ _ _ _ _ _ _ (hkx _ (by rw [hkl]; simp)) (at_get hk) rfl bm by_ _ _ (at_set (f := evRw) (A := ed) (a := (sv, (travKind f s1 e1).1)) (B := er) hk (by rw [hkt]; rfl)) hI))) rfl ?_)
        rintro _ _ ⟨_, L, rfl, rfl, hI⟩
        show aops _ _ _ _ _ _ ⟨_, .box b1 72 [.v (.pointer (some ⟨bh, 0, none⟩))] :: .box bh 28 (c0 :: c1 :: c2 :: c3 :: o.cells) :: .box bs 115 [.fn (.func 75) [] [.v (.pointer (some ⟨bm, 0, none⟩)), .v (.pointer (some ⟨by_, 0, none⟩))]] :: .box bm 4 [bv true] :: .box by_ 114 [y] :: .row o.vE.v 9 39 (ed.map evRw ++ ((sv, (travKind f s1 e1).1) :: er).map evRw) :: .row o.vR.v 2 61 (o.ords.map ordRw) :: .row o.vM.v 4 64 (o.mats.map matRw) :: .row o.vW.v 2 67 (o.wants.map wanR) :: (scR 59 ed ++ (scR 59 ((sv, e) :: er) ++ (otR 3 o.ords ++ (mtR 3 o.mats ++ L)))), _⟩
        refine rn ?_
        refine ⟨L, ?_, ?_⟩
        · show I (travKind f s1 e1).2 L
          rw [hkt]; exact hI
        · rw [hkt]; exact (ent_sub (.cons _ _ _ rfl (.cons _ _ _ rfl (.cons _ _ _ rfl (.cons _ _ _ rfl (.cons _ _ _ rfl (.cons _ _ _ rfl (.nil))))))))
      · have hn1 : e1.kind ≠ 1 := by simpa using hc40
        refine rn ?_
        refine aw_cond rfl (fun hc47 => ?_) (fun hc47 => ?_)
        · have hk23 : e1.kind = 2 ∨ e1.kind = 3 := by simp at hc47; omega
          have hkt := travKind_2 f (s := s1) hk23
          have hkl := kindL_2 hk23
          refine rn ?_
          refine aw_cond rfl (fun hc47 => ?_) (fun hc47 => ?_)
          · have hk23 : e1.kind = 2 ∨ e1.kind = 3 := by simp at hc47; omega
            have hkt := travKind_2 f (s := s1) hk23
            have hkl := kindL_2 hk23
            refine rn ?_
            refine aw_draw 4 rfl ?_
            refine rn ?_
            refine aops_e rfl (oe_call rfl rfl (FCall.around [_, _, _] [_, _, _] [[.row o.vR.v 2 61 (o.ords.map ordRw), .row o.vM.v 4 64 (o.mats.map matRw), .row o.vW.v 2 67 (o.wants.map wanR)], scR 59 ed, scR 59 ((sv, e) :: er), otR 3 o.ords, mtR 3 o.mats] (FCall.of_acall (fs := []) (cs := [.v (.pointer (some ⟨bm, 0, none⟩)), .v (.pointer (some ⟨by_, 0, none⟩))]) (sayW f ok I y hy 2 e1.o _ _ _ _ _ _ _ _ (hkx _ (by rw [hkl]; simp)) (at_get hk) rfl bm by_ _ _ (at_set (f := evRw) (A := ed) (a := (sv, { e1 with o := (f s1 2 e1.o).1 })) (B := er) hk rfl) hI))) rfl ?_)
            rintro _ _ ⟨_, L, rfl, rfl, hI⟩
            show aops _ _ _ _ _ _ ⟨_, .box b1 72 [.v (.pointer (some ⟨bh, 0, none⟩))] :: .box bh 28 (c0 :: c1 :: c2 :: c3 :: o.cells) :: .box bs 115 [.fn (.func 75) [] [.v (.pointer (some ⟨bm, 0, none⟩)), .v (.pointer (some ⟨by_, 0, none⟩))]] :: .box bm 4 [bv true] :: .box by_ 114 [y] :: .row o.vE.v 9 39 (ed.map evRw ++ ((sv, { e1 with o := (f s1 2 e1.o).1 }) :: er).map evRw) :: .row o.vR.v 2 61 (o.ords.map ordRw) :: .row o.vM.v 4 64 (o.mats.map matRw) :: .row o.vW.v 2 67 (o.wants.map wanR) :: (scR 59 ed ++ (scR 59 ((sv, e) :: er) ++ (otR 3 o.ords ++ (mtR 3 o.mats ++ L)))), _⟩
            have hrow := at_get (f := evRw) (A := ed) (B := er) (b := (sv, { e1 with o := (f s1 2 e1.o).1 })) hk
            have hk3 := at_len (f := evRw) (A := ed) (B := er) (b := (sv, { e1 with o := (f s1 2 e1.o).1 })) hk
            refine rn ?_
            refine aops_e rfl (oe_call rfl rfl (FCall.around [_, _] [_, _, _, _] [[.row o.vR.v 2 61 (o.ords.map ordRw), .row o.vM.v 4 64 (o.mats.map matRw), .row o.vW.v 2 67 (o.wants.map wanR)], scR 59 ed, scR 59 ((sv, e) :: er), otR 3 o.ords, mtR 3 o.mats] (FCall.of_acall (fs := []) (cs := [.v (.pointer (some ⟨bs, 0, none⟩))]) (madeW f ok I y hy e1.v (fun x hx => hkx x (by rw [hkl]; simp [hx])) _ _ _ _ _ _ _ _ (at_get hk) rfl rfl bs bm by_ _ _ (at_set (f := evRw) (A := ed) (a := (sv, (travKind f s1 e1).1)) (B := er) hk (by rw [hkt]; simp [evRw, travVer_k])) hI))) rfl ?_)
            rintro _ _ ⟨_, L, rfl, rfl, hI⟩
            show aops _ _ _ _ _ _ ⟨_, .box b1 72 [.v (.pointer (some ⟨bh, 0, none⟩))] :: .box bh 28 (c0 :: c1 :: c2 :: c3 :: o.cells) :: .box bs 115 [.fn (.func 75) [] [.v (.pointer (some ⟨bm, 0, none⟩)), .v (.pointer (some ⟨by_, 0, none⟩))]] :: .box bm 4 [bv true] :: .box by_ 114 [y] :: .row o.vE.v 9 39 (ed.map evRw ++ ((sv, (travKind f s1 e1).1) :: er).map evRw) :: .row o.vR.v 2 61 (o.ords.map ordRw) :: .row o.vM.v 4 64 (o.mats.map matRw) :: .row o.vW.v 2 67 (o.wants.map wanR) :: (scR 59 ed ++ (scR 59 ((sv, e) :: er) ++ (otR 3 o.ords ++ (mtR 3 o.mats ++ L)))), _⟩
            refine rn ?_
            refine ⟨L, ?_, ?_⟩
            · show I (travKind f s1 e1).2 L
              rw [hkt]; exact hI
            · rw [hkt]; exact (ent_sub (.cons _ _ _ rfl (.cons _ _ _ rfl (.cons _ _ _ rfl (.cons _ _ _ rfl (.cons _ _ _ rfl (.cons _ _ _ rfl (.nil))))))))
          · first | cases hc47 | exact absurd hc47 (by decide) | (exfalso; simp_all; done)
        · have hn23 := hc47
          simp at hn23
          refine rn ?_
          refine aw_cond rfl (fun hc47 => ?_) (fun hc47 => ?_)
          · have hk23 : e1.kind = 2 ∨ e1.kind = 3 := by simp at hc47; omega
            have hkt := travKind_2 f (s := s1) hk23
            have hkl := kindL_2 hk23
            refine rn ?_
            refine aw_draw 4 rfl ?_
            refine rn ?_
            refine aops_e rfl (oe_call rfl rfl (FCall.around [_, _, _] [_, _, _] [[.row o.vR.v 2 61 (o.ords.map ordRw), .row o.vM.v 4 64 (o.mats.map matRw), .row o.vW.v 2 67 (o.wants.map wanR)], scR 59 ed, scR 59 ((sv, e) :: er), otR 3 o.ords, mtR 3 o.mats] (FCall.of_acall (fs := []) (cs := [.v (.pointer (some ⟨bm, 0, none⟩)), .v (.pointer (some ⟨by_, 0, none⟩))]) (sayW f ok I y hy 2 e1.o _ _ _ _ _ _ _ _ (hkx _ (by rw [hkl]; simp)) (at_get hk) rfl bm by_ _ _ (at_set (f := evRw) (A := ed) (a := (sv, { e1 with o := (f s1 2 e1.o).1 })) (B := er) hk rfl) hI))) rfl ?_)
            rintro _ _ ⟨_, L, rfl, rfl, hI⟩
            show aops _ _ _ _ _ _ ⟨_, .box b1 72 [.v (.pointer (some ⟨bh, 0, none⟩))] :: .box bh 28 (c0 :: c1 :: c2 :: c3 :: o.cells) :: .box bs 115 [.fn (.func 75) [] [.v (.pointer (some ⟨bm, 0, none⟩)), .v (.pointer (some ⟨by_, 0, none⟩))]] :: .box bm 4 [bv true] :: .box by_ 114 [y] :: .row o.vE.v 9 39 (ed.map evRw ++ ((sv, { e1 with o := (f s1 2 e1.o).1 }) :: er).map evRw) :: .row o.vR.v 2 61 (o.ords.map ordRw) :: .row o.vM.v 4 64 (o.mats.map matRw) :: .row o.vW.v 2 67 (o.wants.map wanR) :: (scR 59 ed ++ (scR 59 ((sv, e) :: er) ++ (otR 3 o.ords ++ (mtR 3 o.mats ++ L)))), _⟩
            have hrow := at_get (f := evRw) (A := ed) (B := er) (b := (sv, { e1 with o := (f s1 2 e1.o).1 })) hk
            have hk3 := at_len (f := evRw) (A := ed) (B := er) (b := (sv, { e1 with o := (f s1 2 e1.o).1 })) hk
            refine rn ?_
            refine aops_e rfl (oe_call rfl rfl (FCall.around [_, _] [_, _, _, _] [[.row o.vR.v 2 61 (o.ords.map ordRw), .row o.vM.v 4 64 (o.mats.map matRw), .row o.vW.v 2 67 (o.wants.map wanR)], scR 59 ed, scR 59 ((sv, e) :: er), otR 3 o.ords, mtR 3 o.mats] (FCall.of_acall (fs := []) (cs := [.v (.pointer (some ⟨bs, 0, none⟩))]) (madeW f ok I y hy e1.v (fun x hx => hkx x (by rw [hkl]; simp [hx])) _ _ _ _ _ _ _ _ (at_get hk) rfl rfl bs bm by_ _ _ (at_set (f := evRw) (A := ed) (a := (sv, (travKind f s1 e1).1)) (B := er) hk (by rw [hkt]; simp [evRw, travVer_k])) hI))) rfl ?_)
            rintro _ _ ⟨_, L, rfl, rfl, hI⟩
            show aops _ _ _ _ _ _ ⟨_, .box b1 72 [.v (.pointer (some ⟨bh, 0, none⟩))] :: .box bh 28 (c0 :: c1 :: c2 :: c3 :: o.cells) :: .box bs 115 [.fn (.func 75) [] [.v (.pointer (some ⟨bm, 0, none⟩)), .v (.pointer (some ⟨by_, 0, none⟩))]] :: .box bm 4 [bv true] :: .box by_ 114 [y] :: .row o.vE.v 9 39 (ed.map evRw ++ ((sv, (travKind f s1 e1).1) :: er).map evRw) :: .row o.vR.v 2 61 (o.ords.map ordRw) :: .row o.vM.v 4 64 (o.mats.map matRw) :: .row o.vW.v 2 67 (o.wants.map wanR) :: (scR 59 ed ++ (scR 59 ((sv, e) :: er) ++ (otR 3 o.ords ++ (mtR 3 o.mats ++ L)))), _⟩
            refine rn ?_
            refine ⟨L, ?_, ?_⟩
            · show I (travKind f s1 e1).2 L
              rw [hkt]; exact hI
            · rw [hkt]; exact (ent_sub (.cons _ _ _ rfl (.cons _ _ _ rfl (.cons _ _ _ rfl (.cons _ _ _ rfl (.cons _ _ _ rfl (.cons _ _ _ rfl (.nil))))))))
          · have hn23 := hc47
            simp at hn23
            refine rn ?_
            refine aw_cond rfl (fun hc60 => ?_) (fun hc60 => ?_)
            · have hkt := travKind_4 f (s := s1) (e := e1) (by simpa using hc60)
              have hkl := kindL_4 (e := e1) (by simpa using hc60)
              refine aw_draw 4 rfl ?_
              refine rn ?_
              refine aops_e rfl (oe_call rfl rfl (FCall.around [_, _, _] [_, _, _] [[.row o.vR.v 2 61 (o.ords.map ordRw), .row o.vM.v 4 64 (o.mats.map matRw), .row o.vW.v 2 67 (o.wants.map wanR)], scR 59 ed, scR 59 ((sv, e) :: er), otR 3 o.ords, mtR 3 o.mats] (FCall.of_acall (fs := []) (cs := [.v (.pointer (some ⟨bm, 0, none⟩)), .v (.pointer (some ⟨by_, 0, none⟩))]) (sayW f ok I y hy 3 e1.p _ _ _ _ _ _ _ _ (hkx _ (by rw [hkl]; simp)) (at_get hk) rfl bm by_ _ _ (at_set (f := evRw) (A := ed) (a := (sv, (travKind f s1 e1).1)) (B := er) hk (by rw [hkt]; rfl)) hI))) rfl ?_)
              rintro _ _ ⟨_, L, rfl, rfl, hI⟩
              show aops _ _ _ _ _ _ ⟨_, .box b1 72 [.v (.pointer (some ⟨bh, 0, none⟩))] :: .box bh 28 (c0 :: c1 :: c2 :: c3 :: o.cells) :: .box bs 115 [.fn (.func 75) [] [.v (.pointer (some ⟨bm, 0, none⟩)), .v (.pointer (some ⟨by_, 0, none⟩))]] :: .box bm 4 [bv true] :: .box by_ 114 [y] :: .row o.vE.v 9 39 (ed.map evRw ++ ((sv, (travKind f s1 e1).1) :: er).map evRw) :: .row o.vR.v 2 61 (o.ords.map ordRw) :: .row o.vM.v 4 64 (o.mats.map matRw) :: .row o.vW.v 2 67 (o.wants.map wanR) :: (scR 59 ed ++ (scR 59 ((sv, e) :: er) ++ (otR 3 o.ords ++ (mtR 3 o.mats ++ L)))), _⟩
              refine rn ?_
              refine ⟨L, ?_, ?_⟩
              · show I (travKind f s1 e1).2 L
                rw [hkt]; exact hI
              · rw [hkt]; exact (ent_sub (.cons _ _ _ rfl (.cons _ _ _ rfl (.cons _ _ _ rfl (.cons _ _ _ rfl (.cons _ _ _ rfl (.cons _ _ _ rfl (.nil))))))))
            · have hn4 : e1.kind ≠ 4 := by simpa using hc60
              have hkt := travKind_0 f (s := s1) (e := e1) hn1 (by omega) (by omega) hn4
              refine rn ?_
              refine ⟨L, ?_, ?_⟩
              · show I (travKind f s1 e1).2 L
                rw [hkt]; exact hI
              · rw [hkt]; exact (ent_sub (.cons _ _ _ rfl (.cons _ _ _ rfl (.cons _ _ _ rfl (.cons _ _ _ rfl (.cons _ _ _ rfl (.cons _ _ _ rfl (.nil))))))))
    · rintro L hI
      obtain ⟨e2, he2⟩ : ∃ e2, e2 = (travKind f s1 e1).1 := ⟨_, rfl⟩
      obtain ⟨s2, hs2⟩ : ∃ s2, s2 = (travKind f s1 e1).2 := ⟨_, rfl⟩
      rw [← he2]
      rw [← hs2] at hI
      have hin : ∀ z ∈ e.scan, ∀ w ∈ seenL z, ok w := fun z hz w hw => hq w (by simp only [evL, List.mem_cons, List.mem_append, List.mem_flatMap]; exact .inr (.inr ⟨z, hz, hw⟩))
      refine aw_ent (s' := ⟨[(7, .rp o.vE.v 9 k 0), (22, iv k), (21, iv (o.evs.map evRw).length), (1, .v (.pointer (some ⟨b1, 0, none⟩))), (4, .v (.pointer (some ⟨bs, 0, none⟩))), (5, .fn (.func 76) [] [.v (.pointer (some ⟨bs, 0, none⟩))])], .row o.vE.v 9 39 (ed.map evRw ++ ((sv, e2) :: er).map evRw) :: .box b1 72 [.v (.pointer (some ⟨bh, 0, none⟩))] :: .box bh 28 (c0 :: c1 :: c2 :: c3 :: o.cells) :: .box bs 115 [.fn (.func 75) [] [.v (.pointer (some ⟨bm, 0, none⟩)), .v (.pointer (some ⟨by_, 0, none⟩))]] :: .box bm 4 [bv true] :: .box by_ 114 [y] :: .row sv.v 3 59 (e.scan.map seenR) :: .row o.vR.v 2 61 (o.ords.map ordRw) :: .row o.vM.v 4 64 (o.mats.map matRw) :: .row o.vW.v 2 67 (o.wants.map wanR) :: (scR 59 ed ++ (scR 59 er ++ (otR 3 o.ords ++ (mtR 3 o.mats ++ L)))), []⟩) (ent_pcs (l1 := [[.box b1 72 [.v (.pointer (some ⟨bh, 0, none⟩))], .box bh 28 (c0 :: c1 :: c2 :: c3 :: o.cells), .box bs 115 [.fn (.func 75) [] [.v (.pointer (some ⟨bm, 0, none⟩)), .v (.pointer (some ⟨by_, 0, none⟩))]]], [.box bm 4 [bv true], .box by_ 114 [y]], [.row o.vE.v 9 39 (ed.map evRw ++ ((sv, e2) :: er).map evRw)], [.row o.vR.v 2 61 (o.ords.map ordRw), .row o.vM.v 4 64 (o.mats.map matRw), .row o.vW.v 2 67 (o.wants.map wanR)], scR 59 ed, [.row sv.v 3 59 (e.scan.map seenR)], scR 59 er, otR 3 o.ords, mtR 3 o.mats]) (l2 := [[.row o.vE.v 9 39 (ed.map evRw ++ ((sv, e2) :: er).map evRw)], [.box b1 72 [.v (.pointer (some ⟨bh, 0, none⟩))], .box bh 28 (c0 :: c1 :: c2 :: c3 :: o.cells), .box bs 115 [.fn (.func 75) [] [.v (.pointer (some ⟨bm, 0, none⟩)), .v (.pointer (some ⟨by_, 0, none⟩))]]], [.box bm 4 [bv true], .box by_ 114 [y]], [.row sv.v 3 59 (e.scan.map seenR)], [.row o.vR.v 2 61 (o.ords.map ordRw), .row o.vM.v 4 64 (o.mats.map matRw), .row o.vW.v 2 67 (o.wants.map wanR)], scR 59 ed, scR 59 er, otR 3 o.ords, mtR 3 o.mats]) ((pt2 _ _ _ _).trans (.cons _ (.cons _ (.cons _ (pt2 _ _ _ _)))))) ?_
      have hrow := at_get (f := evRw) (A := ed) (B := er) (b := (sv, e2)) hk
      have hk3 := at_len (f := evRw) (A := ed) (B := er) (b := (sv, e2)) hk
      refine rn ?_
      refine aw_loop' (fun x : Nat × List Seen × List Seen × σ × List Res => x.2.1.length = x.1 ∧ x.1 + x.2.2.1.length = e.scan.length ∧ Went (travSeen f) (travL (travSeen f) s2 e.scan) x.2.1 x.2.2.2.1 x.2.2.1 ∧ (∀ z ∈ x.2.2.1, ∀ w ∈ seenL z, ok w) ∧ I x.2.2.2.1 x.2.2.2.2) (fun x => ⟨[(72, iv x.1), (71, iv (e.scan.map seenR).length), (7, .rp o.vE.v 9 k 0), (22, iv k), (21, iv (o.evs.map evRw).length), (1, .v (.pointer (some ⟨b1, 0, none⟩))), (4, .v (.pointer (some ⟨bs, 0, none⟩))), (5, .fn (.func 76) [] [.v (.pointer (some ⟨bs, 0, none⟩))])], .row o.vE.v 9 39 (ed.map evRw ++ ((sv, e2) :: er).map evRw) :: .box b1 72 [.v (.pointer (some ⟨bh, 0, none⟩))] :: .box bh 28 (c0 :: c1 :: c2 :: c3 :: o.cells) :: .box bs 115 [.fn (.func 75) [] [.v (.pointer (some ⟨bm, 0, none⟩)), .v (.pointer (some ⟨by_, 0, none⟩))]] :: .box bm 4 [bv true] :: .box by_ 114 [y] :: .row sv.v 3 59 (x.2.1.map seenR ++ x.2.2.1.map seenR) :: .row o.vR.v 2 61 (o.ords.map ordRw) :: .row o.vM.v 4 64 (o.mats.map matRw) :: .row o.vW.v 2 67 (o.wants.map wanR) :: (scR 59 ed ++ (scR 59 er ++ (otR 3 o.ords ++ (mtR 3 o.mats ++ x.2.2.2.2)))), []⟩) (fun x => x.2.2.1.length) (0, [], e.scan, s2, L) ⟨rfl, by simp, .start, hin, hI⟩
        (ent_sub (.cons _ _ _ rfl (.cons _ _ _ rfl (.cons _ _ _ rfl (.cons _ _ _ rfl (.cons _ _ _ rfl (.cons _ _ _ rfl (.cons _ _ _ rfl (.cons _ _ _ rfl (.nil)))))))))) ?_
      rintro ⟨j, sd, sr, u, L⟩ ⟨hj, hjn, hws, hsk, hI⟩
      simp only at hj hjn hws hsk hI
      refine rn ?_
      refine aw_cond rfl (fun hc73 => ?_) (fun hc73 => ?_)
      · have hk2 : j < e.scan.length := by simpa using hc73
        obtain ⟨x, sr, rfl⟩ : ∃ p r, sr = p :: r := by
          cases sr with
          | nil => simp at hjn; omega
          | cons p r => exact ⟨p, r, rfl⟩
        obtain ⟨hx, hsk⟩ := List.forall_mem_cons.1 hsk
        simp only [List.length_cons] at hjn
        have hrowx := at_get (f := seenR) (A := sd) (B := sr) (b := x) hj
        have hkx3 := at_len (f := seenR) (A := sd) (B := sr) (b := x) hj
        refine rn ?_
        refine aw_draw 8 rfl ?_
        refine rn ?_
        obtain ⟨x1, hx1⟩ : ∃ x1 : Seen, x1 = { x with o := (f u 2 x.o).1 } := ⟨_, rfl⟩
        refine aops_e rfl (oe_call rfl rfl (FCall.around [_, _, _, _] [_, _, _] [[.row o.vR.v 2 61 (o.ords.map ordRw), .row o.vM.v 4 64 (o.mats.map matRw), .row o.vW.v 2 67 (o.wants.map wanR)], scR 59 ed, scR 59 er, otR 3 o.ords, mtR 3 o.mats] (FCall.of_acall (fs := []) (cs := [.v (.pointer (some ⟨bm, 0, none⟩)), .v (.pointer (some ⟨by_, 0, none⟩))]) (sayW f ok I y hy 2 x.o _ _ _ _ _ _ _ _ (hx _ (by simp [seenL])) (at_get hj) rfl bm by_ _ _ (at_set (f := seenR) (A := sd) (a := x1) (B := sr) hj (by rw [hx1]; rfl)) hI))) rfl ?_)
        rintro _ _ ⟨_, L, rfl, rfl, hI⟩
        show aops _ _ _ _ _ _ ⟨_, .row o.vE.v 9 39 (ed.map evRw ++ ((sv, e2) :: er).map evRw) :: .box b1 72 [.v (.pointer (some ⟨bh, 0, none⟩))] :: .box bh 28 (c0 :: c1 :: c2 :: c3 :: o.cells) :: .box bs 115 [.fn (.func 75) [] [.v (.pointer (some ⟨bm, 0, none⟩)), .v (.pointer (some ⟨by_, 0, none⟩))]] :: .box bm 4 [bv true] :: .box by_ 114 [y] :: .row sv.v 3 59 (sd.map seenR ++ (x1 :: sr).map seenR) :: .row o.vR.v 2 61 (o.ords.map ordRw) :: .row o.vM.v 4 64 (o.mats.map matRw) :: .row o.vW.v 2 67 (o.wants.map wanR) :: (scR 59 ed ++ (scR 59 er ++ (otR 3 o.ords ++ (mtR 3 o.mats ++ L)))), _⟩
        have hrowx := at_get (f := seenR) (A := sd) (B := sr) (b := x1) hj
        have hkx3 := at_len (f := seenR) (A := sd) (B := sr) (b := x1) hj
        refine rn ?_
        refine aops_e rfl (oe_call rfl rfl (FCall.around [_, _, _] [_, _, _, _] [[.row o.vR.v 2 61 (o.ords.map ordRw), .row o.vM.v 4 64 (o.mats.map matRw), .row o.vW.v 2 67 (o.wants.map wanR)], scR 59 ed, scR 59 er, otR 3 o.ords, mtR 3 o.mats] (FCall.of_acall (fs := []) (cs := [.v (.pointer (some ⟨bs, 0, none⟩))]) (madeW f ok I y hy x1.v (fun w hw => hx w (by rw [hx1] at hw; simp [seenL, hw])) _ _ _ _ _ _ _ _ (at_get hj) rfl rfl bs bm by_ _ _ (at_set (f := seenR) (A := sd) (a := (travSeen f u x).1) (B := sr) hj (by rw [hx1]; simp [seenR, travSeen, travVer_k])) hI))) rfl ?_)
        rintro _ _ ⟨_, L, rfl, rfl, hI⟩
        show aops _ _ _ _ _ _ ⟨_, .row o.vE.v 9 39 (ed.map evRw ++ ((sv, e2) :: er).map evRw) :: .box b1 72 [.v (.pointer (some ⟨bh, 0, none⟩))] :: .box bh 28 (c0 :: c1 :: c2 :: c3 :: o.cells) :: .box bs 115 [.fn (.func 75) [] [.v (.pointer (some ⟨bm, 0, none⟩)), .v (.pointer (some ⟨by_, 0, none⟩))]] :: .box bm 4 [bv true] :: .box by_ 114 [y] :: .row sv.v 3 59 (sd.map seenR ++ ((travSeen f u x).1 :: sr).map seenR) :: .row o.vR.v 2 61 (o.ords.map ordRw) :: .row o.vM.v 4 64 (o.mats.map matRw) :: .row o.vW.v 2 67 (o.wants.map wanR) :: (scR 59 ed ++ (scR 59 er ++ (otR 3 o.ords ++ (mtR 3 o.mats ++ L)))), _⟩
        replace hI : I (travSeen f u x).2 L := by rw [hx1] at hI; exact hI
        refine rn ?_
        exact ⟨(j + 1, sd ++ [(travSeen f u x).1], sr, _, L), ⟨by simp [hj], by simp only; omega, hws.step, hsk, hI⟩, (by rw [at_next (f := seenR) (A := sd) (b := (travSeen f u x).1) (B := sr)]; exact (ent_sub (.cons _ _ _ rfl (.cons _ _ _ rfl (.cons _ _ _ rfl (.cons _ _ _ rfl (.cons _ _ _ rfl (.cons _ _ _ rfl (.cons _ _ _ rfl (.cons _ _ _ rfl (.nil))))))))))), by simp⟩
      · have hk2 : ¬ j < e.scan.length := by simpa using hc73
        obtain rfl : sr = [] := by
          cases sr with
          | nil => rfl
          | cons p r => simp at hjn; omega
        have hfin := hws.fin
        refine rn ?_
        have hev := travEv_eq f (s := sa) (e := e) (sc := sd) (s' := u) (by rw [← hs1, ← he1, ← hs2]; exact hfin)
        rw [← hs1, ← he1, ← he2] at hev
        have hw2 := Went.step (x := e) (rest := er.map (·.2)) hw
        rw [hev] at hw2
        have hE : (ed ++ [(sv, { e2 with scan := sd })]).map evRw ++ er.map evRw = ed.map evRw ++ ((sv, e2) :: er).map evRw := by rw [← at_next]; rfl
        exact ⟨(k + 1, ed ++ [(sv, { e2 with scan := sd })], er, u, L), ⟨by simp [hk], by simp only; omega, by rw [List.map_append]; exact hw2, hok, hI⟩, (by simp only [hE, scR_snoc, List.append_assoc, List.map_nil, List.append_nil]; exact ent_trans (ent_pcs (l1 := [[.row o.vE.v 9 39 (ed.map evRw ++ ((sv, e2) :: er).map evRw)], [.box b1 72 [.v (.pointer (some ⟨bh, 0, none⟩))], .box bh 28 (c0 :: c1 :: c2 :: c3 :: o.cells), .box bs 115 [.fn (.func 75) [] [.v (.pointer (some ⟨bm, 0, none⟩)), .v (.pointer (some ⟨by_, 0, none⟩))]]], [.box bm 4 [bv true], .box by_ 114 [y]], [.row sv.v 3 59 (sd.map seenR)], [.row o.vR.v 2 61 (o.ords.map ordRw), .row o.vM.v 4 64 (o.mats.map matRw), .row o.vW.v 2 67 (o.wants.map wanR)], scR 59 ed, scR 59 er, otR 3 o.ords, mtR 3 o.mats]) (l2 := [[.box b1 72 [.v (.pointer (some ⟨bh, 0, none⟩))], .box bh 28 (c0 :: c1 :: c2 :: c3 :: o.cells), .box bs 115 [.fn (.func 75) [] [.v (.pointer (some ⟨bm, 0, none⟩)), .v (.pointer (some ⟨by_, 0, none⟩))]]], [.box bm 4 [bv true], .box by_ 114 [y]], [.row o.vE.v 9 39 (ed.map evRw ++ ((sv, e2) :: er).map evRw)], [.row o.vR.v 2 61 (o.ords.map ordRw), .row o.vM.v 4 64 (o.mats.map matRw), .row o.vW.v 2 67 (o.wants.map wanR)], scR 59 ed, [.row sv.v 3 59 (sd.map seenR)], scR 59 er, otR 3 o.ords, mtR 3 o.mats]) ((pt1 _ _ _).trans (.cons _ ((pt1 _ _ _).trans (.cons _ (.cons _ ((pt1 _ _ _).trans (.cons _ (pt1 _ _ _))))))))) (ent_sub (.cons _ _ _ rfl (.cons _ _ _ rfl (.cons _ _ _ rfl (.cons _ _ _ rfl (.cons _ _ _ rfl (.nil)))))))), by simp⟩
  · have hk2 : ¬ k < o.evs.length := by simpa using hc23
    obtain rfl : er = [] := by
      cases er with
      | nil => rfl
      | cons p r => simp at hn; omega
    have hfE := hw.fin
    refine rn ?_
    refine aw_loop' (fun x : Nat × List (SV × H.Ord) × List (SV × H.Ord) × σ × List Res => x.2.1.length = x.1 ∧ x.1 + x.2.2.1.length = o.ords.length ∧ Went (travOrd f) (travL (travOrd f) sa (o.ords.map (·.2))) (x.2.1.map (·.2)) x.2.2.2.1 (x.2.2.1.map (·.2)) ∧ (∀ q ∈ x.2.2.1, (∀ z ∈ ordL q.2, ok z) ∧ q.2.ts.length ≤ 4611686018427387904) ∧ I x.2.2.2.1 x.2.2.2.2) (fun x => ⟨[(100, iv x.1), (99, iv (o.ords.map ordRw).length), (1, .v (.pointer (some ⟨b1, 0, none⟩))), (4, .v (.pointer (some ⟨bs, 0, none⟩))), (5, .fn (.func 76) [] [.v (.pointer (some ⟨bs, 0, none⟩))])], .box b1 72 [.v (.pointer (some ⟨bh, 0, none⟩))] :: .box bh 28 (c0 :: c1 :: c2 :: c3 :: o.cells) :: .box bs 115 [.fn (.func 75) [] [.v (.pointer (some ⟨bm, 0, none⟩)), .v (.pointer (some ⟨by_, 0, none⟩))]] :: .box bm 4 [bv true] :: .box by_ 114 [y] :: .row o.vR.v 2 61 (x.2.1.map ordRw ++ x.2.2.1.map ordRw) :: .row o.vE.v 9 39 (ed.map evRw) :: .row o.vM.v 4 64 (o.mats.map matRw) :: .row o.vW.v 2 67 (o.wants.map wanR) :: (scR 59 ed ++ (otR 3 x.2.1 ++ (otR 3 x.2.2.1 ++ (mtR 3 o.mats ++ x.2.2.2.2)))), []⟩) (fun x => x.2.2.1.length) (0, [], o.ords, sa, L) ⟨rfl, by simp, .start, fun q hq => ⟨fun z hz => hok0 z (by simp only [spokenL, OH.hist, List.mem_append, List.mem_flatMap, List.mem_map]; exact (.inr (.inl ⟨q.2, ⟨q, hq, rfl⟩, hz⟩))), la.ordts q.2 (by simp only [OH.hist, List.mem_map]; exact ⟨q, hq, rfl⟩)⟩, hI⟩
      (by simp only [List.map_nil, List.append_nil]; exact ent_trans (ent_pcs (l1 := [[.box b1 72 [.v (.pointer (some ⟨bh, 0, none⟩))], .box bh 28 (c0 :: c1 :: c2 :: c3 :: o.cells), .box bs 115 [.fn (.func 75) [] [.v (.pointer (some ⟨bm, 0, none⟩)), .v (.pointer (some ⟨by_, 0, none⟩))]]], [.box bm 4 [bv true], .box by_ 114 [y]], [.row o.vE.v 9 39 (ed.map evRw)], [.row o.vR.v 2 61 (o.ords.map ordRw)], [.row o.vM.v 4 64 (o.mats.map matRw), .row o.vW.v 2 67 (o.wants.map wanR)], scR 59 ed, otR 3 o.ords, mtR 3 o.mats]) (l2 := [[.box b1 72 [.v (.pointer (some ⟨bh, 0, none⟩))], .box bh 28 (c0 :: c1 :: c2 :: c3 :: o.cells), .box bs 115 [.fn (.func 75) [] [.v (.pointer (some ⟨bm, 0, none⟩)), .v (.pointer (some ⟨by_, 0, none⟩))]]], [.box bm 4 [bv true], .box by_ 114 [y]], [.row o.vR.v 2 61 (o.ords.map ordRw)], [.row o.vE.v 9 39 (ed.map evRw)], [.row o.vM.v 4 64 (o.mats.map matRw), .row o.vW.v 2 67 (o.wants.map wanR)], scR 59 ed, otR 3 o.ords, mtR 3 o.mats]) (.cons _ (.cons _ (pt1 _ _ _)))) (ent_sub (.cons _ _ _ rfl (.cons _ _ _ rfl (.cons _ _ _ rfl (.cons _ _ _ rfl (.cons _ _ _ rfl (.nil)))))))) ?_
    rintro ⟨k, od, or_, sb, L⟩ ⟨hk, hn, hw, hok, hI⟩
    simp only at hk hn hw hok hI
    refine rn ?_
    refine aw_cond rfl (fun hc101 => ?_) (fun hc101 => ?_)
    · have hk2 : k < o.ords.length := by simpa using hc101
      obtain ⟨⟨sv, r⟩, or_, rfl⟩ : ∃ p r, or_ = p :: r := by
        cases or_ with
        | nil => simp at hn; omega
        | cons p r => exact ⟨p, r, rfl⟩
      obtain ⟨hq, hok⟩ := List.forall_mem_cons.1 hok
      simp only [List.length_cons] at hn
      obtain ⟨hq, hls⟩ := hq
      simp only at hq hls
      have hle : o.ords.length ≤ 4611686018427387904 := by have := la.ords; simpa [OH.hist] using this
      have hin : ∀ z ∈ r.ts, ok (0, z) := fun z hz => hq _ (by simp [ordL, tsL, hz])
      have hrow := at_get (f := ordRw) (A := od) (B := or_) (b := (sv, r)) hk
      have hk3 := at_len (f := ordRw) (A := od) (B := or_) (b := (sv, r)) hk
      refine rn ?_
      refine aw_draw 8 rfl ?_
      refine rn ?_
      obtain ⟨r1, hr1⟩ : ∃ r1 : H.Ord, r1 = { r with o := (f sb 2 r.o).1 } := ⟨_, rfl⟩
      obtain ⟨s1, hs1⟩ : ∃ s1, s1 = (f sb 2 r.o).2 := ⟨_, rfl⟩
      refine aops_e rfl (oe_call rfl rfl (FCall.around [_, _, _] [_, _, _] [[.row o.vE.v 9 39 (ed.map evRw), .row o.vM.v 4 64 (o.mats.map matRw), .row o.vW.v 2 67 (o.wants.map wanR)], scR 59 ed, otR 3 od, otR 3 ((sv, r) :: or_), mtR 3 o.mats] (FCall.of_acall (fs := []) (cs := [.v (.pointer (some ⟨bm, 0, none⟩)), .v (.pointer (some ⟨by_, 0, none⟩))]) (sayW f ok I y hy 2 r.o _ _ _ _ _ _ _ _ (hq _ (by simp [ordL])) (at_get hk) rfl bm by_ _ _ (at_set (f := ordRw) (A := od) (a := (sv, r1)) (B := or_) hk (by rw [hr1]; rfl)) hI))) rfl ?_)
      rintro _ _ ⟨_, L, rfl, rfl, hI⟩
      show aops _ _ _ _ _ _ ⟨_, .box b1 72 [.v (.pointer (some ⟨bh, 0, none⟩))] :: .box bh 28 (c0 :: c1 :: c2 :: c3 :: o.cells) :: .box bs 115 [.fn (.func 75) [] [.v (.pointer (some ⟨bm, 0, none⟩)), .v (.pointer (some ⟨by_, 0, none⟩))]] :: .box bm 4 [bv true] :: .box by_ 114 [y] :: .row o.vR.v 2 61 (od.map ordRw ++ ((sv, r1) :: or_).map ordRw) :: .row o.vE.v 9 39 (ed.map evRw) :: .row o.vM.v 4 64 (o.mats.map matRw) :: .row o.vW.v 2 67 (o.wants.map wanR) :: (scR 59 ed ++ (otR 3 od ++ (otR 3 ((sv, r) :: or_) ++ (mtR 3 o.mats ++ L)))), _⟩
      rw [← hs1] at hI
      have hrow := at_get (f := ordRw) (A := od) (B := or_) (b := (sv, r1)) hk
      have hk3 := at_len (f := ordRw) (A := od) (B := or_) (b := (sv, r1)) hk
      refine rn0 ?_
      refine aw_seq ?_
      refine aw_ent (s' := ⟨[(9, iv k), (100, iv k), (99, iv (o.ords.map ordRw).length), (1, .v (.pointer (some ⟨b1, 0, none⟩))), (4, .v (.pointer (some ⟨bs, 0, none⟩))), (5, .fn (.func 76) [] [.v (.pointer (some ⟨bs, 0, none⟩))])], .row o.vR.v 2 61 (od.map ordRw ++ ((sv, r1) :: or_).map ordRw) :: .box b1 72 [.v (.pointer (some ⟨bh, 0, none⟩))] :: .box bh 28 (c0 :: c1 :: c2 :: c3 :: o.cells) :: .box bs 115 [.fn (.func 75) [] [.v (.pointer (some ⟨bm, 0, none⟩)), .v (.pointer (some ⟨by_, 0, none⟩))]] :: .box bm 4 [bv true] :: .box by_ 114 [y] :: .row sv.v 1 3 (r.ts.map intR) :: .row o.vE.v 9 39 (ed.map evRw) :: .row o.vM.v 4 64 (o.mats.map matRw) :: .row o.vW.v 2 67 (o.wants.map wanR) :: (scR 59 ed ++ (otR 3 od ++ (otR 3 or_ ++ (mtR 3 o.mats ++ L)))), []⟩) (ent_trans (ent_pcs (l1 := [[.box b1 72 [.v (.pointer (some ⟨bh, 0, none⟩))], .box bh 28 (c0 :: c1 :: c2 :: c3 :: o.cells), .box bs 115 [.fn (.func 75) [] [.v (.pointer (some ⟨bm, 0, none⟩)), .v (.pointer (some ⟨by_, 0, none⟩))]]], [.box bm 4 [bv true], .box by_ 114 [y]], [.row o.vR.v 2 61 (od.map ordRw ++ ((sv, r1) :: or_).map ordRw)], [.row o.vE.v 9 39 (ed.map evRw), .row o.vM.v 4 64 (o.mats.map matRw), .row o.vW.v 2 67 (o.wants.map wanR)], scR 59 ed, otR 3 od, [.row sv.v 1 3 (r.ts.map intR)], otR 3 or_, mtR 3 o.mats]) (l2 := [[.row o.vR.v 2 61 (od.map ordRw ++ ((sv, r1) :: or_).map ordRw)], [.box b1 72 [.v (.pointer (some ⟨bh, 0, none⟩))], .box bh 28 (c0 :: c1 :: c2 :: c3 :: o.cells), .box bs 115 [.fn (.func 75) [] [.v (.pointer (some ⟨bm, 0, none⟩)), .v (.pointer (some ⟨by_, 0, none⟩))]]], [.box bm 4 [bv true], .box by_ 114 [y]], [.row sv.v 1 3 (r.ts.map intR)], [.row o.vE.v 9 39 (ed.map evRw), .row o.vM.v 4 64 (o.mats.map matRw), .row o.vW.v 2 67 (o.wants.map wanR)], scR 59 ed, otR 3 od, otR 3 or_, mtR 3 o.mats]) ((pt2 _ _ _ _).trans (.cons _ (.cons _ (.cons _ (pt3 _ _ _ _ _)))))) (ent_sub (.cons _ _ _ rfl (.cons _ _ _ rfl (.cons _ _ _ rfl (.cons _ _ _ rfl (.cons _ _ _ rfl (.cons _ _ _ rfl (.nil))))))))) ?_
      refine rn ?_
      refine aw_loop' (fun x : Nat × List Int × List Int × σ × List Res => x.2.1.length = x.1 ∧ x.1 + x.2.2.1.length = r.ts.length ∧ Went (fun s n => f s 0 n) (travL (fun s n => f s 0 n) s1 r.ts) x.2.1 x.2.2.2.1 x.2.2.1 ∧ (∀ z ∈ x.2.2.1, ok (0, z)) ∧ I x.2.2.2.1 x.2.2.2.2) (fun x => ⟨[(121, iv x.1), (120, iv (r.ts.map intR).length), (9, iv k), (100, iv k), (99, iv (o.ords.map ordRw).length), (1, .v (.pointer (some ⟨b1, 0, none⟩))), (4, .v (.pointer (some ⟨bs, 0, none⟩))), (5, .fn (.func 76) [] [.v (.pointer (some ⟨bs, 0, none⟩))])], .row o.vR.v 2 61 (od.map ordRw ++ ((sv, r1) :: or_).map ordRw) :: .box b1 72 [.v (.pointer (some ⟨bh, 0, none⟩))] :: .box bh 28 (c0 :: c1 :: c2 :: c3 :: o.cells) :: .box bs 115 [.fn (.func 75) [] [.v (.pointer (some ⟨bm, 0, none⟩)), .v (.pointer (some ⟨by_, 0, none⟩))]] :: .box bm 4 [bv true] :: .box by_ 114 [y] :: .row sv.v 1 3 (x.2.1.map intR ++ x.2.2.1.map intR) :: .row o.vE.v 9 39 (ed.map evRw) :: .row o.vM.v 4 64 (o.mats.map matRw) :: .row o.vW.v 2 67 (o.wants.map wanR) :: (scR 59 ed ++ (otR 3 od ++ (otR 3 or_ ++ (mtR 3 o.mats ++ x.2.2.2.2)))), []⟩) (fun x => x.2.2.1.length) (0, [], r.ts, s1, L) ⟨rfl, by simp, .start, hin, hI⟩
        (ent_sub (.cons _ _ _ rfl (.cons _ _ _ rfl (.cons _ _ _ rfl (.cons _ _ _ rfl (.cons _ _ _ rfl (.cons _ _ _ rfl (.cons _ _ _ rfl (.cons _ _ _ rfl (.nil)))))))))) ?_
      rintro ⟨j, sd, sr, u, L⟩ ⟨hj, hjn, hws, hsk, hI⟩
      simp only at hj hjn hws hsk hI
      refine rn ?_
      refine aw_cond rfl (fun hc122 => ?_) (fun hc122 => ?_)
      · have hk2 : j < r.ts.length := by simpa using hc122
        obtain ⟨t, sr, rfl⟩ : ∃ p r, sr = p :: r := by
          cases sr with
          | nil => simp at hjn; omega
          | cons p r => exact ⟨p, r, rfl⟩
        obtain ⟨hx, hsk⟩ := List.forall_mem_cons.1 hsk
        simp only [List.length_cons] at hjn
        have hrowx := at_get (f := intR) (A := sd) (B := sr) (b := t) hj
        have hkx3 := at_len (f := intR) (A := sd) (B := sr) (b := t) hj
        refine rn ?_
        refine aw_draw 11 rfl ?_
        refine rn ?_
        refine aops_e rfl (oe_call rfl rfl (FCall.around [_, _, _, _] [_, _, _] [[.row o.vE.v 9 39 (ed.map evRw), .row o.vM.v 4 64 (o.mats.map matRw), .row o.vW.v 2 67 (o.wants.map wanR)], scR 59 ed, otR 3 od, otR 3 or_, mtR 3 o.mats] (FCall.of_acall (fs := []) (cs := [.v (.pointer (some ⟨bm, 0, none⟩)), .v (.pointer (some ⟨by_, 0, none⟩))]) (sayW f ok I y hy 0 t _ _ _ _ _ _ _ _ hx (at_get hj) rfl bm by_ _ _ (at_set (f := intR) (A := sd) (a := (f u 0 t).1) (B := sr) hj rfl) hI))) rfl ?_)
        rintro _ _ ⟨_, L, rfl, rfl, hI⟩
        show aops _ _ _ _ _ _ ⟨_, .row o.vR.v 2 61 (od.map ordRw ++ ((sv, r1) :: or_).map ordRw) :: .box b1 72 [.v (.pointer (some ⟨bh, 0, none⟩))] :: .box bh 28 (c0 :: c1 :: c2 :: c3 :: o.cells) :: .box bs 115 [.fn (.func 75) [] [.v (.pointer (some ⟨bm, 0, none⟩)), .v (.pointer (some ⟨by_, 0, none⟩))]] :: .box bm 4 [bv true] :: .box by_ 114 [y] :: .row sv.v 1 3 (sd.map intR ++ ((f u 0 t).1 :: sr).map intR) :: .row o.vE.v 9 39 (ed.map evRw) :: .row o.vM.v 4 64 (o.mats.map matRw) :: .row o.vW.v 2 67 (o.wants.map wanR) :: (scR 59 ed ++ (otR 3 od ++ (otR 3 or_ ++ (mtR 3 o.mats ++ L)))), _⟩
        refine rn ?_
        exact ⟨(j + 1, sd ++ [(f u 0 t).1], sr, _, L), ⟨by simp [hj], by simp only; omega, hws.step, hsk, hI⟩, (by rw [at_next (f := intR) (A := sd) (b := (f u 0 t).1) (B := sr)]; exact (ent_sub (.cons _ _ _ rfl (.cons _ _ _ rfl (.cons _ _ _ rfl (.cons _ _ _ rfl (.cons _ _ _ rfl (.cons _ _ _ rfl (.cons _ _ _ rfl (.cons _ _ _ rfl (.nil))))))))))), by simp⟩
      · have hk2 : ¬ j < r.ts.length := by simpa using hc122
        obtain rfl : sr = [] := by
          cases sr with
          | nil => rfl
          | cons p r => simp at hjn; omega
        have hfin := hws.fin
        refine rn ?_
        have hev := travOrd_eq f (s := sb) (r := r) (l := sd) (s' := u) (by rw [← hs1]; exact hfin)
        have hw2 := Went.step (x := r) (rest := or_.map (·.2)) hw
        rw [hev] at hw2
        have hE : (od ++ [(sv, (⟨(f sb 2 r.o).1, sd⟩ : H.Ord))]).map ordRw ++ or_.map ordRw = od.map ordRw ++ ((sv, r1) :: or_).map ordRw := by rw [← at_next, hr1]; rfl
        exact ⟨(k + 1, od ++ [(sv, (⟨(f sb 2 r.o).1, sd⟩ : H.Ord))], or_, u, L), ⟨by simp [hk], by simp only; omega, by rw [List.map_append]; exact hw2, hok, hI⟩, (by simp only [hE, otR_snoc, List.append_assoc, List.map_nil, List.append_nil]; exact ent_trans (ent_pcs (l1 := [[.row o.vR.v 2 61 (od.map ordRw ++ ((sv, r1) :: or_).map ordRw)], [.box b1 72 [.v (.pointer (some ⟨bh, 0, none⟩))], .box bh 28 (c0 :: c1 :: c2 :: c3 :: o.cells), .box bs 115 [.fn (.func 75) [] [.v (.pointer (some ⟨bm, 0, none⟩)), .v (.pointer (some ⟨by_, 0, none⟩))]]], [.box bm 4 [bv true], .box by_ 114 [y]], [.row sv.v 1 3 (sd.map intR)], [.row o.vE.v 9 39 (ed.map evRw), .row o.vM.v 4 64 (o.mats.map matRw), .row o.vW.v 2 67 (o.wants.map wanR)], scR 59 ed, otR 3 od, otR 3 or_, mtR 3 o.mats]) (l2 := [[.box b1 72 [.v (.pointer (some ⟨bh, 0, none⟩))], .box bh 28 (c0 :: c1 :: c2 :: c3 :: o.cells), .box bs 115 [.fn (.func 75) [] [.v (.pointer (some ⟨bm, 0, none⟩)), .v (.pointer (some ⟨by_, 0, none⟩))]]], [.box bm 4 [bv true], .box by_ 114 [y]], [.row o.vR.v 2 61 (od.map ordRw ++ ((sv, r1) :: or_).map ordRw)], [.row o.vE.v 9 39 (ed.map evRw), .row o.vM.v 4 64 (o.mats.map matRw), .row o.vW.v 2 67 (o.wants.map wanR)], scR 59 ed, otR 3 od, [.row sv.v 1 3 (sd.map intR)], otR 3 or_, mtR 3 o.mats]) ((pt1 _ _ _).trans (.cons _ ((pt1 _ _ _).trans (.cons _ (.cons _ ((pt1 _ _ _).trans (.cons _ ((pt1 _ _ _).trans (.cons _ (pt1 _ _ _))))))))))) (ent_sub (.cons _ _ _ rfl (.cons _ _ _ rfl (.cons _ _ _ rfl (.cons _ _ _ rfl (.cons _ _ _ rfl (.nil)))))))), by simp⟩
    · have hk2 : ¬ k < o.ords.length := by simpa using hc101
      obtain rfl : or_ = [] := by
        cases or_ with
        | nil => rfl
        | cons p r => simp at hn; omega
      have hfO := hw.fin
      refine rn ?_
      refine aw_loop' (fun x : Nat × List (SV × Mat) × List (SV × Mat) × σ × List Res => x.2.1.length = x.1 ∧ x.1 + x.2.2.1.length = o.mats.length ∧ Went (travMat f) (travL (travMat f) sb (o.mats.map (·.2))) (x.2.1.map (·.2)) x.2.2.2.1 (x.2.2.1.map (·.2)) ∧ (∀ q ∈ x.2.2.1, (∀ z ∈ matL q.2, ok z) ∧ q.2.ts.length ≤ 4611686018427387904) ∧ I x.2.2.2.1 x.2.2.2.2) (fun x => ⟨[(143, iv x.1), (142, iv (o.mats.map matRw).length), (1, .v (.pointer (some ⟨b1, 0, none⟩))), (4, .v (.pointer (some ⟨bs, 0, none⟩))), (5, .fn (.func 76) [] [.v (.pointer (some ⟨bs, 0, none⟩))])], .box b1 72 [.v (.pointer (some ⟨bh, 0, none⟩))] :: .box bh 28 (c0 :: c1 :: c2 :: c3 :: o.cells) :: .box bs 115 [.fn (.func 75) [] [.v (.pointer (some ⟨bm, 0, none⟩)), .v (.pointer (some ⟨by_, 0, none⟩))]] :: .box bm 4 [bv true] :: .box by_ 114 [y] :: .row o.vM.v 4 64 (x.2.1.map matRw ++ x.2.2.1.map matRw) :: .row o.vE.v 9 39 (ed.map evRw) :: .row o.vR.v 2 61 (od.map ordRw) :: .row o.vW.v 2 67 (o.wants.map wanR) :: (scR 59 ed ++ (otR 3 od ++ (mtR 3 x.2.1 ++ (mtR 3 x.2.2.1 ++ x.2.2.2.2)))), []⟩) (fun x => x.2.2.1.length) (0, [], o.mats, sb, L) ⟨rfl, by simp, .start, fun q hq => ⟨fun z hz => hok0 z (by simp only [spokenL, OH.hist, List.mem_append, List.mem_flatMap, List.mem_map]; exact (.inr (.inr (.inl ⟨q.2, ⟨q, hq, rfl⟩, hz⟩)))), la.matts q.2 (by simp only [OH.hist, List.mem_map]; exact ⟨q, hq, rfl⟩)⟩, hI⟩
        (by simp only [List.map_nil, List.append_nil]; exact ent_trans (ent_pcs (l1 := [[.box b1 72 [.v (.pointer (some ⟨bh, 0, none⟩))], .box bh 28 (c0 :: c1 :: c2 :: c3 :: o.cells), .box bs 115 [.fn (.func 75) [] [.v (.pointer (some ⟨bm, 0, none⟩)), .v (.pointer (some ⟨by_, 0, none⟩))]]], [.box bm 4 [bv true], .box by_ 114 [y]], [.row o.vR.v 2 61 (od.map ordRw)], [.row o.vE.v 9 39 (ed.map evRw)], [.row o.vM.v 4 64 (o.mats.map matRw)], [.row o.vW.v 2 67 (o.wants.map wanR)], scR 59 ed, otR 3 od, mtR 3 o.mats]) (l2 := [[.box b1 72 [.v (.pointer (some ⟨bh, 0, none⟩))], .box bh 28 (c0 :: c1 :: c2 :: c3 :: o.cells), .box bs 115 [.fn (.func 75) [] [.v (.pointer (some ⟨bm, 0, none⟩)), .v (.pointer (some ⟨by_, 0, none⟩))]]], [.box bm 4 [bv true], .box by_ 114 [y]], [.row o.vM.v 4 64 (o.mats.map matRw)], [.row o.vE.v 9 39 (ed.map evRw)], [.row o.vR.v 2 61 (od.map ordRw)], [.row o.vW.v 2 67 (o.wants.map wanR)], scR 59 ed, otR 3 od, mtR 3 o.mats]) (.cons _ (.cons _ ((pt2 _ _ _ _).trans (.cons _ (pt1 _ _ _)))))) (ent_sub (.cons _ _ _ rfl (.cons _ _ _ rfl (.cons _ _ _ rfl (.cons _ _ _ rfl (.cons _ _ _ rfl (.nil)))))))) ?_
      rintro ⟨k, md, mr_, sc_, L⟩ ⟨hk, hn, hw, hok, hI⟩
      simp only at hk hn hw hok hI
      refine rn ?_
      refine aw_cond rfl (fun hc144 => ?_) (fun hc144 => ?_)
      · have hk2 : k < o.mats.length := by simpa using hc144
        obtain ⟨⟨sv, r⟩, mr_, rfl⟩ : ∃ p r, mr_ = p :: r := by
          cases mr_ with
          | nil => simp at hn; omega
          | cons p r => exact ⟨p, r, rfl⟩
        obtain ⟨hq, hok⟩ := List.forall_mem_cons.1 hok
        simp only [List.length_cons] at hn
        obtain ⟨hq, hls⟩ := hq
        simp only at hq hls
        have hle : o.mats.length ≤ 4611686018427387904 := by have := la.mats; simpa [OH.hist] using this
        have hin : ∀ z ∈ r.ts, ok (0, z) := fun z hz => hq _ (by simp [matL, tsL, hz])
        have hrow := at_get (f := matRw) (A := md) (B := mr_) (b := (sv, r)) hk
        have hk3 := at_len (f := matRw) (A := md) (B := mr_) (b := (sv, r)) hk
        refine rn ?_
        refine aw_draw 4 rfl ?_
        refine rn ?_
        obtain ⟨r1, hr1⟩ : ∃ r1 : Mat, r1 = { r with p := (f sc_ 3 r.p).1 } := ⟨_, rfl⟩
        obtain ⟨s1, hs1⟩ : ∃ s1, s1 = (f sc_ 3 r.p).2 := ⟨_, rfl⟩
        refine aops_e rfl (oe_call rfl rfl (FCall.around [_, _, _] [_, _, _] [[.row o.vE.v 9 39 (ed.map evRw), .row o.vR.v 2 61 (od.map ordRw), .row o.vW.v 2 67 (o.wants.map wanR)], scR 59 ed, otR 3 od, mtR 3 md, mtR 3 ((sv, r) :: mr_)] (FCall.of_acall (fs := []) (cs := [.v (.pointer (some ⟨bm, 0, none⟩)), .v (.pointer (some ⟨by_, 0, none⟩))]) (sayW f ok I y hy 3 r.p _ _ _ _ _ _ _ _ (hq _ (by simp [matL])) (at_get hk) rfl bm by_ _ _ (at_set (f := matRw) (A := md) (a := (sv, r1)) (B := mr_) hk (by rw [hr1]; rfl)) hI))) rfl ?_)
        rintro _ _ ⟨_, L, rfl, rfl, hI⟩
        show aops _ _ _ _ _ _ ⟨_, .box b1 72 [.v (.pointer (some ⟨bh, 0, none⟩))] :: .box bh 28 (c0 :: c1 :: c2 :: c3 :: o.cells) :: .box bs 115 [.fn (.func 75) [] [.v (.pointer (some ⟨bm, 0, none⟩)), .v (.pointer (some ⟨by_, 0, none⟩))]] :: .box bm 4 [bv true] :: .box by_ 114 [y] :: .row o.vM.v 4 64 (md.map matRw ++ ((sv, r1) :: mr_).map matRw) :: .row o.vE.v 9 39 (ed.map evRw) :: .row o.vR.v 2 61 (od.map ordRw) :: .row o.vW.v 2 67 (o.wants.map wanR) :: (scR 59 ed ++ (otR 3 od ++ (mtR 3 md ++ (mtR 3 ((sv, r) :: mr_) ++ L)))), _⟩
        rw [← hs1] at hI
        have hrow := at_get (f := matRw) (A := md) (B := mr_) (b := (sv, r1)) hk
        have hk3 := at_len (f := matRw) (A := md) (B := mr_) (b := (sv, r1)) hk
        refine rn ?_
        refine aw_draw 4 rfl ?_
        refine rn ?_
        obtain ⟨r2, hr2⟩ : ∃ r2 : Mat, r2 = { r1 with o := (f s1 2 r.o).1 } := ⟨_, rfl⟩
        obtain ⟨s2, hs2⟩ : ∃ s2, s2 = (f s1 2 r.o).2 := ⟨_, rfl⟩
        refine aops_e rfl (oe_call rfl rfl (FCall.around [_, _, _] [_, _, _] [[.row o.vE.v 9 39 (ed.map evRw), .row o.vR.v 2 61 (od.map ordRw), .row o.vW.v 2 67 (o.wants.map wanR)], scR 59 ed, otR 3 od, mtR 3 md, mtR 3 ((sv, r) :: mr_)] (FCall.of_acall (fs := []) (cs := [.v (.pointer (some ⟨bm, 0, none⟩)), .v (.pointer (some ⟨by_, 0, none⟩))]) (sayW f ok I y hy 2 r.o _ _ _ _ _ _ _ _ (hq _ (by simp [matL])) (at_get hk) (by rw [hr1]; rfl) bm by_ _ _ (at_set (f := matRw) (A := md) (a := (sv, r2)) (B := mr_) hk (by rw [hr2]; rfl)) hI))) rfl ?_)
        rintro _ _ ⟨_, L, rfl, rfl, hI⟩
        show aops _ _ _ _ _ _ ⟨_, .box b1 72 [.v (.pointer (some ⟨bh, 0, none⟩))] :: .box bh 28 (c0 :: c1 :: c2 :: c3 :: o.cells) :: .box bs 115 [.fn (.func 75) [] [.v (.pointer (some ⟨bm, 0, none⟩)), .v (.pointer (some ⟨by_, 0, none⟩))]] :: .box bm 4 [bv true] :: .box by_ 114 [y] :: .row o.vM.v 4 64 (md.map matRw ++ ((sv, r2) :: mr_).map matRw) :: .row o.vE.v 9 39 (ed.map evRw) :: .row o.vR.v 2 61 (od.map ordRw) :: .row o.vW.v 2 67 (o.wants.map wanR) :: (scR 59 ed ++ (otR 3 od ++ (mtR 3 md ++ (mtR 3 ((sv, r) :: mr_) ++ L)))), _⟩
        rw [← hs2] at hI
        have hrow := at_get (f := matRw) (A := md) (B := mr_) (b := (sv, r2)) hk
        have hk3 := at_len (f := matRw) (A := md) (B := mr_) (b := (sv, r2)) hk
        refine rn0 ?_
        refine aw_seq ?_
        refine aw_ent (s' := ⟨[(12, .rp o.vM.v 4 k 0), (143, iv k), (142, iv (o.mats.map matRw).length), (1, .v (.pointer (some ⟨b1, 0, none⟩))), (4, .v (.pointer (some ⟨bs, 0, none⟩))), (5, .fn (.func 76) [] [.v (.pointer (some ⟨bs, 0, none⟩))])], .row o.vM.v 4 64 (md.map matRw ++ ((sv, r2) :: mr_).map matRw) :: .box b1 72 [.v (.pointer (some ⟨bh, 0, none⟩))] :: .box bh 28 (c0 :: c1 :: c2 :: c3 :: o.cells) :: .box bs 115 [.fn (.func 75) [] [.v (.pointer (some ⟨bm, 0, none⟩)), .v (.pointer (some ⟨by_, 0, none⟩))]] :: .box bm 4 [bv true] :: .box by_ 114 [y] :: .row sv.v 1 3 (r.ts.map intR) :: .row o.vE.v 9 39 (ed.map evRw) :: .row o.vR.v 2 61 (od.map ordRw) :: .row o.vW.v 2 67 (o.wants.map wanR) :: (scR 59 ed ++ (otR 3 od ++ (mtR 3 md ++ (mtR 3 mr_ ++ L)))), []⟩) (ent_trans (ent_pcs (l1 := [[.box b1 72 [.v (.pointer (some ⟨bh, 0, none⟩))], .box bh 28 (c0 :: c1 :: c2 :: c3 :: o.cells), .box bs 115 [.fn (.func 75) [] [.v (.pointer (some ⟨bm, 0, none⟩)), .v (.pointer (some ⟨by_, 0, none⟩))]]], [.box bm 4 [bv true], .box by_ 114 [y]], [.row o.vM.v 4 64 (md.map matRw ++ ((sv, r2) :: mr_).map matRw)], [.row o.vE.v 9 39 (ed.map evRw), .row o.vR.v 2 61 (od.map ordRw), .row o.vW.v 2 67 (o.wants.map wanR)], scR 59 ed, otR 3 od, mtR 3 md, [.row sv.v 1 3 (r.ts.map intR)], mtR 3 mr_]) (l2 := [[.row o.vM.v 4 64 (md.map matRw ++ ((sv, r2) :: mr_).map matRw)], [.box b1 72 [.v (.pointer (some ⟨bh, 0, none⟩))], .box bh 28 (c0 :: c1 :: c2 :: c3 :: o.cells), .box bs 115 [.fn (.func 75) [] [.v (.pointer (some ⟨bm, 0, none⟩)), .v (.pointer (some ⟨by_, 0, none⟩))]]], [.box bm 4 [bv true], .box by_ 114 [y]], [.row sv.v 1 3 (r.ts.map intR)], [.row o.vE.v 9 39 (ed.map evRw), .row o.vR.v 2 61 (od.map ordRw), .row o.vW.v 2 67 (o.wants.map wanR)], scR 59 ed, otR 3 od, mtR 3 md, mtR 3 mr_]) ((pt2 _ _ _ _).trans (.cons _ (.cons _ (.cons _ (pt4 _ _ _ _ _ _)))))) (ent_sub (.cons _ _ _ rfl (.cons _ _ _ rfl (.cons _ _ _ rfl (.cons _ _ _ rfl (.cons _ _ _ rfl (.cons _ _ _ rfl (.nil))))))))) ?_
        refine rn ?_
        refine aw_loop' (fun x : Nat × List Int × List Int × σ × List Res => x.2.1.length = x.1 ∧ x.1 + x.2.2.1.length = r.ts.length ∧ Went (fun s n => f s 0 n) (travL (fun s n => f s 0 n) s2 r.ts) x.2.1 x.2.2.2.1 x.2.2.1 ∧ (∀ z ∈ x.2.2.1, ok (0, z)) ∧ I x.2.2.2.1 x.2.2.2.2) (fun x => ⟨[(167, iv x.1), (166, iv (r.ts.map intR).length), (12, .rp o.vM.v 4 k 0), (143, iv k), (142, iv (o.mats.map matRw).length), (1, .v (.pointer (some ⟨b1, 0, none⟩))), (4, .v (.pointer (some ⟨bs, 0, none⟩))), (5, .fn (.func 76) [] [.v (.pointer (some ⟨bs, 0, none⟩))])], .row o.vM.v 4 64 (md.map matRw ++ ((sv, r2) :: mr_).map matRw) :: .box b1 72 [.v (.pointer (some ⟨bh, 0, none⟩))] :: .box bh 28 (c0 :: c1 :: c2 :: c3 :: o.cells) :: .box bs 115 [.fn (.func 75) [] [.v (.pointer (some ⟨bm, 0, none⟩)), .v (.pointer (some ⟨by_, 0, none⟩))]] :: .box bm 4 [bv true] :: .box by_ 114 [y] :: .row sv.v 1 3 (x.2.1.map intR ++ x.2.2.1.map intR) :: .row o.vE.v 9 39 (ed.map evRw) :: .row o.vR.v 2 61 (od.map ordRw) :: .row o.vW.v 2 67 (o.wants.map wanR) :: (scR 59 ed ++ (otR 3 od ++ (mtR 3 md ++ (mtR 3 mr_ ++ x.2.2.2.2)))), []⟩) (fun x => x.2.2.1.length) (0, [], r.ts, s2, L) ⟨rfl, by simp, .start, hin, hI⟩
          (ent_sub (.cons _ _ _ rfl (.cons _ _ _ rfl (.cons _ _ _ rfl (.cons _ _ _ rfl (.cons _ _ _ rfl (.cons _ _ _ rfl (.cons _ _ _ rfl (.cons _ _ _ rfl (.nil)))))))))) ?_
        rintro ⟨j, sd, sr, u, L⟩ ⟨hj, hjn, hws, hsk, hI⟩
        simp only at hj hjn hws hsk hI
        refine rn ?_
        refine aw_cond rfl (fun hc168 => ?_) (fun hc168 => ?_)
        · have hk2 : j < r.ts.length := by simpa using hc168
          obtain ⟨t, sr, rfl⟩ : ∃ p r, sr = p :: r := by
            cases sr with
            | nil => simp at hjn; omega
            | cons p r => exact ⟨p, r, rfl⟩
          obtain ⟨hx, hsk⟩ := List.forall_mem_cons.1 hsk
          simp only [List.length_cons] at hjn
          have hrowx := at_get (f := intR) (A := sd) (B := sr) (b := t) hj
          have hkx3 := at_len (f := intR) (A := sd) (B := sr) (b := t) hj
          refine rn ?_
          refine aw_draw 7 rfl ?_
          refine rn ?_
          refine aops_e rfl (oe_call rfl rfl (FCall.around [_, _, _, _] [_, _, _] [[.row o.vE.v 9 39 (ed.map evRw), .row o.vR.v 2 61 (od.map ordRw), .row o.vW.v 2 67 (o.wants.map wanR)], scR 59 ed, otR 3 od, mtR 3 md, mtR 3 mr_] (FCall.of_acall (fs := []) (cs := [.v (.pointer (some ⟨bm, 0, none⟩)), .v (.pointer (some ⟨by_, 0, none⟩))]) (sayW f ok I y hy 0 t _ _ _ _ _ _ _ _ hx (at_get hj) rfl bm by_ _ _ (at_set (f := intR) (A := sd) (a := (f u 0 t).1) (B := sr) hj rfl) hI))) rfl ?_)
          rintro _ _ ⟨_, L, rfl, rfl, hI⟩
          show aops _ _ _ _ _ _ ⟨_, .row o.vM.v 4 64 (md.map matRw ++ ((sv, r2) :: mr_).map matRw) :: .box b1 72 [.v (.pointer (some ⟨bh, 0, none⟩))] :: .box bh 28 (c0 :: c1 :: c2 :: c3 :: o.cells) :: .box bs 115 [.fn (.func 75) [] [.v (.pointer (some ⟨bm, 0, none⟩)), .v (.pointer (some ⟨by_, 0, none⟩))]] :: .box bm 4 [bv true] :: .box by_ 114 [y] :: .row sv.v 1 3 (sd.map intR ++ ((f u 0 t).1 :: sr).map intR) :: .row o.vE.v 9 39 (ed.map evRw) :: .row o.vR.v 2 61 (od.map ordRw) :: .row o.vW.v 2 67 (o.wants.map wanR) :: (scR 59 ed ++ (otR 3 od ++ (mtR 3 md ++ (mtR 3 mr_ ++ L)))), _⟩
          refine rn ?_
          exact ⟨(j + 1, sd ++ [(f u 0 t).1], sr, _, L), ⟨by simp [hj], by simp only; omega, hws.step, hsk, hI⟩, (by rw [at_next (f := intR) (A := sd) (b := (f u 0 t).1) (B := sr)]; exact (ent_sub (.cons _ _ _ rfl (.cons _ _ _ rfl (.cons _ _ _ rfl (.cons _ _ _ rfl (.cons _ _ _ rfl (.cons _ _ _ rfl (.cons _ _ _ rfl (.cons _ _ _ rfl (.nil))))))))))), by simp⟩
        · have hk2 : ¬ j < r.ts.length := by simpa using hc168
          obtain rfl : sr = [] := by
            cases sr with
            | nil => rfl
            | cons p r => simp at hjn; omega
          have hfin := hws.fin
          refine rn ?_
          have hev := travMat_eq f (s := sc_) (r := r) (l := sd) (s' := u) (by rw [← hs1, ← hs2]; exact hfin)
          have hw2 := Went.step (x := r) (rest := mr_.map (·.2)) hw
          rw [hev] at hw2
          have hE : (md ++ [(sv, (⟨(f sc_ 3 r.p).1, (f (f sc_ 3 r.p).2 2 r.o).1, r.first, sd⟩ : Mat))]).map matRw ++ mr_.map matRw = md.map matRw ++ ((sv, r2) :: mr_).map matRw := by rw [← at_next, hr2, hr1, hs1]; rfl
          exact ⟨(k + 1, md ++ [(sv, (⟨(f sc_ 3 r.p).1, (f (f sc_ 3 r.p).2 2 r.o).1, r.first, sd⟩ : Mat))], mr_, u, L), ⟨by simp [hk], by simp only; omega, by rw [List.map_append]; exact hw2, hok, hI⟩, (by simp only [hE, mtR_snoc, List.append_assoc, List.map_nil, List.append_nil]; exact ent_trans (ent_pcs (l1 := [[.row o.vM.v 4 64 (md.map matRw ++ ((sv, r2) :: mr_).map matRw)], [.box b1 72 [.v (.pointer (some ⟨bh, 0, none⟩))], .box bh 28 (c0 :: c1 :: c2 :: c3 :: o.cells), .box bs 115 [.fn (.func 75) [] [.v (.pointer (some ⟨bm, 0, none⟩)), .v (.pointer (some ⟨by_, 0, none⟩))]]], [.box bm 4 [bv true], .box by_ 114 [y]], [.row sv.v 1 3 (sd.map intR)], [.row o.vE.v 9 39 (ed.map evRw), .row o.vR.v 2 61 (od.map ordRw), .row o.vW.v 2 67 (o.wants.map wanR)], scR 59 ed, otR 3 od, mtR 3 md, mtR 3 mr_]) (l2 := [[.box b1 72 [.v (.pointer (some ⟨bh, 0, none⟩))], .box bh 28 (c0 :: c1 :: c2 :: c3 :: o.cells), .box bs 115 [.fn (.func 75) [] [.v (.pointer (some ⟨bm, 0, none⟩)), .v (.pointer (some ⟨by_, 0, none⟩))]]], [.box bm 4 [bv true], .box by_ 114 [y]], [.row o.vM.v 4 64 (md.map matRw ++ ((sv, r2) :: mr_).map matRw)], [.row o.vE.v 9 39 (ed.map evRw), .row o.vR.v 2 61 (od.map ordRw), .row o.vW.v 2 67 (o.wants.map wanR)], scR 59 ed, otR 3 od, mtR 3 md, [.row sv.v 1 3 (sd.map intR)], mtR 3 mr_]) ((pt1 _ _ _).trans (.cons _ ((pt1 _ _ _).trans (.cons _ (.cons _ ((pt1 _ _ _).trans (.cons _ ((pt1 _ _ _).trans (.cons _ ((pt1 _ _ _).trans (.cons _ (pt1 _ _ _))))))))))))) (ent_sub (.cons _ _ _ rfl (.cons _ _ _ rfl (.cons _ _ _ rfl (.cons _ _ _ rfl (.cons _ _ _ rfl (.nil)))))))), by simp⟩
      · have hk2 : ¬ k < o.mats.length := by simpa using hc144
        obtain rfl : mr_ = [] := by
          cases mr_ with
          | nil => rfl
          | cons p r => simp at hn; omega
        have hfM := hw.fin
        refine rn ?_
        refine aw_loop' (fun x : Nat × List Wan × List Wan × σ × List Res => x.2.1.length = x.1 ∧ x.1 + x.2.2.1.length = o.wants.length ∧ Went (travWan f) (travL (travWan f) sc_ (o.wants)) (x.2.1) x.2.2.2.1 (x.2.2.1) ∧ (∀ q ∈ x.2.2.1, (∀ z ∈ wanL q, ok z)) ∧ I x.2.2.2.1 x.2.2.2.2) (fun x => ⟨[(185, iv x.1), (184, iv (o.wants.map wanR).length), (1, .v (.pointer (some ⟨b1, 0, none⟩))), (4, .v (.pointer (some ⟨bs, 0, none⟩))), (5, .fn (.func 76) [] [.v (.pointer (some ⟨bs, 0, none⟩))])], .box b1 72 [.v (.pointer (some ⟨bh, 0, none⟩))] :: .box bh 28 (c0 :: c1 :: c2 :: c3 :: o.cells) :: .box bs 115 [.fn (.func 75) [] [.v (.pointer (some ⟨bm, 0, none⟩)), .v (.pointer (some ⟨by_, 0, none⟩))]] :: .box bm 4 [bv true] :: .box by_ 114 [y] :: .row o.vW.v 2 67 (x.2.1.map wanR ++ x.2.2.1.map wanR) :: .row o.vE.v 9 39 (ed.map evRw) :: .row o.vR.v 2 61 (od.map ordRw) :: .row o.vM.v 4 64 (md.map matRw) :: (scR 59 ed ++ (otR 3 od ++ (mtR 3 md ++ x.2.2.2.2))), []⟩) (fun x => x.2.2.1.length) (0, [], o.wants, sc_, L) ⟨rfl, by simp, .start, fun q hq => fun z hz => hok0 z (by simp only [spokenL, OH.hist, List.mem_append, List.mem_flatMap, List.mem_map]; exact (.inr (.inr (.inr ⟨q, hq, hz⟩)))), hI⟩
          (by simp only [List.map_nil, List.append_nil]; exact ent_trans (ent_pcs (l1 := [[.box b1 72 [.v (.pointer (some ⟨bh, 0, none⟩))], .box bh 28 (c0 :: c1 :: c2 :: c3 :: o.cells), .box bs 115 [.fn (.func 75) [] [.v (.pointer (some ⟨bm, 0, none⟩)), .v (.pointer (some ⟨by_, 0, none⟩))]]], [.box bm 4 [bv true], .box by_ 114 [y]], [.row o.vM.v 4 64 (md.map matRw)], [.row o.vE.v 9 39 (ed.map evRw)], [.row o.vR.v 2 61 (od.map ordRw)], [.row o.vW.v 2 67 (o.wants.map wanR)], [], scR 59 ed, otR 3 od, mtR 3 md]) (l2 := [[.box b1 72 [.v (.pointer (some ⟨bh, 0, none⟩))], .box bh 28 (c0 :: c1 :: c2 :: c3 :: o.cells), .box bs 115 [.fn (.func 75) [] [.v (.pointer (some ⟨bm, 0, none⟩)), .v (.pointer (some ⟨by_, 0, none⟩))]]], [.box bm 4 [bv true], .box by_ 114 [y]], [.row o.vW.v 2 67 (o.wants.map wanR)], [.row o.vE.v 9 39 (ed.map evRw)], [.row o.vR.v 2 61 (od.map ordRw)], [.row o.vM.v 4 64 (md.map matRw)], [], scR 59 ed, otR 3 od, mtR 3 md]) (.cons _ (.cons _ ((pt3 _ _ _ _ _).trans (.cons _ ((pt1 _ _ _).trans (.cons _ (pt1 _ _ _)))))))) (ent_sub (.cons _ _ _ rfl (.cons _ _ _ rfl (.cons _ _ _ rfl (.cons _ _ _ rfl (.cons _ _ _ rfl (.nil)))))))) ?_
        rintro ⟨k, wd, wr, sd_, L⟩ ⟨hk, hn, hw, hok, hI⟩
        simp only at hk hn hw hok hI
        refine rn ?_
        refine aw_cond rfl (fun hc186 => ?_) (fun hc186 => ?_)
        · have hk2 : k < o.wants.length := by simpa using hc186
          obtain ⟨w, wr, rfl⟩ : ∃ p r, wr = p :: r := by
            cases wr with
            | nil => simp at hn; omega
            | cons p r => exact ⟨p, r, rfl⟩
          obtain ⟨hq, hok⟩ := List.forall_mem_cons.1 hok
          simp only [List.length_cons] at hn
          have hle : o.wants.length ≤ 4611686018427387904 := la.wants
          have hrow := at_get (f := wanR) (A := wd) (B := wr) (b := w) hk
          have hk3 := at_len (f := wanR) (A := wd) (B := wr) (b := w) hk
          refine rn ?_
          refine aw_draw 8 rfl ?_
          refine rn ?_
          refine aops_e rfl (oe_call rfl rfl (FCall.around [_, _, _] [_, _, _] [[.row o.vE.v 9 39 (ed.map evRw), .row o.vR.v 2 61 (od.map ordRw), .row o.vM.v 4 64 (md.map matRw)], scR 59 ed, otR 3 od, mtR 3 md] (FCall.of_acall (fs := []) (cs := [.v (.pointer (some ⟨bm, 0, none⟩)), .v (.pointer (some ⟨by_, 0, none⟩))]) (sayW f ok I y hy 1 w.s _ _ _ _ _ _ _ _ (hq _ (by simp [wanL])) (at_get hk) rfl bm by_ _ _ (at_set (f := wanR) (A := wd) (a := (travWan f sd_ w).1) (B := wr) hk rfl) hI))) rfl ?_)
          rintro _ _ ⟨_, L, rfl, rfl, hI⟩
          show aops _ _ _ _ _ _ ⟨_, .box b1 72 [.v (.pointer (some ⟨bh, 0, none⟩))] :: .box bh 28 (c0 :: c1 :: c2 :: c3 :: o.cells) :: .box bs 115 [.fn (.func 75) [] [.v (.pointer (some ⟨bm, 0, none⟩)), .v (.pointer (some ⟨by_, 0, none⟩))]] :: .box bm 4 [bv true] :: .box by_ 114 [y] :: .row o.vW.v 2 67 (wd.map wanR ++ ((travWan f sd_ w).1 :: wr).map wanR) :: .row o.vE.v 9 39 (ed.map evRw) :: .row o.vR.v 2 61 (od.map ordRw) :: .row o.vM.v 4 64 (md.map matRw) :: (scR 59 ed ++ (otR 3 od ++ (mtR 3 md ++ L))), _⟩
          refine rn ?_
          exact ⟨(k + 1, wd ++ [(travWan f sd_ w).1], wr, _, L), ⟨by simp [hk], by simp only; omega, hw.step, hok, hI⟩, (by rw [at_next]; exact (ent_sub (.cons _ _ _ rfl (.cons _ _ _ rfl (.cons _ _ _ rfl (.cons _ _ _ rfl (.cons _ _ _ rfl (.nil)))))))), by simp⟩
        · have hk2 : ¬ k < o.wants.length := by simpa using hc186
          obtain rfl : wr = [] := by
            cases wr with
            | nil => rfl
            | cons p r => simp at hn; omega
          have hfW := hw.fin
          refine rn ?_
          have hth := travH_eq f (h := o.hist) hfE hfO hfM hfW
          refine retq_n .nil (.trans (.perm (pcs_perm (l1 := [[.box b1 72 [.v (.pointer (some ⟨bh, 0, none⟩))], .box bh 28 (c0 :: c1 :: c2 :: c3 :: o.cells)], [.box bs 115 [.fn (.func 75) [] [.v (.pointer (some ⟨bm, 0, none⟩)), .v (.pointer (some ⟨by_, 0, none⟩))]]], [.box bm 4 [bv true], .box by_ 114 [y]], [.row o.vW.v 2 67 (wd.map wanR ++ ([] : List Wan).map wanR)], [.row o.vE.v 9 39 (ed.map evRw)], [.row o.vR.v 2 61 (od.map ordRw)], [.row o.vM.v 4 64 (md.map matRw)], [], scR 59 ed, otR 3 od, mtR 3 md]) (l2 := [[.box bs 115 [.fn (.func 75) [] [.v (.pointer (some ⟨bm, 0, none⟩)), .v (.pointer (some ⟨by_, 0, none⟩))]]], [.box bm 4 [bv true], .box by_ 114 [y]], [.box b1 72 [.v (.pointer (some ⟨bh, 0, none⟩))], .box bh 28 (c0 :: c1 :: c2 :: c3 :: o.cells)], [.row o.vE.v 9 39 (ed.map evRw)], [.row o.vR.v 2 61 (od.map ordRw)], [.row o.vM.v 4 64 (md.map matRw)], [.row o.vW.v 2 67 (wd.map wanR ++ ([] : List Wan).map wanR)], [], scR 59 ed, otR 3 od, mtR 3 md]) ((pt1 _ _ _).trans (.cons _ ((pt1 _ _ _).trans (.cons _ (.cons _ ((pt1 _ _ _).trans (.cons _ ((pt1 _ _ _).trans (.cons _ (pt1 _ _ _)))))))))) L) _) (.drop [_, _, _] _ _)) ⟨⟨o.vE, o.vR, o.vM, o.vW, o.ts, o.ss, o.os, o.ps, ed, od, md, wd⟩, L, ?_, rfl, ?_, ?_⟩
          · rw [hth]; rfl
          · rw [hth]; exact hI
          · first | rfl | (simp only [List.map_nil, List.append_nil]; rfl)
end Go.Proofs
