/- The walks of rows of dirty reads, and of seen ones. Conditions: none. -/
import Derived.Test.YtkoaoaogmlpocaaGreatDoorDIsI
set_option linter.unusedSectionVars false
set_option linter.unusedSimpArgs false
set_option linter.unusedVariables false
set_option linter.unusedVariables false
set_option linter.unusedSimpArgs false
set_option maxRecDepth 10000
namespace Go.Proofs
open Go Go.Ab
attribute [local irreducible] QR QV OE aops aw dsoup dsoupM dalloc dallocM thn inBlk jsoup jch lsoup
open Go.H
theorem first_f {b : Bool} (h : b = false) : b = false := h
theorem first_t {b : Bool} (h : b = true) : b = true := h
theorem any_dec {α : Type} [DecidableEq α] {p : α → α → Bool} (hp : ∀ a b, p a b = decide (a = b)) {l : List α} {s : α} : l.any (fun a => p s a) = decide (s ∈ l) := by
  rw [Bool.eq_iff_iff, List.any_eq_true, decide_eq_true_iff]
  constructor
  · rintro ⟨a, ha, e⟩
    rw [hp, decide_eq_true_iff] at e
    exact e ▸ ha
  · intro h; exact ⟨s, h, by rw [hp]; simp⟩
def dirEq (a b : Dirt) : Bool := ([a.kind, a.ev, a.o, a.v.t, a.v.k] : List Int) == [b.kind, b.ev, b.o, b.v.t, b.v.k]
theorem dirEq_eq (a b : Dirt) : dirEq a b = decide (a = b) := by rw [dirEq, dir_list]; rfl
theorem qr_isB {P : Program} {h : List Res} {f : Operand → Option AV} {o : Oper} {b c : Bool} (hq : QR P h f o (.v (.bool b))) (e : b = c) : QR P h f o (.v (.bool c)) := by subst e; exact hq
theorem dirAll_len (h : Hist) (a : List Int) : (dirAll h a).length ≤ 20000000 := by
  rw [dirAll]
  split
  · exact dirL_len (dirC_0.1 ‹_›).1 a
  · exact Nat.zero_le _
theorem all_m {h : Hist} {a : List Int} (hd : ¬ dirC h a = 0) : dirAll h a = [] := all_n hd
theorem indexDir {f : Bool} (l : List Dirt) (s : Dirt) (hl : l.length ≤ 4611686018427387904) : ACall Tryz.prog 70 [.list f 5 (l.map dirR), .agg (dirR s)] [] (fun r h' => h' = [] ∧ r = iv (fidx (fun a => dirEq s a) 0 l)) := by
  refine acall_of_aw Tryz.func70 rfl rfl rfl ?_
  refine rn ?_
  refine aops_e rfl (oe_box rfl rfl rfl fun b3 => ?_)
  refine rn ?_
  refine aw_rng (l.length) (fun k : Nat => fidx (fun a => dirEq s a) 0 l = fidx (fun a => dirEq s a) k (l.drop k)) (fun k => [(8, iv k)]) [(0, _), (3, _), (7, _)] (by simp) ?_
  intro k lk zk
  refine rn ?_
  refine aw_cond rfl (fun hc9 => ?_) (fun hc9 => ?_)
  · have hk := ltMap hc9
    have rk := atRow (f := dirR) hk
    refine rn ?_
    refine aw_draw 5 rfl ?_
    refine rn ?_
    refine aw_cond rfl (fun hc16 => ?_) (fun hc16 => ?_)
    · refine rn ?_
      refine rq 1 ?_
      exact ⟨rfl, congrArg iv (by rw [zk, List.drop_eq_getElem_cons hk, fidx, if_pos (show dirEq s l[k] = true from first_t hc16)])⟩
    · refine rn ?_
      exact ⟨hk, by rw [zk, List.drop_eq_getElem_cons hk, fidx, if_neg (by rw [show dirEq s l[k] = false from first_f hc16]; decide)], eA⟩
  · have qk := geMap hc9 lk
    refine rn ?_
    refine rq 1 ?_
    exact ⟨rfl, congrArg iv (by rw [zk, qk, List.drop_length]; rfl)⟩
theorem containsDir {f : Bool} (l : List Dirt) (s : Dirt) (hl : l.length ≤ 4611686018427387904) : ACall Tryz.prog 24 [.list f 5 (l.map dirR), .agg (dirR s)] [] (fun r h' => h' = [] ∧ r = bv (decide (s ∈ l))) := by
  refine acall_of_aw Tryz.func24 rfl rfl rfl ?_
  refine rn ?_
  refine aops_e rfl (oe_box rfl rfl rfl fun b3 => ?_)
  refine rn ?_
  refine qv rfl rfl (qv_call rfl rfl (pcall (indexDir _ _ hl) (Sbs.refl _))) ?_
  refine rn ?_
  refine rq 1 ?_
  exact ⟨rfl, congrArg bv (by rw [fidx_ge]; exact any_dec dirEq_eq)⟩
end Go.Proofs
/- Structs of numbers that are the same. Conditions: none. -/
set_option linter.unusedVariables false
namespace Go.Ab
open Go
section
variable {P : Program} {h : List Res} {f : Operand → Option AV} {dst : Option Tmp} {ty : TypeId} {pos : String} {after : Array Edge} {guard : Option (Nat × Bool)} {x y : Operand}
end
end Go.Ab
/- The walks of DirtyTells, DirtyIs. Conditions: none. -/
set_option linter.unusedVariables false
set_option linter.unusedSimpArgs false
set_option maxRecDepth 10000
namespace Go.Proofs
open Go Go.Ab
attribute [local irreducible] QR QV OE aops aw dsoup dsoupM dalloc dallocM thn inBlk jsoup jch lsoup
open Go.H
theorem dirtyIsM (h : Hist) (la : Lim 4611686018427387904 h) (a : List Int) (ha : a.length ≤ 1000000) {j : Nat} (hj : j < (dirAll h a).length) : ACall Tryz.prog 23 [.agg (histC h), intsA a, .agg (dirR (dirAll h a)[j])] (.glob 0 186 limitsC :: .glob 2 287 firstC :: .glob 3 290 acceptC :: .glob 1 250 asksC :: []) (fun r h' => h' = .glob 0 186 limitsC :: .glob 2 287 firstC :: .glob 3 290 acceptC :: .glob 1 250 asksC :: [] ∧ r = bv true) := (dirtyIs h la a ha _).mono fun _ _ q => ⟨q.1, by rw [q.2, decide_eq_true (List.getElem_mem hj)]⟩
set_option maxHeartbeats 4000000 in
theorem dirtyIsW (x : Hist) (y : List Int) (zs : List Dirt) (lb : Lim 4611686018427387904 x) (hl : y.length ≤ 4611686018427387904) (hz : zs.length ≤ 4611686018427387904) : ACall Tryz.prog 4 [.agg (histC x), intsA y, dirsA zs] (.glob 0 186 limitsC :: .glob 2 287 firstC :: .glob 3 290 acceptC :: .glob 1 250 asksC :: []) (fun r h' => h' = .glob 0 186 limitsC :: .glob 2 287 firstC :: .glob 3 290 acceptC :: .glob 1 250 asksC :: [] ∧ r = bv true) := by
  refine acall_of_aw Tryz.func4 rfl rfl rfl ?_
  refine rn ?_
  refine aops_e rfl (oe_box rfl rfl rfl fun b3 => ?_)
  refine rn ?_
  refine qv rfl rfl (qv_call rfl rfl (FCall.qt (FCall.of_fun wakes23) ((pt1 _ _ _).trans (.cons _ ((pt1 _ _ _).trans (.cons _ ((pt1 _ _ _).trans (.cons _ (pt1 _ _ _))))))))) ?_
  refine rn ?_
  refine aw_cond rfl (fun hc15 => ?_) (fun hc15 => ?_)
  · exact absurd hc15 (by decide)
  · refine rn ?_
    refine qv rfl rfl (qv_call rfl rfl (pcall (few23 x lb) (Sbs.refl _))) ?_
    refine rn ?_
    refine qv rfl rfl (qv_call rfl rfl (pcall (levels y hl) (Sbs.refl _))) ?_
    refine aops_e rfl (oe_alloc rfl fun b7 => ?_)
    first | refine aops_e rfl (oe_store_all rfl rfl rfl ?_) | refine aops_e rfl (oe_store rfl rfl rfl rfl (Nat.le_of_ble_eq_true rfl) ?_)
    refine q1 ?_
    refine aops_nil (thn_n ?_)
    refine aw_seq (aw_region ?_)
    refine qq rfl rfl (qr_weak (fun w O v hr => Sb.rel (Sb.nil false 5) hr) (qr_assign rfl)) ?_
    refine rn0 ?_
    refine aw_cut (⟨[(9, dirsA (dirAll (fewA x) (levX y))), (2, dirsA zs), (7, .v (.pointer (some ⟨b7, 0, none⟩))), (8, intsA (levX y))], .box b7 28 (histC (fewA x)) :: .box b3 28 (histC x) :: .glob 0 186 limitsC :: .glob 2 287 firstC :: .glob 3 290 acceptC :: .glob 1 250 asksC :: [], []⟩) ?_ ?_
    · refine rn ?_
      refine qv rfl rfl (qv_call rfl rfl (pcall (refCheck23 (fewA x) ((fewA_lim x).mono (by decide)) (levX y) (Nat.le_trans (levX_len y) (by decide))) (Sbs.refl _))) ?_
      refine rn ?_
      refine aw_cond rfl (fun hc23 => ?_) (fun hc23 => ?_)
      · have hd : (dirC (fewA x) (levX y)) = 0 := by simpa using hc23
        refine rn ?_
        refine qv rfl rfl (qv_call rfl rfl (pcall (refAll23 (fewA x) ((fewA_lim x).mono (by decide) : Lim 1000000 (fewA x)) (levX y) hd) (Sbs.refl _))) ?_
        refine rn ?_
        first | (rw [all_m hd]; exact eA) | exact eA
      · have hd : ¬ (dirC (fewA x) (levX y)) = 0 := by simpa using hc23
        refine rn ?_
        first | (rw [all_m hd]; exact eA) | exact eA
    · refine rn ?_
      refine aw_rng (zs.length) (fun j : Nat => True) (fun j => [(29, iv j)]) [(7, _), (8, _), (9, _), (27, _), (28, _)] trivial ?_
      intro j lj _
      refine rn ?_
      refine aw_cond rfl (fun hc30 => ?_) (fun hc30 => ?_)
      · have hj := ltMap hc30
        have rj := atRow (f := dirR) hj
        refine rn ?_
        refine aops_e rfl (oe_alloc rfl fun b11 => ?_)
        refine rn ?_
        refine aw_draw 9 rfl ?_
        refine rn ?_
        refine dsplit (fun hg10_2 => ?_) (fun hg10_2 => ?_)
        · refine rn ?_
          refine dv rfl rfl (by exact qv_call rfl rfl (FCall.qt (FCall.of_fun (dirtyIs (fewA x) ((fewA_lim x).mono (by decide)) (levX y) (Nat.le_trans (levX_len y) (by decide)) zs[j])) ((pt3 _ _ _ _ _).trans (.cons _ ((pt3 _ _ _ _ _).trans (.cons _ ((pt3 _ _ _ _ _).trans (.cons _ (pt3 _ _ _ _ _))))))))) ?_
          refine rn ?_
          refine qv rfl rfl (qv_call rfl rfl (pcall (containsDir (dirAll (fewA x) (levX y)) zs[j] (Nat.le_trans (dirAll_len _ _) (by decide))) (Sbs.refl _))) ?_
          refine qq rfl rfl (qr_isB (c := false) (qr_nebool rfl rfl) (by simp)) ?_
          refine rn ?_
          refine aw_cond rfl (fun hc45 => ?_) (fun hc45 => ?_)
          · exact absurd hc45 (by decide)
          · refine rn ?_
            exact ⟨hj, trivial, eA⟩
        · refine rn ?_
          refine aw_cf rfl ?_
          refine rn ?_
          exact ⟨hj, trivial, eA⟩
      · have qj := geMap hc30 lj
        refine rn ?_
        refine aw_rng ((dirAll (fewA x) (levX y)).length) (fun k : Nat => True) (fun k => [(49, iv k)]) [(7, _), (8, _), (47, _), (48, _)] trivial ?_
        intro k lk _
        refine rn ?_
        refine aw_cond rfl (fun hc50 => ?_) (fun hc50 => ?_)
        · have hk := ltMap hc50
          have rk := atRow (f := dirR) hk
          have bk := dirAll_len (fewA x) (levX y)
          refine rn ?_
          refine aops_e rfl (oe_alloc rfl fun b13 => ?_)
          refine rn ?_
          refine asplit (fun hg16_2 => ?_) (fun hg16_2 => ?_)
          · refine rn ?_
            refine qv rfl rfl (qv_call rfl rfl (FCall.qt (FCall.of_fun (dirtyIsM (fewA x) ((fewA_lim x).mono (by decide)) (levX y) (Nat.le_trans (levX_len y) (by decide)) hk)) ((pt3 _ _ _ _ _).trans (.cons _ ((pt3 _ _ _ _ _).trans (.cons _ ((pt3 _ _ _ _ _).trans (.cons _ (pt3 _ _ _ _ _))))))))) ?_
            refine rn ?_
            refine aw_cond rfl (fun hc62 => ?_) (fun hc62 => ?_)
            · exact absurd hc62 (by decide)
            · refine rn ?_
              exact ⟨hk, trivial, eA⟩
          · refine rn ?_
            refine aw_cf rfl ?_
            refine rn ?_
            exact ⟨hk, trivial, eA⟩
        · have qk := geMap hc50 lk
          refine rn ?_
          refine rq 2 ?_
          exact ⟨rfl, rfl⟩
end Go.Proofs
