/- The walk of history.spoken, reading. Conditions: none. -/
import Derived.Test.YtdbfjfphfbcgiaaGreatDoorRanksH
set_option linter.unusedSectionVars false
set_option linter.unusedSimpArgs false
set_option linter.unusedVariables false
set_option linter.unusedVariables false
set_option linter.unusedSimpArgs false
set_option maxRecDepth 10000
namespace Go.Proofs
open Go Go.Ab
attribute [local irreducible] QR QV OE aops aw dsoup dsoupM dalloc dallocM thn inBlk
open Go.H
theorem sayR {σ : Type} (step : σ → Nat × Int → Option σ) (ok : Nat × Int → Prop) (IJ : Option σ → List Res → Prop) (y : AV) (hy : ∀ (s : σ) (L : List Res) (sort : Nat) (n : Int) (cells : List AV), ok (sort, n) → IJ (some s) L → FCall Tryz.prog y [iv sort, .pp (iv n :: cells)] L (fun r h' => r = bv (step s (sort, n)).isSome ∧ IJ (step s (sort, n)) h')) (sort : Nat) (n : Int) (hs : ok (sort, n)) (cells : List AV) (bm by_ : Nat) (st : Option σ) (L : List Res) (hI : IJ st L) : ACall Tryz.prog 156 [iv sort, .pp (iv n :: cells), .v (.pointer (some ⟨bm, 0, none⟩)), .v (.pointer (some ⟨by_, 0, none⟩))] (.box bm 4 [bv (st).isSome] :: .box by_ 187 [y] :: L) (fun r h' => ∃ L', IJ (goes step st [(sort, n)]) L' ∧ h' = .box bm 4 [bv (goes step st [(sort, n)]).isSome] :: .box by_ 187 [y] :: L') := by
  refine acall_of_aw Tryz.func156 rfl rfl rfl ?_
  refine rn ?_
  refine asplit (fun hg0_1 => ?_) (fun hg0_1 => ?_)
  · refine rn ?_
    obtain ⟨s, rfl⟩ := Option.isSome_iff_exists.1 hg0_1
    refine aops_e rfl (oe_call rfl rfl (FCall.fr2 (hy s L sort n cells hs hI)) rfl ?_)
    rintro _ _ ⟨L2, rfl, rfl, hI2⟩
    refine rn ?_
    first
      | exact retq_n .nil (.refl _ _) ⟨L2, hI2, rfl⟩
      | (obtain rfl := Option.not_isSome_iff_eq_none.1 (show ¬ st.isSome = true by simp [hg0_1])
         exact retq_n .nil (.refl _ _) ⟨L, hI, rfl⟩)
  · refine rn ?_
    first
      | exact retq_n .nil (.refl _ _) ⟨L2, hI2, rfl⟩
      | (obtain rfl := Option.not_isSome_iff_eq_none.1 (show ¬ st.isSome = true by simp [hg0_1])
         exact retq_n .nil (.refl _ _) ⟨L, hI, rfl⟩)
theorem madeR {σ : Type} (step : σ → Nat × Int → Option σ) (ok : Nat × Int → Prop) (IJ : Option σ → List Res → Prop) (y : AV) (hy : ∀ (s : σ) (L : List Res) (sort : Nat) (n : Int) (cells : List AV), ok (sort, n) → IJ (some s) L → FCall Tryz.prog y [iv sort, .pp (iv n :: cells)] L (fun r h' => r = bv (step s (sort, n)).isSome ∧ IJ (step s (sort, n)) h')) (v : Ver) (hv : ∀ x ∈ madeL v, ok x) (cells : List AV) (bs bm by_ : Nat) (st : Option σ) (L : List Res) (hI : IJ st L) : ACall Tryz.prog 157 [.pp (iv v.t :: iv v.k :: cells), .v (.pointer (some ⟨bs, 0, none⟩))] (.box bs 188 [.fn (.func 156) [] [.v (.pointer (some ⟨bm, 0, none⟩)), .v (.pointer (some ⟨by_, 0, none⟩))]] :: .box bm 4 [bv (st).isSome] :: .box by_ 187 [y] :: L) (fun r h' => ∃ L', IJ (goes step st (madeL v)) L' ∧ h' = .box bs 188 [.fn (.func 156) [] [.v (.pointer (some ⟨bm, 0, none⟩)), .v (.pointer (some ⟨by_, 0, none⟩))]] :: .box bm 4 [bv (goes step st (madeL v)).isSome] :: .box by_ 187 [y] :: L') := by
  refine acall_of_aw Tryz.func157 rfl rfl rfl ?_
  refine rn ?_
  refine aw_cond rfl (fun hc7 => ?_) (fun hc7 => ?_)
  · refine aw_draw 4 rfl ?_
    refine rn ?_
    refine aops_e rfl (oe_call rfl rfl (FCall.fr1 (FCall.of_acall (fs := []) (cs := [.v (.pointer (some ⟨bm, 0, none⟩)), .v (.pointer (some ⟨by_, 0, none⟩))]) (sayR step ok IJ y hy 0 v.t (hv _ (by rw [madeL, if_pos hc7]; simp)) (iv v.k :: cells) bm by_ _ _ hI))) rfl ?_)
    rintro _ _ ⟨_, rfl, L2, hI2, rfl⟩
    refine rn ?_
    first
      | (have hm : madeL v = [(0, v.t)] := by rw [madeL, if_pos hc7]
         rw [hm]; exact retq_n .nil (.refl _ _) ⟨L2, hI2, rfl⟩)
      | (have hm : madeL v = [] := by rw [madeL, if_neg (by rw [hc7]; decide)]
         rw [hm]; exact retq_n .nil (.refl _ _) ⟨L, hI, rfl⟩)
  · refine rn ?_
    first
      | (have hm : madeL v = [(0, v.t)] := by rw [madeL, if_pos hc7]
         rw [hm]; exact retq_n .nil (.refl _ _) ⟨L2, hI2, rfl⟩)
      | (have hm : madeL v = [] := by rw [madeL, if_neg (by rw [hc7]; decide)]
         rw [hm]; exact retq_n .nil (.refl _ _) ⟨L, hI, rfl⟩)
theorem spokenR {σ : Type} (step : σ → Nat × Int → Option σ) (ok : Nat × Int → Prop) (IJ : Option σ → List Res → Prop) (y : AV) (hone : y.cellsOf = some [y]) (hy : ∀ (s : σ) (L : List Res) (sort : Nat) (n : Int) (cells : List AV), ok (sort, n) → IJ (some s) L → FCall Tryz.prog y [iv sort, .pp (iv n :: cells)] L (fun r h' => r = bv (step s (sort, n)).isSome ∧ IJ (step s (sort, n)) h')) (h : Hist) (la : Lim 4611686018427387904 h) (b1 bh : Nat) (hok : ∀ x ∈ spokenL h, ok x) (s0 : σ) (L0 : List Res) (h0 : IJ (some s0) L0) : ACall Tryz.prog 155 [y, .v (.pointer (some ⟨b1, 0, none⟩))] (.box b1 149 [.v (.pointer (some ⟨bh, 0, none⟩))] :: .box bh 28 (histC h) :: L0) (fun r h' => ∃ L', IJ (goes step (some s0) (spokenL h)) L' ∧ h' = .box b1 149 [.v (.pointer (some ⟨bh, 0, none⟩))] :: .box bh 28 (histC h) :: L') := by
  refine acall_of_aw Tryz.func155 rfl rfl rfl ?_
  refine rn ?_
  refine aops_e rfl (oe_box rfl hone rfl fun by_ => ?_)
  refine rn ?_
  refine aops_e rfl (oe_alloc rfl fun bm => ?_)
  refine rn ?_
  refine aops_e rfl (oe_alloc rfl fun bs => ?_)
  refine rn ?_
  refine aw_loop' (fun x : Nat × Option σ × List Res => x.1 ≤ h.evs.length ∧ IJ x.2.1 x.2.2 ∧ Rem step ok x.2.1 (((h.evs.drop x.1).flatMap evL) ++ (h.ords.flatMap ordL ++ (h.mats.flatMap matL ++ h.wants.flatMap wanL))) (goes step (some s0) (spokenL h))) (fun x => ⟨[(22, iv x.1), (21, iv (h.evs.map evR).length), (1, .v (.pointer (some ⟨b1, 0, none⟩))), (4, .v (.pointer (some ⟨bs, 0, none⟩))), (5, .fn (.func 157) [] [.v (.pointer (some ⟨bs, 0, none⟩))])], .box b1 149 [.v (.pointer (some ⟨bh, 0, none⟩))] :: .box bh 28 (histC h) :: .box bs 188 [.fn (.func 156) [] [.v (.pointer (some ⟨bm, 0, none⟩)), .v (.pointer (some ⟨by_, 0, none⟩))]] :: .box bm 4 [bv (x.2.1).isSome] :: .box by_ 187 [y] :: x.2.2, []⟩) (fun x => h.evs.length - x.1) (0, some s0, L0) ⟨by omega, h0, rfl, hok⟩
    (ent_trans (ent_perm ((pt3 _ _ _ _ _).trans (.cons _ (pt3 _ _ _ _ _)))) (ent_sub (.cons _ _ _ rfl (.cons _ _ _ rfl (.cons _ _ _ rfl (.cons _ _ _ rfl (.cons _ _ _ rfl (.nil)))))))) ?_
  rintro ⟨k, st, L⟩ ⟨hk, hI, hF⟩
  simp only at hk hI hF
  refine rn ?_
  refine aw_cond rfl (fun hc23 => ?_) (fun hc23 => ?_)
  · have k2 : k < h.evs.length := by simpa using hc23
    obtain ⟨e, he⟩ : ∃ e, e = h.evs[k] := ⟨_, rfl⟩
    have hrowe : (h.evs.map evR)[k]? = some (evR e) := by rw [he]; simp [k2]
    have hde := List.drop_eq_getElem_cons k2
    rw [hde, ← he] at hF
    simp only [List.flatMap_cons, evL, List.cons_append, List.append_assoc] at hF
    obtain ⟨hx, hF⟩ := hF.cons
    obtain ⟨hkx, hF⟩ := hF.app
    have hle := la.evs
    have hls := la.scans e (by rw [he]; simp)
    refine rn ?_
    refine aw_draw 4 rfl ?_
    refine rn ?_
    refine aops_e rfl (oe_call rfl rfl (FCall.fr3 (FCall.of_acall (fs := []) (cs := [.v (.pointer (some ⟨bm, 0, none⟩)), .v (.pointer (some ⟨by_, 0, none⟩))]) (sayR step ok IJ y hy 0 e.t hx _ bm by_ _ _ hI))) rfl ?_)
    rintro _ _ ⟨_, rfl, L, hI, rfl⟩
    refine rn0 ?_
    refine aw_cutE (fun L => IJ (goes step (goes step st [(0, e.t)]) (kindL e)) L) (fun L => ⟨[(7, .pp (evR e)), (22, iv k), (21, iv (h.evs.map evR).length), (1, .v (.pointer (some ⟨b1, 0, none⟩))), (4, .v (.pointer (some ⟨bs, 0, none⟩))), (5, .fn (.func 157) [] [.v (.pointer (some ⟨bs, 0, none⟩))])], .box b1 149 [.v (.pointer (some ⟨bh, 0, none⟩))] :: .box bh 28 (histC h) :: .box bs 188 [.fn (.func 156) [] [.v (.pointer (some ⟨bm, 0, none⟩)), .v (.pointer (some ⟨by_, 0, none⟩))]] :: .box bm 4 [bv (goes step (goes step st [(0, e.t)]) (kindL e)).isSome] :: .box by_ 187 [y] :: L, []⟩) ?_ ?_
    · refine rn ?_
      refine aw_cond rfl (fun hc40 => ?_) (fun hc40 => ?_)
      · have hkl := kindL_1 (e := e) (by simpa using hc40)
        refine aw_draw 4 rfl ?_
        refine rn ?_
        refine aops_e rfl (oe_call rfl rfl (FCall.fr3 (FCall.of_acall (fs := []) (cs := [.v (.pointer (some ⟨bm, 0, none⟩)), .v (.pointer (some ⟨by_, 0, none⟩))]) (sayR step ok IJ y hy 1 e.s (hkx _ (by rw [hkl]; simp)) _ bm by_ _ _ hI))) rfl ?_)
        rintro _ _ ⟨_, rfl, L, hI, rfl⟩
        refine rn ?_
        refine ⟨L, ?_, ?_⟩
        · show IJ (goes step _ (kindL e)) L
          rw [hkl]; exact hI
        · rw [hkl]; exact (ent_sub (.cons _ _ _ rfl (.cons _ _ _ rfl (.cons _ _ _ rfl (.cons _ _ _ rfl (.cons _ _ _ rfl (.cons _ _ _ rfl (.nil))))))))
      · have hn1 : e.kind ≠ 1 := by simpa using hc40
        refine rn ?_
        refine aw_cond rfl (fun hc47 => ?_) (fun hc47 => ?_)
        · have hk23 : e.kind = 2 ∨ e.kind = 3 := by simp at hc47; omega
          have hkl := kindL_2 hk23
          refine rn ?_
          refine aw_cond rfl (fun hc47 => ?_) (fun hc47 => ?_)
          · have hk23 : e.kind = 2 ∨ e.kind = 3 := by simp at hc47; omega
            have hkl := kindL_2 hk23
            refine rn ?_
            refine aw_draw 4 rfl ?_
            refine rn ?_
            refine aops_e rfl (oe_call rfl rfl (FCall.fr3 (FCall.of_acall (fs := []) (cs := [.v (.pointer (some ⟨bm, 0, none⟩)), .v (.pointer (some ⟨by_, 0, none⟩))]) (sayR step ok IJ y hy 2 e.o (hkx _ (by rw [hkl]; simp)) _ bm by_ _ _ hI))) rfl ?_)
            rintro _ _ ⟨_, rfl, L, hI, rfl⟩
            refine rn ?_
            refine aops_e rfl (oe_call rfl rfl (FCall.fr2 (FCall.of_acall (fs := []) (cs := [.v (.pointer (some ⟨bs, 0, none⟩))]) (madeR step ok IJ y hy e.v (fun x hx => hkx x (by rw [hkl]; simp [hx])) _ bs bm by_ _ _ hI))) rfl ?_)
            rintro _ _ ⟨_, rfl, L, hI, rfl⟩
            refine rn ?_
            refine ⟨L, ?_, ?_⟩
            · show IJ (goes step _ (kindL e)) L
              rw [hkl]; exact hI
            · rw [hkl]; exact (ent_sub (.cons _ _ _ rfl (.cons _ _ _ rfl (.cons _ _ _ rfl (.cons _ _ _ rfl (.cons _ _ _ rfl (.cons _ _ _ rfl (.nil))))))))
          · first | cases hc47 | exact absurd hc47 (by decide) | (exfalso; simp_all; done)
        · have hn23 := hc47
          simp at hn23
          refine rn ?_
          refine aw_cond rfl (fun hc47 => ?_) (fun hc47 => ?_)
          · have hk23 : e.kind = 2 ∨ e.kind = 3 := by simp at hc47; omega
            have hkl := kindL_2 hk23
            refine rn ?_
            refine aw_draw 4 rfl ?_
            refine rn ?_
            refine aops_e rfl (oe_call rfl rfl (FCall.fr3 (FCall.of_acall (fs := []) (cs := [.v (.pointer (some ⟨bm, 0, none⟩)), .v (.pointer (some ⟨by_, 0, none⟩))]) (sayR step ok IJ y hy 2 e.o (hkx _ (by rw [hkl]; simp)) _ bm by_ _ _ hI))) rfl ?_)
            rintro _ _ ⟨_, rfl, L, hI, rfl⟩
            refine rn ?_
            refine aops_e rfl (oe_call rfl rfl (FCall.fr2 (FCall.of_acall (fs := []) (cs := [.v (.pointer (some ⟨bs, 0, none⟩))]) (madeR step ok IJ y hy e.v (fun x hx => hkx x (by rw [hkl]; simp [hx])) _ bs bm by_ _ _ hI))) rfl ?_)
            rintro _ _ ⟨_, rfl, L, hI, rfl⟩
            refine rn ?_
            refine ⟨L, ?_, ?_⟩
            · show IJ (goes step _ (kindL e)) L
              rw [hkl]; exact hI
            · rw [hkl]; exact (ent_sub (.cons _ _ _ rfl (.cons _ _ _ rfl (.cons _ _ _ rfl (.cons _ _ _ rfl (.cons _ _ _ rfl (.cons _ _ _ rfl (.nil))))))))
          · have hn23 := hc47
            simp at hn23
            refine rn ?_
            refine aw_cond rfl (fun hc60 => ?_) (fun hc60 => ?_)
            · have hkl := kindL_4 (e := e) (by simpa using hc60)
              refine aw_draw 4 rfl ?_
              refine rn ?_
              refine aops_e rfl (oe_call rfl rfl (FCall.fr3 (FCall.of_acall (fs := []) (cs := [.v (.pointer (some ⟨bm, 0, none⟩)), .v (.pointer (some ⟨by_, 0, none⟩))]) (sayR step ok IJ y hy 3 e.p (hkx _ (by rw [hkl]; simp)) _ bm by_ _ _ hI))) rfl ?_)
              rintro _ _ ⟨_, rfl, L, hI, rfl⟩
              refine rn ?_
              refine ⟨L, ?_, ?_⟩
              · show IJ (goes step _ (kindL e)) L
                rw [hkl]; exact hI
              · rw [hkl]; exact (ent_sub (.cons _ _ _ rfl (.cons _ _ _ rfl (.cons _ _ _ rfl (.cons _ _ _ rfl (.cons _ _ _ rfl (.cons _ _ _ rfl (.nil))))))))
            · have hn4 : e.kind ≠ 4 := by simpa using hc60
              have hkl := kindL_0 (e := e) hn1 (by omega) (by omega) hn4
              refine rn ?_
              refine ⟨L, ?_, ?_⟩
              · show IJ (goes step _ (kindL e)) L
                rw [hkl]; exact hI
              · rw [hkl]; exact (ent_sub (.cons _ _ _ rfl (.cons _ _ _ rfl (.cons _ _ _ rfl (.cons _ _ _ rfl (.cons _ _ _ rfl (.cons _ _ _ rfl (.nil))))))))
    · rintro L hI
      revert hI hF
      generalize goes step (goes step st [(0, e.t)]) (kindL e) = st2
      intro hF hI
      refine rn ?_
      refine aw_loop' (fun x : Nat × Option σ × List Res => x.1 ≤ e.scan.length ∧ IJ x.2.1 x.2.2 ∧ Rem step ok x.2.1 (((e.scan.drop x.1).flatMap seenL) ++ (((h.evs.drop (k + 1)).flatMap evL) ++ (h.ords.flatMap ordL ++ (h.mats.flatMap matL ++ h.wants.flatMap wanL)))) (goes step (some s0) (spokenL h))) (fun x => ⟨[(72, iv x.1), (71, iv (e.scan.map seenR).length), (7, .pp (evR e)), (22, iv k), (21, iv (h.evs.map evR).length), (1, .v (.pointer (some ⟨b1, 0, none⟩))), (4, .v (.pointer (some ⟨bs, 0, none⟩))), (5, .fn (.func 157) [] [.v (.pointer (some ⟨bs, 0, none⟩))])], .box b1 149 [.v (.pointer (some ⟨bh, 0, none⟩))] :: .box bh 28 (histC h) :: .box bs 188 [.fn (.func 156) [] [.v (.pointer (some ⟨bm, 0, none⟩)), .v (.pointer (some ⟨by_, 0, none⟩))]] :: .box bm 4 [bv (x.2.1).isSome] :: .box by_ 187 [y] :: x.2.2, []⟩) (fun x => e.scan.length - x.1) (0, st2, L) ⟨by omega, hI, hF⟩
        (ent_sub (.cons _ _ _ rfl (.cons _ _ _ rfl (.cons _ _ _ rfl (.cons _ _ _ rfl (.cons _ _ _ rfl (.cons _ _ _ rfl (.cons _ _ _ rfl (.cons _ _ _ rfl (.nil)))))))))) ?_
      rintro ⟨j, st, L⟩ ⟨hj, hI, hF⟩
      simp only at hj hI hF
      refine rn ?_
      refine aw_cond rfl (fun hc73 => ?_) (fun hc73 => ?_)
      · have j2 : j < e.scan.length := by simpa using hc73
        obtain ⟨x, hx⟩ : ∃ x, x = e.scan[j] := ⟨_, rfl⟩
        have hrowx : (e.scan.map seenR)[j]? = some (seenR x) := by rw [hx]; simp [j2]
        have hdx := List.drop_eq_getElem_cons j2
        rw [hdx, ← hx] at hF
        simp only [List.flatMap_cons, seenL, List.cons_append, List.append_assoc] at hF
        obtain ⟨hx, hF⟩ := hF.cons
        obtain ⟨hkx, hF⟩ := hF.app
        refine rn ?_
        refine aw_draw 8 rfl ?_
        refine rn ?_
        refine aops_e rfl (oe_call rfl rfl (FCall.fr3 (FCall.of_acall (fs := []) (cs := [.v (.pointer (some ⟨bm, 0, none⟩)), .v (.pointer (some ⟨by_, 0, none⟩))]) (sayR step ok IJ y hy 2 x.o hx _ bm by_ _ _ hI))) rfl ?_)
        rintro _ _ ⟨_, rfl, L, hI, rfl⟩
        refine rn ?_
        refine aops_e rfl (oe_call rfl rfl (FCall.fr2 (FCall.of_acall (fs := []) (cs := [.v (.pointer (some ⟨bs, 0, none⟩))]) (madeR step ok IJ y hy x.v hkx _ bs bm by_ _ _ hI))) rfl ?_)
        rintro _ _ ⟨_, rfl, L, hI, rfl⟩
        refine rn ?_
        exact ⟨(j + 1, _, L), ⟨by omega, hI, hF⟩, (ent_sub (.cons _ _ _ rfl (.cons _ _ _ rfl (.cons _ _ _ rfl (.cons _ _ _ rfl (.cons _ _ _ rfl (.cons _ _ _ rfl (.cons _ _ _ rfl (.cons _ _ _ rfl (.nil)))))))))), by simp only; omega⟩
      · obtain rfl : j = e.scan.length := by
          have : e.scan.length ≤ j := by simpa using hc73
          omega
        rw [List.drop_length, List.flatMap_nil, List.nil_append] at hF
        refine rn ?_
        exact ⟨(k + 1, _, L), ⟨by omega, hI, hF⟩, (ent_sub (.cons _ _ _ rfl (.cons _ _ _ rfl (.cons _ _ _ rfl (.cons _ _ _ rfl (.cons _ _ _ rfl (.nil))))))), by simp only; omega⟩
  · obtain rfl : k = h.evs.length := by
      have : h.evs.length ≤ k := by simpa using hc23
      omega
    rw [List.drop_length, List.flatMap_nil, List.nil_append] at hF
    refine rn ?_
    refine aw_loop' (fun x : Nat × Option σ × List Res => x.1 ≤ h.ords.length ∧ IJ x.2.1 x.2.2 ∧ Rem step ok x.2.1 (((h.ords.drop x.1).flatMap ordL) ++ (h.mats.flatMap matL ++ h.wants.flatMap wanL)) (goes step (some s0) (spokenL h))) (fun x => ⟨[(100, iv x.1), (99, iv (h.ords.map ordR).length), (1, .v (.pointer (some ⟨b1, 0, none⟩))), (4, .v (.pointer (some ⟨bs, 0, none⟩))), (5, .fn (.func 157) [] [.v (.pointer (some ⟨bs, 0, none⟩))])], .box b1 149 [.v (.pointer (some ⟨bh, 0, none⟩))] :: .box bh 28 (histC h) :: .box bs 188 [.fn (.func 156) [] [.v (.pointer (some ⟨bm, 0, none⟩)), .v (.pointer (some ⟨by_, 0, none⟩))]] :: .box bm 4 [bv (x.2.1).isSome] :: .box by_ 187 [y] :: x.2.2, []⟩) (fun x => h.ords.length - x.1) (0, st, L) ⟨by omega, hI, hF⟩
      (ent_sub (.cons _ _ _ rfl (.cons _ _ _ rfl (.cons _ _ _ rfl (.cons _ _ _ rfl (.cons _ _ _ rfl (.nil))))))) ?_
    rintro ⟨k, st, L⟩ ⟨hk, hI, hF⟩
    simp only at hk hI hF
    refine rn ?_
    refine aw_cond rfl (fun hc101 => ?_) (fun hc101 => ?_)
    · have k2 : k < h.ords.length := by simpa using hc101
      obtain ⟨r, hr⟩ : ∃ r, r = h.ords[k] := ⟨_, rfl⟩
      have hrowr : (h.ords.map ordR)[k]? = some (ordR r) := by rw [hr]; simp [k2]
      have hdr := List.drop_eq_getElem_cons k2
      rw [hdr, ← hr] at hF
      simp only [List.flatMap_cons, ordL, List.cons_append, List.append_assoc] at hF
      obtain ⟨hx, hF⟩ := hF.cons
      have hle := la.ords
      have hls := la.ordts r (by rw [hr]; simp)
      refine rn ?_
      refine aw_draw 8 rfl ?_
      refine rn ?_
      refine aops_e rfl (oe_call rfl rfl (FCall.fr3 (FCall.of_acall (fs := []) (cs := [.v (.pointer (some ⟨bm, 0, none⟩)), .v (.pointer (some ⟨by_, 0, none⟩))]) (sayR step ok IJ y hy 2 r.o hx _ bm by_ _ _ hI))) rfl ?_)
      rintro _ _ ⟨_, rfl, L, hI, rfl⟩
      refine rn ?_
      refine aw_loop' (fun x : Nat × Option σ × List Res => x.1 ≤ r.ts.length ∧ IJ x.2.1 x.2.2 ∧ Rem step ok x.2.1 (((r.ts.drop x.1).map fun t => ((0 : Nat), t)) ++ (((h.ords.drop (k + 1)).flatMap ordL) ++ (h.mats.flatMap matL ++ h.wants.flatMap wanL))) (goes step (some s0) (spokenL h))) (fun x => ⟨[(121, iv x.1), (120, iv (r.ts.map intR).length), (9, iv k), (100, iv k), (99, iv (h.ords.map ordR).length), (1, .v (.pointer (some ⟨b1, 0, none⟩))), (4, .v (.pointer (some ⟨bs, 0, none⟩))), (5, .fn (.func 157) [] [.v (.pointer (some ⟨bs, 0, none⟩))])], .box b1 149 [.v (.pointer (some ⟨bh, 0, none⟩))] :: .box bh 28 (histC h) :: .box bs 188 [.fn (.func 156) [] [.v (.pointer (some ⟨bm, 0, none⟩)), .v (.pointer (some ⟨by_, 0, none⟩))]] :: .box bm 4 [bv (x.2.1).isSome] :: .box by_ 187 [y] :: x.2.2, []⟩) (fun x => r.ts.length - x.1) (0, _, L) ⟨by omega, hI, hF⟩
        (ent_sub (.cons _ _ _ rfl (.cons _ _ _ rfl (.cons _ _ _ rfl (.cons _ _ _ rfl (.cons _ _ _ rfl (.cons _ _ _ rfl (.cons _ _ _ rfl (.cons _ _ _ rfl (.nil)))))))))) ?_
      rintro ⟨j, st, L⟩ ⟨hj, hI, hF⟩
      simp only at hj hI hF
      refine rn ?_
      refine aw_cond rfl (fun hc122 => ?_) (fun hc122 => ?_)
      · have j2 : j < r.ts.length := by simpa using hc122
        obtain ⟨t, ht⟩ : ∃ t, t = r.ts[j] := ⟨_, rfl⟩
        have hrowt : (r.ts.map intR)[j]? = some (intR t) := by rw [ht]; simp [j2]
        have hdt := List.drop_eq_getElem_cons j2
        rw [hdt, ← ht] at hF
        simp only [List.map_cons, List.cons_append] at hF
        obtain ⟨hx, hF⟩ := hF.cons
        refine rn ?_
        refine aw_draw 11 rfl ?_
        refine rn ?_
        refine aops_e rfl (oe_call rfl rfl (FCall.fr3 (FCall.of_acall (fs := []) (cs := [.v (.pointer (some ⟨bm, 0, none⟩)), .v (.pointer (some ⟨by_, 0, none⟩))]) (sayR step ok IJ y hy 0 t hx _ bm by_ _ _ hI))) rfl ?_)
        rintro _ _ ⟨_, rfl, L, hI, rfl⟩
        refine rn ?_
        exact ⟨(j + 1, _, L), ⟨by omega, hI, hF⟩, (ent_sub (.cons _ _ _ rfl (.cons _ _ _ rfl (.cons _ _ _ rfl (.cons _ _ _ rfl (.cons _ _ _ rfl (.cons _ _ _ rfl (.cons _ _ _ rfl (.cons _ _ _ rfl (.nil)))))))))), by simp only; omega⟩
      · obtain rfl : j = r.ts.length := by
          have : r.ts.length ≤ j := by simpa using hc122
          omega
        rw [List.drop_length, List.map_nil, List.nil_append] at hF
        refine rn ?_
        exact ⟨(k + 1, _, L), ⟨by omega, hI, hF⟩, (ent_sub (.cons _ _ _ rfl (.cons _ _ _ rfl (.cons _ _ _ rfl (.cons _ _ _ rfl (.cons _ _ _ rfl (.nil))))))), by simp only; omega⟩
    · obtain rfl : k = h.ords.length := by
        have : h.ords.length ≤ k := by simpa using hc101
        omega
      rw [List.drop_length, List.flatMap_nil, List.nil_append] at hF
      refine rn ?_
      refine aw_loop' (fun x : Nat × Option σ × List Res => x.1 ≤ h.mats.length ∧ IJ x.2.1 x.2.2 ∧ Rem step ok x.2.1 (((h.mats.drop x.1).flatMap matL) ++ h.wants.flatMap wanL) (goes step (some s0) (spokenL h))) (fun x => ⟨[(143, iv x.1), (142, iv (h.mats.map matR).length), (1, .v (.pointer (some ⟨b1, 0, none⟩))), (4, .v (.pointer (some ⟨bs, 0, none⟩))), (5, .fn (.func 157) [] [.v (.pointer (some ⟨bs, 0, none⟩))])], .box b1 149 [.v (.pointer (some ⟨bh, 0, none⟩))] :: .box bh 28 (histC h) :: .box bs 188 [.fn (.func 156) [] [.v (.pointer (some ⟨bm, 0, none⟩)), .v (.pointer (some ⟨by_, 0, none⟩))]] :: .box bm 4 [bv (x.2.1).isSome] :: .box by_ 187 [y] :: x.2.2, []⟩) (fun x => h.mats.length - x.1) (0, st, L) ⟨by omega, hI, hF⟩
        (ent_sub (.cons _ _ _ rfl (.cons _ _ _ rfl (.cons _ _ _ rfl (.cons _ _ _ rfl (.cons _ _ _ rfl (.nil))))))) ?_
      rintro ⟨k, st, L⟩ ⟨hk, hI, hF⟩
      simp only at hk hI hF
      refine rn ?_
      refine aw_cond rfl (fun hc144 => ?_) (fun hc144 => ?_)
      · have k2 : k < h.mats.length := by simpa using hc144
        obtain ⟨r, hr⟩ : ∃ r, r = h.mats[k] := ⟨_, rfl⟩
        have hrowr : (h.mats.map matR)[k]? = some (matR r) := by rw [hr]; simp [k2]
        have hdr := List.drop_eq_getElem_cons k2
        rw [hdr, ← hr] at hF
        simp only [List.flatMap_cons, matL, List.cons_append, List.append_assoc] at hF
        obtain ⟨hx, hF⟩ := hF.cons
        obtain ⟨hx2, hF⟩ := hF.cons
        have hle := la.mats
        have hls := la.matts r (by rw [hr]; simp)
        refine rn ?_
        refine aw_draw 4 rfl ?_
        refine rn ?_
        refine aops_e rfl (oe_call rfl rfl (FCall.fr3 (FCall.of_acall (fs := []) (cs := [.v (.pointer (some ⟨bm, 0, none⟩)), .v (.pointer (some ⟨by_, 0, none⟩))]) (sayR step ok IJ y hy 3 r.p hx _ bm by_ _ _ hI))) rfl ?_)
        rintro _ _ ⟨_, rfl, L, hI, rfl⟩
        refine rn ?_
        refine aw_draw 4 rfl ?_
        refine rn ?_
        refine aops_e rfl (oe_call rfl rfl (FCall.fr3 (FCall.of_acall (fs := []) (cs := [.v (.pointer (some ⟨bm, 0, none⟩)), .v (.pointer (some ⟨by_, 0, none⟩))]) (sayR step ok IJ y hy 2 r.o hx2 _ bm by_ _ _ hI))) rfl ?_)
        rintro _ _ ⟨_, rfl, L, hI, rfl⟩
        refine rn ?_
        refine aw_loop' (fun x : Nat × Option σ × List Res => x.1 ≤ r.ts.length ∧ IJ x.2.1 x.2.2 ∧ Rem step ok x.2.1 (((r.ts.drop x.1).map fun t => ((0 : Nat), t)) ++ (((h.mats.drop (k + 1)).flatMap matL) ++ h.wants.flatMap wanL)) (goes step (some s0) (spokenL h))) (fun x => ⟨[(167, iv x.1), (166, iv (r.ts.map intR).length), (12, .pp (matR r)), (143, iv k), (142, iv (h.mats.map matR).length), (1, .v (.pointer (some ⟨b1, 0, none⟩))), (4, .v (.pointer (some ⟨bs, 0, none⟩))), (5, .fn (.func 157) [] [.v (.pointer (some ⟨bs, 0, none⟩))])], .box b1 149 [.v (.pointer (some ⟨bh, 0, none⟩))] :: .box bh 28 (histC h) :: .box bs 188 [.fn (.func 156) [] [.v (.pointer (some ⟨bm, 0, none⟩)), .v (.pointer (some ⟨by_, 0, none⟩))]] :: .box bm 4 [bv (x.2.1).isSome] :: .box by_ 187 [y] :: x.2.2, []⟩) (fun x => r.ts.length - x.1) (0, _, L) ⟨by omega, hI, hF⟩
          (ent_sub (.cons _ _ _ rfl (.cons _ _ _ rfl (.cons _ _ _ rfl (.cons _ _ _ rfl (.cons _ _ _ rfl (.cons _ _ _ rfl (.cons _ _ _ rfl (.cons _ _ _ rfl (.nil)))))))))) ?_
        rintro ⟨j, st, L⟩ ⟨hj, hI, hF⟩
        simp only at hj hI hF
        refine rn ?_
        refine aw_cond rfl (fun hc168 => ?_) (fun hc168 => ?_)
        · have j2 : j < r.ts.length := by simpa using hc168
          obtain ⟨t, ht⟩ : ∃ t, t = r.ts[j] := ⟨_, rfl⟩
          have hrowt : (r.ts.map intR)[j]? = some (intR t) := by rw [ht]; simp [j2]
          have hdt := List.drop_eq_getElem_cons j2
          rw [hdt, ← ht] at hF
          simp only [List.map_cons, List.cons_append] at hF
          obtain ⟨hx, hF⟩ := hF.cons
          refine rn ?_
          refine aw_draw 7 rfl ?_
          refine rn ?_
          refine aops_e rfl (oe_call rfl rfl (FCall.fr3 (FCall.of_acall (fs := []) (cs := [.v (.pointer (some ⟨bm, 0, none⟩)), .v (.pointer (some ⟨by_, 0, none⟩))]) (sayR step ok IJ y hy 0 t hx _ bm by_ _ _ hI))) rfl ?_)
          rintro _ _ ⟨_, rfl, L, hI, rfl⟩
          refine rn ?_
          exact ⟨(j + 1, _, L), ⟨by omega, hI, hF⟩, (ent_sub (.cons _ _ _ rfl (.cons _ _ _ rfl (.cons _ _ _ rfl (.cons _ _ _ rfl (.cons _ _ _ rfl (.cons _ _ _ rfl (.cons _ _ _ rfl (.cons _ _ _ rfl (.nil)))))))))), by simp only; omega⟩
        · obtain rfl : j = r.ts.length := by
            have : r.ts.length ≤ j := by simpa using hc168
            omega
          rw [List.drop_length, List.map_nil, List.nil_append] at hF
          refine rn ?_
          exact ⟨(k + 1, _, L), ⟨by omega, hI, hF⟩, (ent_sub (.cons _ _ _ rfl (.cons _ _ _ rfl (.cons _ _ _ rfl (.cons _ _ _ rfl (.cons _ _ _ rfl (.nil))))))), by simp only; omega⟩
      · obtain rfl : k = h.mats.length := by
          have : h.mats.length ≤ k := by simpa using hc144
          omega
        rw [List.drop_length, List.flatMap_nil, List.nil_append] at hF
        refine rn ?_
        refine aw_loop' (fun x : Nat × Option σ × List Res => x.1 ≤ h.wants.length ∧ IJ x.2.1 x.2.2 ∧ Rem step ok x.2.1 (((h.wants.drop x.1).flatMap wanL) ++ []) (goes step (some s0) (spokenL h))) (fun x => ⟨[(185, iv x.1), (184, iv (h.wants.map wanR).length), (1, .v (.pointer (some ⟨b1, 0, none⟩))), (4, .v (.pointer (some ⟨bs, 0, none⟩))), (5, .fn (.func 157) [] [.v (.pointer (some ⟨bs, 0, none⟩))])], .box b1 149 [.v (.pointer (some ⟨bh, 0, none⟩))] :: .box bh 28 (histC h) :: .box bs 188 [.fn (.func 156) [] [.v (.pointer (some ⟨bm, 0, none⟩)), .v (.pointer (some ⟨by_, 0, none⟩))]] :: .box bm 4 [bv (x.2.1).isSome] :: .box by_ 187 [y] :: x.2.2, []⟩) (fun x => h.wants.length - x.1) (0, st, L) ⟨by omega, hI, by rw [List.append_nil]; exact hF⟩
          (ent_sub (.cons _ _ _ rfl (.cons _ _ _ rfl (.cons _ _ _ rfl (.cons _ _ _ rfl (.cons _ _ _ rfl (.nil))))))) ?_
        rintro ⟨k, st, L⟩ ⟨hk, hI, hF⟩
        simp only at hk hI hF
        refine rn ?_
        refine aw_cond rfl (fun hc186 => ?_) (fun hc186 => ?_)
        · have k2 : k < h.wants.length := by simpa using hc186
          obtain ⟨r, hr⟩ : ∃ r, r = h.wants[k] := ⟨_, rfl⟩
          have hrowr : (h.wants.map wanR)[k]? = some (wanR r) := by rw [hr]; simp [k2]
          have hdr := List.drop_eq_getElem_cons k2
          rw [hdr, ← hr] at hF
          simp only [List.flatMap_cons, wanL, List.cons_append, List.append_assoc, List.nil_append] at hF
          obtain ⟨hx, hF⟩ := hF.cons
          have hle := la.wants
          refine rn ?_
          refine aw_draw 8 rfl ?_
          refine rn ?_
          refine aops_e rfl (oe_call rfl rfl (FCall.fr3 (FCall.of_acall (fs := []) (cs := [.v (.pointer (some ⟨bm, 0, none⟩)), .v (.pointer (some ⟨by_, 0, none⟩))]) (sayR step ok IJ y hy 1 r.s hx _ bm by_ _ _ hI))) rfl ?_)
          rintro _ _ ⟨_, rfl, L, hI, rfl⟩
          refine rn ?_
          exact ⟨(k + 1, _, L), ⟨by omega, hI, hF⟩, (ent_sub (.cons _ _ _ rfl (.cons _ _ _ rfl (.cons _ _ _ rfl (.cons _ _ _ rfl (.cons _ _ _ rfl (.nil))))))), by simp only; omega⟩
        · obtain rfl : k = h.wants.length := by
            have : h.wants.length ≤ k := by simpa using hc186
            omega
          rw [List.drop_length, List.flatMap_nil, List.nil_append] at hF
          refine rn ?_
          have hF' : st = goes step (some s0) (spokenL h) := hF.fin
          exact retq_n .nil (.trans (.perm ((pt2 _ _ _ _).trans (.cons _ ((pt2 _ _ _ _).trans (.cons _ (pt2 _ _ _ _))))) _) (.drop [_, _, _] _ _)) ⟨L, hF' ▸ hI, rfl⟩
theorem spoken (bh : Nat) (h : List Res) : ACall Tryz.prog 107 [.v (.pointer (some ⟨bh, 0, none⟩))] h (fun r h' => ∃ b1, h' = .box b1 149 [.v (.pointer (some ⟨bh, 0, none⟩))] :: h ∧ r = .fn (.func 155) [] [.v (.pointer (some ⟨b1, 0, none⟩))]) := by
  refine acall_of_aw Tryz.func107 rfl rfl rfl ?_
  refine rn ?_
  refine aops_e rfl (oe_box rfl rfl rfl fun b1 => ?_)
  refine rn ?_
  exact retq (.cons _ _ _ _ (.tmp _ _ rfl) .nil) (.refl _ _) ⟨_, rfl, rfl⟩
end Go.Proofs
/- The walk of history.Check. Conditions: none. -/
set_option linter.unusedVariables false
set_option linter.unusedSimpArgs false
set_option maxRecDepth 10000
namespace Go.Proofs
open Go Go.Ab
attribute [local irreducible] QR QV OE aops aw dsoup dsoupM dalloc dallocM thn inBlk
open Go.H
def IJC (lp : LP) (q b2 b3 : Nat) : Option (List Int) → List Res → Prop
  | some m, L => L = lp .ready none :: .defs q :: .box b3 112 ((m).map iv) :: .box b2 33 [iv 0] :: [.glob 1 112 limitsC, .glob 2 234 firstC, .glob 3 237 acceptC] ∧ m.length = 4
  | none, L => ∃ m : List Int, L = lp .done (some .ret) :: .defs q :: .box b3 112 ((m).map iv) :: .box b2 33 [iv 210] :: [.glob 1 112 limitsC, .glob 2 234 firstC, .glob 3 237 acceptC]
theorem check (h : Hist) (la : Lim 4611686018427387904 h) : ACall Tryz.prog 49 [.agg (histC h)] [.glob 1 112 limitsC, .glob 2 234 firstC, .glob 3 237 acceptC] (fun r h' => h' = [.glob 1 112 limitsC, .glob 2 234 firstC, .glob 3 237 acceptC] ∧ r = iv (checkE h)) := by
  refine acall_of_aw Tryz.func49 rfl rfl rfl ?_
  refine rn ?_
  refine aops_e rfl (oe_box rfl rfl rfl fun b1 => ?_)
  refine aops_e rfl (oe_alloc rfl fun b2 => ?_)
  refine rn ?_
  refine qv rfl rfl (qv_call rfl rfl (FCall.qt (FCall.of_fun (shaped h la)) ((pt2 _ _ _ _).trans (.cons _ ((pt2 _ _ _ _).trans (.cons _ (pt2 _ _ _ _))))))) ?_
  refine rn ?_
  refine aw_cond rfl (fun hc10 => ?_) (fun hc10 => ?_)
  · have hs : shapedB h = false := not_t hc10
    refine rn ?_
    exact retq (.cons _ _ _ _ (.one _ _ _ _ _ _ _ rfl inferInstance inferInstance rfl) .nil) (.drop [_, _] _ _) ⟨rfl, congrArg iv (check_no hs).symm⟩
  · have hs : shapedB h = true := not_f hc10
    refine rn ?_
    refine aops_e rfl (oe_alloc rfl fun b3 => ?_)
    refine rn ?_
    refine aops_e rfl (oe_call rfl rfl (FCall.of_fun (spoken b1 _)) rfl ?_)
    rintro _ _ ⟨b1', rfl, rfl⟩
    refine rn ?_
    refine aw_rf (fun pend h'' => (pend = none ∧ ∃ m : List Int, manyL h = some m ∧ m.length = 4 ∧ h'' = .box b1' 149 [.v (.pointer (some ⟨b1, 0, none⟩))] :: .box b1 28 (histC h) :: .box b3 112 ((m).map iv) :: .box b2 33 [iv 0] :: [.glob 1 112 limitsC, .glob 2 234 firstC, .glob 3 237 acceptC]) ∨ (pend = some .ret ∧ manyL h = none ∧ ∃ m : List Int, h'' = .box b1' 149 [.v (.pointer (some ⟨b1, 0, none⟩))] :: .box b1 28 (histC h) :: .box b3 112 ((m).map iv) :: .box b2 33 [iv 210] :: [.glob 1 112 limitsC, .glob 2 234 firstC, .glob 3 237 acceptC])) rfl (fun fn l q lp hlp => ?_) (fun q h'' hK => ?_) (fun q h'' c hK => ?_)
    · suffices hy : ∀ (s : List Int) (L : List Res) (sort : Nat) (n : Int) (cells : List AV), OkN h (sort, n) → IJC lp q b2 b3 (some s) L → FCall Tryz.prog (yv l) [iv sort, .pp (iv n :: cells)] L (fun r h' => r = bv (manyStep s (sort, n)).isSome ∧ IJC lp q b2 b3 (manyStep s (sort, n)) h') by
        refine ACall.mono (ACall.perm ((pt2 _ _ _ _).trans (.cons _ (pt4 _ _ _ _ _ _))) (spokenR manyStep (OkN h) (IJC lp q b2 b3) (yv l) rfl hy h la b1' b1 (shaped_ok hs) [0, 0, 0, 0] _ ⟨rfl, rfl⟩)) ?_
        rintro _ _ ⟨L', hI, rfl⟩
        cases hm : goes manyStep (some [0, 0, 0, 0]) (spokenL h) with
        | some m =>
          rw [hm] at hI
          obtain ⟨rfl, hl⟩ := hI
          exact ⟨_, _, _, ((pt2 _ _ _ _).trans (.cons _ (pt2 _ _ _ _))), by simp, .inl ⟨rfl, m, hm, hl, rfl⟩⟩
        | none =>
          rw [hm] at hI
          obtain ⟨m, rfl⟩ := hI
          exact ⟨_, _, _, ((pt2 _ _ _ _).trans (.cons _ (pt2 _ _ _ _))), by simp, .inr ⟨rfl, hm, m, rfl⟩⟩
      rintro m _ sort n cells ⟨hs4, hn0, hn1⟩ ⟨rfl, hl⟩
      simp only at hs4 hn0 hn1
      have hnm := la.nm sort
      refine fcall_yl hlp rfl rfl ?_
      refine rn ?_
      refine ⟨[(4, iv sort), (5, .pp (iv n :: cells)), (3, .v (.pointer (some ⟨b3, 0, none⟩))), (2, .v (.pointer (some ⟨b2, 0, none⟩)))], (ent_sub (.cons _ _ _ rfl (.cons _ _ _ rfl (.cons _ _ _ rfl (.cons _ _ _ rfl (.nil)))))), ?_⟩
      refine rn ?_
      refine aw_draw 6 rfl ?_
      refine dq rfl rfl qrA ?_
      refine dq rfl rfl qrA ?_
      refine dq rfl rfl qrA ?_
      refine dq rfl rfl qrA ?_
      refine dq rfl rfl (qr_indexAddr_arr rfl rfl hs4) ?_
      refine dq rfl rfl (qr_load_one rfl (get4 hl hs4)) ?_
      refine rn ?_
      refine aw_cond rfl (fun hc20 => ?_) (fun hc20 => ?_)
      · refine rn ?_
        have hst : manyStep m (sort, n) = none := by rw [manyStep]; exact if_pos (by simpa using hc20)
        exact round_r (.refl _) (by rw [hst]; exact ⟨rfl, _, rfl⟩)
      · refine rn ?_
        refine aw_draw 9 rfl ?_
        refine dq rfl rfl qrA ?_
        refine dq rfl rfl qrA ?_
        refine dq rfl rfl (qr_indexAddr_arr rfl rfl hs4) ?_
        refine dq rfl rfl (qr_load_one rfl (get4 hl hs4)) ?_
        refine rn2 ?_
        refine qq rfl rfl (qr_indexAddr_arr rfl rfl hs4) ?_
        refine aops_e rfl (oe_store rfl rfl rfl rfl (by simp [hl]; omega) ?_)
        refine rn ?_
        have hst : manyStep m (sort, n) = some (m.set sort (max (m.getD sort 0) (n + 1))) := by rw [manyStep]; exact if_neg (by simpa using hc20)
        exact round_n (.refl _) (by rw [hst]; exact ⟨rfl, by rw [← set4 hl hs4]; rfl, by simpa using hl⟩)
    · obtain ⟨_, m, hm, hl, rfl⟩ | ⟨hc, _⟩ := hK
      rotate_left
      · cases hc
      refine rn ?_
      refine qv rfl rfl (qv_call rfl rfl (pcall (names _) (Sbs.refl _))) ?_
      refine rn ?_
      refine aw_loop' (fun k : Nat => k ≤ 4 ∧ ∀ j, j < k → m.getD j 0 = (nmK h j).length) (fun k => ⟨[(33, iv k), (32, .agg (namesC h)), (3, .v (.pointer (some ⟨b3, 0, none⟩))), (2, .v (.pointer (some ⟨b2, 0, none⟩)))], .defs q :: .box b1' 149 [.v (.pointer (some ⟨b1, 0, none⟩))] :: .box b1 28 (histC h) :: .box b3 112 ((m).map iv) :: .box b2 33 [iv 0] :: [.glob 1 112 limitsC, .glob 2 234 firstC, .glob 3 237 acceptC], [q]⟩) (fun k => 4 - k) 0 ⟨by omega, fun j hj => absurd hj (Nat.not_lt_zero j)⟩
        (ent_sub (.cons _ _ _ rfl (.cons _ _ _ rfl (.cons _ _ _ rfl (.cons _ _ _ rfl (.nil)))))) ?_
      rintro k ⟨hk, hz⟩
      refine rn ?_
      refine aw_cond rfl (fun hc34 => ?_) (fun hc34 => ?_)
      · have hk4 : k < 4 := by simp at hc34; omega
        refine aw_skip ?_
        refine thn_n ?_
        refine aw_seq ?_
        refine aw_block ?_
        refine aw_seq (aw_region ?_)
        refine q1 ?_
        refine qq rfl rfl (qr_index_arr_one rfl rfl (by omega) (by have := nmK_get h hk4; simpa using this)) ?_
        refine q1 ?_
        refine q1 ?_
        refine aops_nil (thn_n ?_)
        refine aw_seq (aw_region ?_)
        refine q1 ?_
        refine qq rfl rfl (qr_indexAddr_arr rfl rfl hk4) ?_
        refine qq rfl rfl (qr_load_one rfl (get4 hl hk4)) ?_
        refine rn ?_
        refine aw_cond rfl (fun hc42 => ?_) (fun hc42 => ?_)
        · refine rn ?_
          exact retqd (.refl _) (.cons _ _ _ _ (.one _ _ _ _ _ _ _ rfl inferInstance inferInstance rfl) .nil) (.drop [_, _, _, _] _ _) ⟨rfl, congrArg iv (check_ne hm hk4 (by simpa using hc42)).symm⟩
        · refine rn ?_
          exact ⟨k + 1, ⟨by omega, fun j hj => by
            by_cases hjk : j = k
            · subst hjk; simpa using hc42
            · exact hz j (by omega)⟩, (ent_sub (.cons _ _ _ rfl (.cons _ _ _ rfl (.cons _ _ _ rfl (.cons _ _ _ rfl (.nil)))))), by omega⟩
      · have hk4 : k = 4 := by simp at hc34; omega
        subst hk4
        refine rn ?_
        exact retqd (.refl _) (.cons _ _ _ _ (.one _ _ _ _ _ _ _ rfl inferInstance inferInstance rfl) .nil) (.drop [_, _, _, _] _ _) ⟨rfl, congrArg iv (check_eq hs hm hl hz).symm⟩
    · obtain ⟨hc, _⟩ | ⟨hc, hm, m, rfl⟩ := hK
      · cases hc
      obtain rfl : c = .ret := by simpa using hc
      refine rn ?_
      exact retqd (.refl _) (.cons _ _ _ _ (.one _ _ _ _ _ _ _ rfl inferInstance inferInstance rfl) .nil) (.drop [_, _, _, _] _ _) ⟨rfl, congrArg iv (check_none hm).symm⟩
end Go.Proofs
/- The walks of rules.First, Place, Sound, Writers. Conditions: none. -/
set_option linter.unusedVariables false
set_option linter.unusedSimpArgs false
set_option maxRecDepth 10000
namespace Go.Proofs
open Go Go.Ab
attribute [local irreducible] QR QV OE aops aw dsoup dsoupM dalloc dallocM thn inBlk jsoup jch lsoup
open Go.H
/-- What the rules ask: the functions, as they are laid. -/
def asksC : List AV := [.any, .fn (.func 236) [] [], .fn (.func 238) [] [], .fn (.func 239) [] [], .fn (.func 240) [] [], .fn (.func 241) [] [], .fn (.func 242) [] [], .fn (.func 243) [] [], .fn (.func 244) [] [], .fn (.func 245) [] [], .fn (.func 246) [] []]
def askF (k : Nat) : AV := asksC.getD k .any
theorem ask_get {k : Nat} (h2 : k ≤ 10) : asksC[k]? = some (askF k) := by
  have : k < asksC.length := by show k < 11; omega
  rw [askF, List.getD_eq_getElem?_getD, List.getElem?_eq_getElem this]; rfl
theorem ask_call (h : Hist) (la : Lim 3000 h) (b : Nat) (G : List Res) {k : Nat} (h1 : 1 ≤ k) (h2 : k ≤ 10) : FCall Tryz.prog (askF k) [.v (.pointer (some ⟨b, 0, none⟩))] (.box b 109 (lookN h) :: G) (fun r h' => h' = G ∧ r = placeV (placeP h k)) := by
  match k, h1, h2 with
  | 1, _, _ => exact FCall.of_acall (fs := []) (cs := []) (rBegin h la b G)
  | 2, _, _ => exact FCall.of_acall (fs := []) (cs := []) (rEnd h la b G)
  | 3, _, _ => exact FCall.of_acall (fs := []) (cs := []) (rCount h la b G)
  | 4, _, _ => exact FCall.of_acall (fs := []) (cs := []) (rWritten h la b G)
  | 5, _, _ => exact FCall.of_acall (fs := []) (cs := []) (rOwn h la b G)
  | 6, _, _ => exact FCall.of_acall (fs := []) (cs := []) (rScan h la b G)
  | 7, _, _ => exact FCall.of_acall (fs := []) (cs := []) (rOrder h la b G)
  | 8, _, _ => exact FCall.of_acall (fs := []) (cs := []) (rMissing h la b G)
  | 9, _, _ => exact FCall.of_acall (fs := []) (cs := []) (rMatch h la b G)
  | 10, _, _ => exact FCall.of_acall (fs := []) (cs := []) (rWant h la b G)
  | k + 11, _, h2 => omega
theorem place_t {o : Option Nat} {i : Int} {b : Bool} (h : placeV o = .tup [iv i, bv b]) : i = natI o ∧ b = o.isSome := by
  cases o with
  | none => simp only [placeV, AV.tup.injEq, List.cons.injEq, AV.v.injEq, Value.int.injEq, Value.bool.injEq, true_and, and_true] at h; exact ⟨h.1.symm, h.2.symm⟩
  | some n => simp only [placeV, AV.tup.injEq, List.cons.injEq, AV.v.injEq, Value.int.injEq, Value.bool.injEq, true_and, and_true] at h; exact ⟨h.1.symm, h.2.symm⟩
theorem may3000 {h : Hist} (hm : mayB h = true) : Lim 3000 h := by
  unfold mayB at hm; simp only [Bool.and_eq_true] at hm; exact shaped_lim hm.1
theorem rFirst (h : Hist) (la : Lim 4611686018427387904 h) : ACall Tryz.prog 16 [.agg (histC h)] [.glob 1 112 limitsC, .glob 2 234 firstC, .glob 3 237 acceptC, .glob 0 102 asksC] (fun r h' => h' = [.glob 1 112 limitsC, .glob 2 234 firstC, .glob 3 237 acceptC, .glob 0 102 asksC] ∧ r = firstAns h) := by
  refine acall_of_aw Tryz.func16 rfl rfl rfl ?_
  refine rn ?_
  refine aops_e rfl (oe_box rfl rfl rfl fun b1 => ?_)
  refine aops_e rfl (oe_alloc rfl fun b2 => ?_)
  refine rn ?_
  refine qv rfl rfl (qv_call rfl rfl (FCall.qt (FCall.of_fun (check h la)) ((pt2 _ _ _ _).trans (.cons _ ((pt2 _ _ _ _).trans (.cons _ (pt2 _ _ _ _))))))) ?_
  refine rn ?_
  refine aw_cond rfl (fun hc12 => ?_) (fun hc12 => ?_)
  · have hm : ¬ mayB h = true := by intro q; rw [checkE, if_pos q] at hc12; cases hc12
    have he : checkE h = 210 := by rw [checkE, if_neg hm]
    refine rn ?_
    exact retq (.cons _ _ _ _ (.agg _ _ _ _ _ _ _ rfl inferInstance inferInstance inferInstance rfl) (.cons _ _ _ _ (.tmp _ _ rfl) (.cons _ _ _ _ (.tmp _ _ rfl) .nil))) (.drop [_, _] _ _) ⟨rfl, by rw [firstAns, if_neg hm, he]; rfl⟩
  · have hm : mayB h = true := check_0.1 (by simpa using hc12)
    have la3 := may3000 hm
    refine rn ?_
    refine aw_while (fun k : Nat => (1 ≤ k ∧ k ≤ 11) ∧ firstIn (placeP h) rules10 = firstIn (placeP h) (rules10.drop (k - 1))) (fun k => ⟨[(6, iv k), (1, .v (.pointer (some ⟨b1, 0, none⟩))), (2, .v (.pointer (some ⟨b2, 0, none⟩)))], (.box b2 32 [iv 0, iv 0] :: .box b1 28 (histC h) :: .glob 1 112 limitsC :: .glob 2 234 firstC :: .glob 3 237 acceptC :: .glob 0 102 asksC :: []), []⟩) (fun k => 11 - k) 1 ⟨by omega, rfl⟩ es ?_
    rintro k ⟨⟨k1, k3⟩, zk⟩
    obtain ⟨pi, pb, hpv⟩ : ∃ i b, placeV (placeP h k) = .tup [iv i, bv b] := place_ib _
    obtain ⟨ei, eb⟩ := place_t hpv
    refine rn ?_
    refine aw_cond rfl (fun hc16 => ?_) (fun hc16 => ?_)
    · have k2 : k ≤ 10 := by have := of_decide_eq_true hc16; omega
      refine aw_skip ?_
      refine rn0 ?_
      refine aw_seq ?_
      refine aw_block ?_
      refine aw_seq ?_
      refine aw_drawX 11 [5, 6] [7, 8, 9, 10] (fun he => he = (.box b2 32 [iv 0, iv 0] :: .box b1 28 (histC h) :: .glob 1 112 limitsC :: .glob 2 234 firstC :: .glob 3 237 acceptC :: .glob 0 102 asksC :: []) ∨ ∃ b, he = .box b 109 (lookN h) :: (.box b2 32 [iv 0, iv 0] :: .box b1 28 (histC h) :: .glob 1 112 limitsC :: .glob 2 234 firstC :: .glob 3 237 acceptC :: .glob 0 102 asksC :: [])) rfl rfl (.inl rfl) ?_
      refine jq rfl (fun he hC => by rcases hC with rfl | ⟨b, rfl⟩ <;> exact qrA) ?_
      refine jq rfl (fun he hC => by rcases hC with rfl | ⟨b, rfl⟩ <;> exact (by exact qr_indexAddr_arr rfl rfl (by show k < 11; omega))) ?_
      refine jq rfl (fun he hC => by rcases hC with rfl | ⟨b, rfl⟩ <;> exact (by exact qr_load_one rfl (show asksC[0 + k * 1]? = some (askF k) by rw [Nat.zero_add, Nat.mul_one]; exact ask_get k2))) ?_
      refine jq rfl (fun he hC => by rcases hC with rfl | ⟨b, rfl⟩ <;> exact qrA) ?_
      refine jq rfl (fun he hC => by rcases hC with rfl | ⟨b, rfl⟩ <;> exact (by exact qr_build (out := lookN h) rfl (by rfl))) ?_
      refine je rfl ?_
      refine je rfl ?_
      refine je rfl ?_
      refine je rfl ?_
      refine je rfl ?_
      refine je rfl ?_
      refine jnil ?_
      refine jce rfl fun u => ?_
      refine oe_box rfl rfl rfl fun b5 => ⟨_, _, rfl, .inr ⟨_, rfl⟩, ?_⟩
      refine jce rfl fun u => ?_
      refine oe_call rfl rfl (ask_call h la3 b5 _ k1 k2) rfl ?_
      rintro _ _ ⟨rfl, rfl⟩
      rw [hpv]
      refine ⟨_, _, rfl, .inl rfl, ?_⟩
      refine jcn ?_
      refine lq rfl rfl (by exact qrA) ?_
      refine lq rfl rfl (by exact qrA) ?_
      refine lq rfl rfl (by exact qrA) ?_
      refine lq rfl rfl (by exact qrA) ?_
      refine ln ?_
      refine rn ?_
      refine aw_cond rfl (fun hc29 => ?_) (fun hc29 => ?_)
      · refine rn ?_
        exact retq (.cons _ _ _ _ (.agg _ _ _ _ _ _ _ rfl inferInstance inferInstance inferInstance rfl) (.cons _ _ _ _ (.tmp _ _ rfl) (.cons _ _ _ _ (.tmp _ _ rfl) .nil))) (.drop [_, _] _ _) ⟨rfl, by
          cases hp : placeP h k with
          | none => rw [hp] at eb; rw [eb] at hc29; cases hc29
          | some n => rw [hp] at ei; subst ei; rw [firstAns, if_pos hm, firstH, first_hit k1 k2 zk hp]; rfl⟩
      · refine rn ?_
        exact ⟨k + 1, ⟨by omega, first_step k1 k2 zk (by cases hp : placeP h k with | none => rfl | some n => rw [hp] at eb; rw [eb] at hc29; cases hc29)⟩, eA, by omega⟩
    · have k2 : 11 ≤ k := by have := of_decide_eq_false hc16; omega
      refine rn ?_
      exact retq (.cons _ _ _ _ (.agg _ _ _ _ _ _ _ rfl inferInstance inferInstance inferInstance rfl) (.cons _ _ _ _ (.tmp _ _ rfl) (.cons _ _ _ _ (.tmp _ _ rfl) .nil))) (.drop [_, _] _ _) ⟨rfl, by rw [firstAns, if_pos hm, firstH, first_over k2 k3 zk]; rfl⟩
theorem rSound (h : Hist) (la : Lim 4611686018427387904 h) : ACall Tryz.prog 17 [.agg (histC h)] [.glob 1 112 limitsC, .glob 2 234 firstC, .glob 3 237 acceptC, .glob 0 102 asksC] (fun r h' => h' = [.glob 1 112 limitsC, .glob 2 234 firstC, .glob 3 237 acceptC, .glob 0 102 asksC] ∧ r = bv (soundB h)) := by
  refine acall_of_aw Tryz.func17 rfl rfl rfl ?_
  refine rn ?_
  refine aops_e rfl (oe_box rfl rfl rfl fun b1 => ?_)
  refine q1 ?_
  refine aops_nil (thn_n ?_)
  refine aw_seq (aw_region ?_)
  obtain ⟨fi, fj, fb, fe, hf, hfb⟩ := firstAns_tup h
  refine rn ?_
  refine qv rfl rfl (qv_call rfl rfl (FCall.qt (FCall.of_fun (rFirst h la)) ((pt1 _ _ _).trans (.cons _ ((pt1 _ _ _).trans (.cons _ ((pt1 _ _ _).trans (.cons _ (pt1 _ _ _))))))))) ?_
  rw [hf]
  refine rn ?_
  refine aops_e rfl (oe_alloc rfl fun b3 => ?_)
  refine rn ?_
  refine asplit (fun hg2_2 => ?_) (fun hg2_2 => ?_)
  · refine rn ?_
    refine rq 2 ?_
    exact ⟨rfl, congrArg bv (by rw [hfb]; simp_all)⟩
  · refine rn ?_
    refine rq 2 ?_
    exact ⟨rfl, congrArg bv (by rw [hfb]; simp_all)⟩
end Go.Proofs
/- The listed table of functions, as the walk looks at it. Conditions: none. -/
set_option linter.unusedVariables false
set_option maxRecDepth 100000
namespace Go.Proofs.YtdbfjfphfbcgiaaGreatDoor
open Go Go.Ab Go.H
def asksD : DataW Unit := match (Rows.laid_yardarm_rules_asks : DataW Unit) with | .iface _ d => d | d => d
def namesA : List (List UInt8) := match asksD with | .agg ds => ds.map (fun d => match d with | .iface _ (.lit (.string b)) => b | _ => []) | _ => []
def nm (k : Nat) : List UInt8 := namesA.getD (k + 1) []
theorem asksD_out : asksD.funcsOut = .agg (.nil :: (namesA.drop 1).map .held) := by kernel_rfl
theorem glob_any {w : World} {c : Array Value} {T0 : TypeId} {fr : Nat × Nat} {g : Nat} {T : TypeId} {vs : List AV} (hh : w.heap[g]? = some (.cells c T0 fr)) (hl : vs.length = c.size) (h : ∀ j (h1 : j < vs.length) (h2 : j < c.size), Rel w noX vs[j] c[j]) : (Res.glob g T vs).holds w noX :=
  ⟨fun h => h, (Array.getElem?_eq_some_iff.1 hh).1, c, T0, fr, hh, hl, fun j h1 h2 => h j h1 h2⟩
theorem fn_rel (w : World) (f : Nat) : Rel w noX (.fn (.func f) [] []) (.func (.func f) #[] #[]) := .fn _ _ _ _ _ rfl rfl (fun j h => absurd h (Nat.not_lt_zero _)) (fun j h => absurd h (Nat.not_lt_zero _))
def fnA : List Nat := [236, 238, 239, 240, 241, 242, 243, 244, 245, 246]
theorem asks_one (k : Nat) (hk : k < 10) : ∃ b r, namesA[k + 1]? = some (b :: r) ∧ ((List.range Tryz.prog.funcs.size).filter fun f => (Tryz.prog.funcs[f]?).any (·.name.toUTF8.data.toList == b :: r)) = [fnA.getD k 0] ∧ asksC[k + 1]? = some (.fn (.func (fnA.getD k 0)) [] []) := by
  match k, hk with
  | 0, _ => exact ⟨(nm 0).headD 0, (nm 0).tail, by kernel_rfl, by kernel_rfl, by kernel_rfl⟩
  | 1, _ => exact ⟨(nm 1).headD 0, (nm 1).tail, by kernel_rfl, by kernel_rfl, by kernel_rfl⟩
  | 2, _ => exact ⟨(nm 2).headD 0, (nm 2).tail, by kernel_rfl, by kernel_rfl, by kernel_rfl⟩
  | 3, _ => exact ⟨(nm 3).headD 0, (nm 3).tail, by kernel_rfl, by kernel_rfl, by kernel_rfl⟩
  | 4, _ => exact ⟨(nm 4).headD 0, (nm 4).tail, by kernel_rfl, by kernel_rfl, by kernel_rfl⟩
  | 5, _ => exact ⟨(nm 5).headD 0, (nm 5).tail, by kernel_rfl, by kernel_rfl, by kernel_rfl⟩
  | 6, _ => exact ⟨(nm 6).headD 0, (nm 6).tail, by kernel_rfl, by kernel_rfl, by kernel_rfl⟩
  | 7, _ => exact ⟨(nm 7).headD 0, (nm 7).tail, by kernel_rfl, by kernel_rfl, by kernel_rfl⟩
  | 8, _ => exact ⟨(nm 8).headD 0, (nm 8).tail, by kernel_rfl, by kernel_rfl, by kernel_rfl⟩
  | 9, _ => exact ⟨(nm 9).headD 0, (nm 9).tail, by kernel_rfl, by kernel_rfl, by kernel_rfl⟩
theorem glob3 {w : World} (h : laidMetH Tryz.prog laid4 w) : (Res.glob 0 102 asksC).holds w noX := by
  obtain ⟨g, t, cs, fuel, p, hg, ht, hv, hd⟩ := h.funcs (n := "yardarm/rules.asks") (d := asksD) (.tail _ (.tail _ (.head _)))
  obtain rfl := Option.some.inj ((show Tryz.prog.globalNamed "yardarm/rules.asks" = some 0 by kernel_rfl).symm.trans hg)
  obtain rfl := Option.some.inj ((show (Tryz.prog.globals[0]?).map (·.type) = some 102 by kernel_rfl).symm.trans ht)
  rw [asksD_out] at hd
  have c1 : Tryz.prog.cellsOf 101 = 1 := by kernel_rfl
  have c11 : Tryz.prog.cellsOf 102 = 11 := by kernel_rfl
  have hlen : cs.toList.length = 11 := by
    obtain ⟨_, _, _, _, hl, _⟩ := DataW.trod_array Tryz.underlying102 hd
    rw [hl, c11]
  unfold World.var? at hv
  rw [hg] at hv
  simp only [Option.bind_some] at hv
  split at hv
  · rename_i c T0 fr hh
    cases hv
    refine glob_any hh (by rw [show asksC.length = 11 from rfl]; simpa using hlen.symm) fun j h1 h2 => ?_
    cases j with
    | zero => exact .any _
    | succ k =>
      have hk : k < 10 := by have : asksC.length = 11 := rfl; omega
      obtain ⟨b, r, hn, hone, ha⟩ := asks_one k hk
      obtain ⟨f', d, q, e1, e2⟩ := Lib.array_elem Tryz.underlying102 hd (k + 1) (by omega)
      have e1' : d = .held (b :: r) := by
        rw [List.getElem?_cons_succ, List.getElem?_map, List.getElem?_drop, Nat.add_comm 1 k, hn] at e1
        exact (Option.some.inj e1).symm
      subst e1'
      rw [c1, Nat.mul_one, List.drop_eq_getElem_cons (by simpa using h2), List.take_succ_cons, List.take_zero] at e2
      have := func_of_trod (f0 := fnA.getD k 0) Tryz.underlying101 hone e2
      rw [Array.getElem_toList] at this
      rw [this, show asksC[k + 1] = .fn (.func (fnA.getD k 0)) [] [] from Option.some.inj ((List.getElem?_eq_getElem h1).symm.trans ha)]
      exact fn_rel _ _
  · cases hv
theorem laid_hrel4 {W : World} (h : laidMetH Tryz.prog laid4 W) : HRel noX W [.glob 1 112 limitsC, .glob 2 234 firstC, .glob 3 237 acceptC, .glob 0 102 asksC] := by
  obtain ⟨a, b, c, d⟩ := laid_hrel h
  have hO : OO [.glob 1 112 limitsC, .glob 2 234 firstC, .glob 3 237 acceptC] noX = noX := OO_G3
  have hO' : OO [.glob 1 112 limitsC, .glob 2 234 firstC, .glob 3 237 acceptC, .glob 0 102 asksC] noX = noX := by funext b; simp [OO, owns, noX, Res.own]
  refine ⟨by simp [owns, Res.own], fun b hb => by simp [owns, Res.own] at hb, fun b hb => hb.elim, fun r hr => ?_⟩
  rw [hO']
  rw [hO] at d
  simp only [List.mem_cons, List.not_mem_nil, or_false] at hr
  rcases hr with rfl | rfl | rfl | rfl
  · exact d _ (by simp)
  · exact d _ (by simp)
  · exact d _ (by simp)
  · exact glob3 h
theorem OO_G4 : OO [.glob 1 112 limitsC, .glob 2 234 firstC, .glob 3 237 acceptC, .glob 0 102 asksC] noX = noX := by funext b; simp [OO, owns, noX, Res.own]
end Go.Proofs.YtdbfjfphfbcgiaaGreatDoor
/- A loop over so many places with a state of its own; an append behind what was cut off. Conditions: none. -/
set_option linter.unusedVariables false
namespace Go.Ab
open Go
section
variable {P : Program} {ro : Option Nat} {nt : Nat} {c : Code} {Q : Exit → St → Prop} {t : Fr} {h : List Res} {ds : List Nat}
theorem aw_rngX {σ : Type} (n : Nat) (p : Nat → σ → Prop) (inv : Nat → σ → St) (x0 : σ) (hp : p 0 x0) (h0 : Ent nt ⟨t, h, ds⟩ (inv 0 x0))
    (round : ∀ k x, k ≤ n → p k x → aw P ro nt c (thn (fun s' => k < n ∧ ∃ x', p (k + 1) x' ∧ Ent nt s' (inv (k + 1) x')) Q) (inv k x)) : aw P ro nt (.loop c) Q ⟨t, h, ds⟩ :=
  aw_loop' (fun x : Nat × σ => x.1 ≤ n ∧ p x.1 x.2) (fun x => inv x.1 x.2) (fun x => n - x.1) (0, x0) ⟨Nat.zero_le _, hp⟩ h0 fun x hk => aw_mono (fun e s' hq => by
    cases e with
    | normal =>
      obtain ⟨h1, x', h2, h3⟩ := hq
      exact ⟨(x.1 + 1, x'), ⟨h1, h2⟩, h3, by simp only; omega⟩
    | _ => exact hq) (round x.1 x.2 hk.1 hk.2)
end
end Go.Ab
/- The walks of the index's Check and events. Conditions: none. -/
set_option linter.unusedVariables false
set_option linter.unusedSimpArgs false
set_option maxRecDepth 10000
namespace Go.Proofs
open Go Go.Ab
attribute [local irreducible] QR QV OE aops aw dsoup dsoupM dalloc dallocM thn inBlk jsoup jch lsoup
open Go.H
theorem ixCheck (h : Hist) (la : Lim 4611686018427387904 h) : ACall Tryz.prog 38 [.agg (histC h)] [.glob 1 112 limitsC, .glob 2 234 firstC, .glob 3 237 acceptC, .glob 0 102 asksC] (fun r h' => h' = [.glob 1 112 limitsC, .glob 2 234 firstC, .glob 3 237 acceptC, .glob 0 102 asksC] ∧ r = iv (checkI h)) := by
  refine acall_of_aw Tryz.func38 rfl rfl rfl ?_
  refine rn ?_
  refine aops_e rfl (oe_box rfl rfl rfl fun b1 => ?_)
  refine rn ?_
  refine qv rfl rfl (qv_call rfl rfl (FCall.qt (FCall.of_fun (check h la)) ((pt1 _ _ _).trans (.cons _ ((pt1 _ _ _).trans (.cons _ (pt1 _ _ _))))))) ?_
  refine rn ?_
  refine aw_cond rfl (fun hc7 => ?_) (fun hc7 => ?_)
  · have hm : ¬ mayB h = true := by intro q; rw [checkE, if_pos q] at hc7; cases hc7
    have he : checkE h = 210 := by rw [checkE, if_neg hm]
    refine rn ?_
    refine rq 1 ?_
    exact ⟨rfl, by rw [checkI, if_neg hm, he]; rfl⟩
  · have hm : mayB h = true := check_0.1 (by simpa using hc7)
    refine rn ?_
    refine qv rfl rfl (qv_call rfl rfl (FCall.qt (FCall.of_fun (rSound h la)) ((pt1 _ _ _).trans (.cons _ ((pt1 _ _ _).trans (.cons _ ((pt1 _ _ _).trans (.cons _ (pt1 _ _ _))))))))) ?_
    refine rn ?_
    refine aw_cond rfl (fun hc11 => ?_) (fun hc11 => ?_)
    · refine rn ?_
      refine rq 1 ?_
      exact ⟨rfl, by rw [checkI, if_pos hm]; simp_all; rfl⟩
    · refine rn ?_
      refine rq 1 ?_
      exact ⟨rfl, by rw [checkI, if_pos hm]; simp_all; rfl⟩
theorem ixEvents (h : Hist) (kd : Int) (W : List Res) : ACall Tryz.prog 95 [.agg (histC h), iv kd] W (fun r h' => ∃ b1 b2, h' = .box b1 28 (histC h) :: .box b2 3 [iv kd] :: W ∧ r = .fn (.func 135) [] [.v (.pointer (some ⟨b1, 0, none⟩)), .v (.pointer (some ⟨b2, 0, none⟩))]) := by
  refine acall_of_aw Tryz.func95 rfl rfl rfl ?_
  refine rn ?_
  refine aops_e rfl (oe_box rfl rfl rfl fun b2 => ?_)
  refine aops_e rfl (oe_box rfl rfl rfl fun b3 => ?_)
  refine rn ?_
  exact retq (.cons _ _ _ _ (.tmp _ _ rfl) .nil) (.perm (pt1 _ _ _) _) ⟨_, _, rfl, rfl⟩
set_option maxHeartbeats 4000000 in
theorem ixEvents1 {σ : Type} (h : Hist) (la : h.evs.length ≤ 1000000) (kd : Int) (y : AV) (b1 b2 : Nat) (p q : Nat → σ → Prop) (I F : Nat → σ → List Res) (x0 : σ) (hp0 : p 0 x0) (hy : ∀ k x, (hk : k < h.evs.length) → p k x → (h.evs[k].kind == kd) = true → FCall Tryz.prog y [iv k, .agg (evR h.evs[k])] (.box b1 28 (histC h) :: .box b2 3 [iv kd] :: I k x) (fun r h' => ∃ x', (r = bv true ∧ p (k + 1) x' ∧ h' = .box b1 28 (histC h) :: .box b2 3 [iv kd] :: I (k + 1) x') ∨ (r = bv false ∧ q k x' ∧ h' = .box b1 28 (histC h) :: .box b2 3 [iv kd] :: F k x'))) (hs : ∀ k x, (hk : k < h.evs.length) → p k x → (h.evs[k].kind == kd) = false → ∃ x', p (k + 1) x' ∧ I (k + 1) x' = I k x) : ACall Tryz.prog 135 [y, .v (.pointer (some ⟨b1, 0, none⟩)), .v (.pointer (some ⟨b2, 0, none⟩))] (.box b1 28 (histC h) :: .box b2 3 [iv kd] :: I 0 x0) (fun r h' => (∃ x, p h.evs.length x ∧ h' = I h.evs.length x) ∨ ∃ k x, q k x ∧ h' = F k x) := by
  refine acall_of_aw Tryz.func135 rfl rfl rfl ?_
  refine rn ?_
  refine aw_rngX h.evs.length p (fun k x => ⟨[(9, iv k), (0, y), (2, .v (.pointer (some ⟨b2, 0, none⟩))), (7, evsA h.evs), (8, iv (h.evs.map evR).length)], .box b1 28 (histC h) :: .box b2 3 [iv kd] :: I k x, []⟩) x0 hp0 es ?_
  intro k x lk zk
  refine rn ?_
  refine aw_cond rfl (fun hc10 => ?_) (fun hc10 => ?_)
  · have hk := ltMap hc10
    have rk := atRow (f := evR) hk
    refine rn ?_
    refine aops_e rfl (oe_alloc rfl fun b5 => ?_)
    refine rn ?_
    refine asplit (fun hg3_4 => ?_) (fun hg3_4 => ?_)
    · refine q1 ?_
      refine q1 ?_
      refine q1 ?_
      refine aops_e rfl (oe_call rfl rfl (FCall.fr1 (hy k x hk zk (by simpa using hg3_4))) rfl ?_)
      rintro _ _ ⟨_, rfl, x', ⟨rfl, hp, rfl⟩ | ⟨rfl, hq, rfl⟩⟩
      · refine rn ?_
        refine aw_cond rfl (fun hc24 => ?_) (fun hc24 => ?_)
        · first | cases hc24 | exact absurd hc24 (by decide) | (exfalso; simp_all; done)
        · refine rn ?_
          exact ⟨hk, x', hp, eA⟩
      · refine rn ?_
        refine aw_cond rfl (fun hc24 => ?_) (fun hc24 => ?_)
        · refine rn ?_
          exact retq .nil (.drop [_, _, _] _ _) (.inr ⟨k, x', hq, rfl⟩)
        · first | cases hc24 | exact absurd hc24 (by decide) | (exfalso; simp_all; done)
    · refine rn ?_
      refine aw_cf rfl ?_
      refine rn ?_
      obtain ⟨x', hp, e⟩ := hs k x hk zk (by simpa using hg3_4)
      exact ⟨hk, x', hp, by rw [e]; exact eA⟩
  · have qk := geMap hc10 lk
    subst qk
    refine rn ?_
    exact retq_n .nil (.drop [_, _] _ _) (.inl ⟨x, zk, rfl⟩)
end Go.Proofs
/- The walks of the index's gather. Conditions: none. -/
set_option linter.unusedVariables false
set_option linter.unusedSimpArgs false
set_option maxRecDepth 10000
namespace Go.Proofs
open Go Go.Ab
attribute [local irreducible] QR QV OE aops aw dsoup dsoupM dalloc dallocM thn inBlk jsoup jch lsoup
open Go.H
def gatF {α : Type} (kd : Int) (x : Nat → Ev → α) (p : Nat → Ev → Bool) (k : Nat) (e : Ev) : Option α := if (e.kind == kd && p k e) = true then some (x k e) else none
theorem gatF_k {α : Type} {kd : Int} {x : Nat → Ev → α} {p : Nat → Ev → Bool} {k : Nat} {e : Ev} (h : (e.kind == kd) = false) : gatF kd x p k e = none := by rw [gatF, h]; simp
theorem gatF_n {α : Type} {kd : Int} {x : Nat → Ev → α} {p : Nat → Ev → Bool} {k : Nat} {e : Ev} (h : p k e = false) : gatF kd x p k e = none := by rw [gatF, h]; simp
theorem gatF_y {α : Type} {kd : Int} {x : Nat → Ev → α} {p : Nat → Ev → Bool} {k : Nat} {e : Ev} (h1 : (e.kind == kd) = true) (h : p k e = true) : gatF kd x p k e = some (x k e) := by rw [gatF, h1, h]; simp
theorem gatK_n {α : Type} {f : Nat → Ev → Option α} {l : List Ev} {k : Nat} (h : k < l.length) (hf : f k l[k] = none) : gatK f l (k + 1) = gatK f l k := by rw [gatK_s h, hf]; simp
theorem gatK_y {α : Type} {f : Nat → Ev → Option α} {l : List Ev} {k : Nat} {a : α} (h : k < l.length) (hf : f k l[k] = some a) : gatK f l (k + 1) = gatK f l k ++ [a] := by rw [gatK_s h, hf]; rfl
def fndR (f : Ver × Nat) : List AV := [iv f.1.t, iv f.1.k, iv f.2]
theorem one_fnd (l : List (Ver × Nat)) : ∀ r ∈ l.map fndR, r.all AV.one = true := by
  intro r hr; obtain ⟨a, _, rfl⟩ := List.mem_map.1 hr; rfl
set_option maxHeartbeats 4000000 in
theorem ixGatI (h : Hist) (la : h.evs.length ≤ 1000000) (kd : Int) (fv : AV) (hone : fv.cellsOf = some [fv]) (W : List Res) (x : Nat → Ev → Int) (p : Nat → Ev → Bool) (hp : ∀ k, (hk : k < h.evs.length) → (h.evs[k].kind == kd) = true → FCall Tryz.prog fv [iv k, .agg (evR h.evs[k])] W (fun r h' => h' = W ∧ r = .tup [iv (x k h.evs[k]), bv (p k h.evs[k])])) : ACall Tryz.prog 90 [.agg (histC h), iv kd, fv] W (fun r h' => ∃ s : SV, h' = .row s.v 1 3 ((gatK (gatF kd x p) h.evs h.evs.length).map intR) :: W ∧ r = .v s.v) := by
  refine acall_of_aw Tryz.func90 rfl rfl rfl ?_
  refine rn ?_
  refine aops_e rfl (oe_box rfl rfl rfl fun b3 => ?_)
  refine aops_e rfl (oe_box rfl hone rfl fun b5 => ?_)
  refine rn ?_
  refine aops_e rfl (oe_alloc rfl fun b7 => ?_)
  refine rn ?_
  refine aops_e rfl (oe_call rfl rfl (FCall.of_fun (ixEvents h kd _)) rfl ?_)
  rintro _ _ ⟨b1, b2, rfl, rfl⟩
  refine rn ?_
  refine aw_ent (s' := ⟨[(14, .fn (.func 135) [] [.v (.pointer (some ⟨b1, 0, none⟩)), .v (.pointer (some ⟨b2, 0, none⟩))]), (5, .v (.pointer (some ⟨b5, 0, none⟩))), (7, .v (.pointer (some ⟨b7, 0, none⟩)))], .box b1 28 (histC h) :: .box b2 3 [iv kd] :: .box b7 40 [.v (⟨none, 0, 0⟩ : SV).v] :: .row (⟨none, 0, 0⟩ : SV).v 1 3 ((gatK (gatF kd x p) h.evs 0).map intR) :: .box b5 129 [fv] :: .box b3 28 (histC h) :: W, []⟩) (ent_trans (ent_trans (ent_nilrow 1 3) (ent_perm ((pt1 _ _ _).trans (.cons _ ((pt1 _ _ _).trans (.cons _ (pt1 _ _ _))))))) es) ?_
  refine aw_rf (fun pend h'' => pend = none ∧ ∃ s : SV, h'' = .box b7 40 [.v s.v] :: .row s.v 1 3 ((gatK (gatF kd x p) h.evs h.evs.length).map intR) :: .box b5 129 [fv] :: .box b3 28 (histC h) :: W) rfl (fun fn l q lp hlp => ?_) (fun q h'' hK => ?_) (fun q h'' c hK => ?_)
  · suffices hy : ∀ k (s : SV), (hk : k < h.evs.length) → True → (h.evs[k].kind == kd) = true → FCall Tryz.prog (yv l) [iv k, .agg (evR h.evs[k])] (.box b1 28 (histC h) :: .box b2 3 [iv kd] :: lp .ready none :: .defs q :: .box b7 40 [.v s.v] :: .row s.v 1 3 ((gatK (gatF kd x p) h.evs k).map intR) :: .box b5 129 [fv] :: .box b3 28 (histC h) :: W) (fun r h' => ∃ s' : SV, (r = bv true ∧ True ∧ h' = .box b1 28 (histC h) :: .box b2 3 [iv kd] :: lp .ready none :: .defs q :: .box b7 40 [.v s'.v] :: .row s'.v 1 3 ((gatK (gatF kd x p) h.evs (k + 1)).map intR) :: .box b5 129 [fv] :: .box b3 28 (histC h) :: W) ∨ (r = bv false ∧ False ∧ h' = .box b1 28 (histC h) :: .box b2 3 [iv kd] :: [])) by
      refine ACall.mono (ACall.perm ((pt2 _ _ _ _).trans (.cons _ (pt2 _ _ _ _))) (ixEvents1 h la kd (yv l) b1 b2 (fun _ _ => True) (fun _ _ => False) (fun k (s : SV) => lp .ready none :: .defs q :: .box b7 40 [.v s.v] :: .row s.v 1 3 ((gatK (gatF kd x p) h.evs k).map intR) :: .box b5 129 [fv] :: .box b3 28 (histC h) :: W) (fun _ _ => []) ⟨none, 0, 0⟩ trivial hy (fun k s hk _ hn => ⟨s, trivial, by rw [gatK_n hk (gatF_k hn)]⟩))) ?_
      rintro _ _ (⟨s, _, rfl⟩ | ⟨_, _, hF, _⟩)
      · exact ⟨none, .ready, _, .refl _, by simp, rfl, s, rfl⟩
      · exact hF.elim
    intro k s hk _ hkd
    refine FCall.perm (pt2 _ _ _ _) (FCall.ventE ?_)
    refine fcall_yl2 hlp rfl rfl ?_
    refine rn ?_
    refine aops_e rfl (oe_alloc rfl fun b9 => ?_)
    refine rn ?_
    refine ⟨[(8, iv k), (9, .v (.pointer (some ⟨b9, 0, none⟩))), (5, .v (.pointer (some ⟨b5, 0, none⟩))), (7, .v (.pointer (some ⟨b7, 0, none⟩)))], .box b9 72 (evR h.evs[k]) :: .box b1 28 (histC h) :: .box b2 3 [iv kd] :: .defs q :: .box b7 40 [.v s.v] :: .row s.v 1 3 ((gatK (gatF kd x p) h.evs k).map intR) :: .box b5 129 [fv] :: .box b3 28 (histC h) :: W, ent_trans (ent_perm (pt1 _ _ _)) es, ?_⟩
    refine rn ?_
    refine qv rfl rfl (qv_call rfl rfl (FCall.qt (h2 := [_, _, _, _, _, _, _, _, _]) (hp k hk hkd) (perm_swap [_, _, _, _, _, _, _, _, _] _))) ?_
    refine rn ?_
    refine aw_cond rfl (fun hc24 => ?_) (fun hc24 => ?_)
    · refine aw_region ?_
      refine q1 ?_
      refine q1 ?_
      refine q1 ?_
      refine q1 ?_
      refine q1 ?_
      refine qq rfl rfl (qr_cut_row rfl (by rfl) (by rfl)) ?_
      refine rn ?_
      refine qv rfl rfl (qv_buildSlice rfl rfl) ?_
      refine aops_cut s.v ?_
      refine aops_e rfl (oe_append_row rfl rfl (by simp only [List.length_map, List.length_cons, List.length_nil]; have := gatK_len (gatF kd x p) h.evs k; omega) rfl (fun s33 => ?_) (one_int [x k h.evs[k]]))
      refine aops_slice s33 fun sv hsv => ?_
      subst hsv
      refine rn ?_
      exact round_n (.refl _) ⟨_, _, .trans (.perm ((pt1 _ _ _).trans (.cons _ ((pt1 _ _ _).trans (.cons _ (pt1 _ _ _))))) _) (.drop [_] _ _), sv, .inl ⟨rfl, trivial, by rw [gatK_y hk (gatF_y hkd hc24), List.map_append]; rfl⟩⟩
    · refine rn ?_
      exact round_n (.refl _) ⟨_, _, .trans (.perm ((pt1 _ _ _).trans (.cons _ ((pt1 _ _ _).trans (.cons _ (pt1 _ _ _))))) _) (.drop [_] _ _), s, .inl ⟨rfl, trivial, by rw [gatK_n hk (gatF_n hc24)]⟩⟩
  · obtain ⟨_, s, rfl⟩ := hK
    refine rn ?_
    exact retqd (.refl _) (.cons _ _ _ _ (.tmp _ _ rfl) .nil) (.trans (.drop1 _ _ _) (.trans (.perm (pt1 _ _ _) _) (.trans (.drop [_] _ _) (.trans (.perm (pt1 _ _ _) _) (.drop [_] _ _))))) ⟨s, rfl, rfl⟩
  · obtain ⟨hc, _⟩ := hK
    exact absurd hc (by simp)
set_option maxHeartbeats 4000000 in
theorem ixGatF (h : Hist) (la : h.evs.length ≤ 1000000) (kd : Int) (fv : AV) (hone : fv.cellsOf = some [fv]) (W : List Res) (x : Nat → Ev → Ver × Nat) (p : Nat → Ev → Bool) (hp : ∀ k, (hk : k < h.evs.length) → (h.evs[k].kind == kd) = true → FCall Tryz.prog fv [iv k, .agg (evR h.evs[k])] W (fun r h' => h' = W ∧ r = .tup [.agg (fndR (x k h.evs[k])), bv (p k h.evs[k])])) : ACall Tryz.prog 139 [.agg (histC h), iv kd, fv] W (fun r h' => ∃ s : SV, h' = .row s.v 3 122 ((gatK (gatF kd x p) h.evs h.evs.length).map fndR) :: W ∧ r = .v s.v) := by
  refine acall_of_aw Tryz.func139 rfl rfl rfl ?_
  refine rn ?_
  refine aops_e rfl (oe_box rfl rfl rfl fun b3 => ?_)
  refine aops_e rfl (oe_box rfl hone rfl fun b5 => ?_)
  refine rn ?_
  refine aops_e rfl (oe_alloc rfl fun b7 => ?_)
  refine rn ?_
  refine aops_e rfl (oe_call rfl rfl (FCall.of_fun (ixEvents h kd _)) rfl ?_)
  rintro _ _ ⟨b1, b2, rfl, rfl⟩
  refine rn ?_
  refine aw_ent (s' := ⟨[(14, .fn (.func 135) [] [.v (.pointer (some ⟨b1, 0, none⟩)), .v (.pointer (some ⟨b2, 0, none⟩))]), (5, .v (.pointer (some ⟨b5, 0, none⟩))), (7, .v (.pointer (some ⟨b7, 0, none⟩)))], .box b1 28 (histC h) :: .box b2 3 [iv kd] :: .box b7 140 [.v (⟨none, 0, 0⟩ : SV).v] :: .row (⟨none, 0, 0⟩ : SV).v 3 122 ((gatK (gatF kd x p) h.evs 0).map fndR) :: .box b5 177 [fv] :: .box b3 28 (histC h) :: W, []⟩) (ent_trans (ent_trans (ent_nilrow 3 122) (ent_perm ((pt1 _ _ _).trans (.cons _ ((pt1 _ _ _).trans (.cons _ (pt1 _ _ _))))))) es) ?_
  refine aw_rf (fun pend h'' => pend = none ∧ ∃ s : SV, h'' = .box b7 140 [.v s.v] :: .row s.v 3 122 ((gatK (gatF kd x p) h.evs h.evs.length).map fndR) :: .box b5 177 [fv] :: .box b3 28 (histC h) :: W) rfl (fun fn l q lp hlp => ?_) (fun q h'' hK => ?_) (fun q h'' c hK => ?_)
  · suffices hy : ∀ k (s : SV), (hk : k < h.evs.length) → True → (h.evs[k].kind == kd) = true → FCall Tryz.prog (yv l) [iv k, .agg (evR h.evs[k])] (.box b1 28 (histC h) :: .box b2 3 [iv kd] :: lp .ready none :: .defs q :: .box b7 140 [.v s.v] :: .row s.v 3 122 ((gatK (gatF kd x p) h.evs k).map fndR) :: .box b5 177 [fv] :: .box b3 28 (histC h) :: W) (fun r h' => ∃ s' : SV, (r = bv true ∧ True ∧ h' = .box b1 28 (histC h) :: .box b2 3 [iv kd] :: lp .ready none :: .defs q :: .box b7 140 [.v s'.v] :: .row s'.v 3 122 ((gatK (gatF kd x p) h.evs (k + 1)).map fndR) :: .box b5 177 [fv] :: .box b3 28 (histC h) :: W) ∨ (r = bv false ∧ False ∧ h' = .box b1 28 (histC h) :: .box b2 3 [iv kd] :: [])) by
      refine ACall.mono (ACall.perm ((pt2 _ _ _ _).trans (.cons _ (pt2 _ _ _ _))) (ixEvents1 h la kd (yv l) b1 b2 (fun _ _ => True) (fun _ _ => False) (fun k (s : SV) => lp .ready none :: .defs q :: .box b7 140 [.v s.v] :: .row s.v 3 122 ((gatK (gatF kd x p) h.evs k).map fndR) :: .box b5 177 [fv] :: .box b3 28 (histC h) :: W) (fun _ _ => []) ⟨none, 0, 0⟩ trivial hy (fun k s hk _ hn => ⟨s, trivial, by rw [gatK_n hk (gatF_k hn)]⟩))) ?_
      rintro _ _ (⟨s, _, rfl⟩ | ⟨_, _, hF, _⟩)
      · exact ⟨none, .ready, _, .refl _, by simp, rfl, s, rfl⟩
      · exact hF.elim
    intro k s hk _ hkd
    refine FCall.perm (pt2 _ _ _ _) (FCall.ventE ?_)
    refine fcall_yl2 hlp rfl rfl ?_
    refine rn ?_
    refine aops_e rfl (oe_alloc rfl fun b9 => ?_)
    refine rn ?_
    refine ⟨[(8, iv k), (9, .v (.pointer (some ⟨b9, 0, none⟩))), (5, .v (.pointer (some ⟨b5, 0, none⟩))), (7, .v (.pointer (some ⟨b7, 0, none⟩)))], .box b9 72 (evR h.evs[k]) :: .box b1 28 (histC h) :: .box b2 3 [iv kd] :: .defs q :: .box b7 140 [.v s.v] :: .row s.v 3 122 ((gatK (gatF kd x p) h.evs k).map fndR) :: .box b5 177 [fv] :: .box b3 28 (histC h) :: W, ent_trans (ent_perm (pt1 _ _ _)) es, ?_⟩
    refine rn ?_
    refine qv rfl rfl (qv_call rfl rfl (FCall.qt (h2 := [_, _, _, _, _, _, _, _, _]) (hp k hk hkd) (perm_swap [_, _, _, _, _, _, _, _, _] _))) ?_
    refine rn ?_
    refine aops_e rfl (oe_alloc rfl fun b10 => ?_)
    refine rn ?_
    refine aw_cond rfl (fun hc24 => ?_) (fun hc24 => ?_)
    · refine aw_draw 8 rfl ?_
      refine dq rfl rfl qrA ?_
      refine dq rfl rfl qrA ?_
      refine dq rfl rfl qrA ?_
      refine dq rfl rfl qrA ?_
      refine dq rfl rfl qrA ?_
      refine dq rfl rfl (qr_cut_row rfl (by rfl) (by rfl)) ?_
      refine rn ?_
      refine dv rfl rfl (qv_buildSlice rfl rfl) ?_
      refine rn ?_
      refine aops_cut s.v ?_
      refine aops_e rfl (oe_append_row rfl rfl (by simp only [List.length_map, List.length_cons, List.length_nil]; have := gatK_len (gatF kd x p) h.evs k; omega) rfl (fun s33 => ?_) (one_fnd [x k h.evs[k]]))
      refine aops_slice s33 fun sv hsv => ?_
      subst hsv
      refine rn ?_
      exact round_n (pt1 _ _ _) ⟨_, _, .trans (.perm ((pt1 _ _ _).trans (.cons _ ((pt1 _ _ _).trans (.cons _ ((pt1 _ _ _).trans (.cons _ (pt1 _ _ _))))))) _) (.drop [_, _] _ _), sv, .inl ⟨rfl, trivial, by rw [gatK_y hk (gatF_y hkd hc24), List.map_append]; rfl⟩⟩
    · refine rn ?_
      exact round_n (pt1 _ _ _) ⟨_, _, .trans (.perm ((pt1 _ _ _).trans (.cons _ ((pt1 _ _ _).trans (.cons _ ((pt1 _ _ _).trans (.cons _ (pt1 _ _ _))))))) _) (.drop [_, _] _ _), s, .inl ⟨rfl, trivial, by rw [gatK_n hk (gatF_n hc24)]⟩⟩
  · obtain ⟨_, s, rfl⟩ := hK
    refine rn ?_
    exact retqd (.refl _) (.cons _ _ _ _ (.tmp _ _ rfl) .nil) (.trans (.drop1 _ _ _) (.trans (.perm (pt1 _ _ _) _) (.trans (.drop [_] _ _) (.trans (.perm (pt1 _ _ _) _) (.drop [_] _ _))))) ⟨s, rfl, rfl⟩
  · obtain ⟨hc, _⟩ := hK
    exact absurd hc (by simp)
end Go.Proofs
/- The walks of the index's closures. Conditions: none. -/
set_option linter.unusedVariables false
set_option linter.unusedSimpArgs false
set_option maxRecDepth 10000
namespace Go.Proofs
open Go Go.Ab
attribute [local irreducible] QR QV OE aops aw dsoup dsoupM dalloc dallocM thn inBlk jsoup jch lsoup
open Go.H
theorem ixTell5 (k : Int) (e : Ev) : ACall Tryz.prog 91 [iv k, .agg (evR e)] [] (fun r h' => h' = [] ∧ r = .tup [iv e.t, bv true]) := by
  refine acall_of_aw Tryz.func91 rfl rfl rfl ?_
  refine rn ?_
  refine aops_e rfl (oe_box rfl rfl rfl fun b3 => ?_)
  refine rn ?_
  refine rq 1 ?_
  exact ⟨rfl, rfl⟩
theorem ixTellO (k s : Int) (e : Ev) (b2 b3 rm : Nat) (M : List (Int × Bool)) : ACall Tryz.prog 138 [iv k, .agg (evR e), .v (.pointer (some ⟨b2, 0, none⟩)), .v (.pointer (some ⟨b3, 0, none⟩))] [.box b2 3 [iv s], .box b3 104 [mpv rm], .map rm (encM intK (mapA bv M))] (fun r h' => h' = [.box b2 3 [iv s], .box b3 104 [mpv rm], .map rm (encM intK (mapA bv M))] ∧ r = .tup [iv e.t, bv (e.o == s && (getT e.t M).getD false)]) := by
  refine acall_of_aw Tryz.func138 rfl rfl rfl ?_
  refine rn ?_
  refine aops_e rfl (oe_box rfl rfl rfl fun b5 => ?_)
  refine rn ?_
  refine aw_draw 13 rfl ?_
  refine rn ?_
  refine dsplit (fun hg1_6 => ?_) (fun hg1_6 => ?_)
  · refine dq rfl rfl qrA ?_
    refine dq rfl rfl qrA ?_
    refine dq rfl rfl qrA ?_
    refine dq rfl rfl (qr_lookT (enc := intK) (k := e.t) false rfl rfl) ?_
    refine rn ?_
    refine rq 1 ?_
    exact ⟨rfl, by rw [hg1_6]; rfl⟩
  · refine rn ?_
    refine rq 1 ?_
    exact ⟨rfl, by rw [hg1_6]; rfl⟩
theorem ixTellW (k a : Nat) (t x : Int) (e : Ev) (b2 b3 b4 : Nat) : ACall Tryz.prog 140 [iv k, .agg (evR e), .v (.pointer (some ⟨b2, 0, none⟩)), .v (.pointer (some ⟨b3, 0, none⟩)), .v (.pointer (some ⟨b4, 0, none⟩))] [.box b2 3 [iv t], .box b3 3 [iv x], .box b4 3 [iv a]] (fun r h' => h' = [.box b2 3 [iv t], .box b3 3 [iv x], .box b4 3 [iv a]] ∧ r = .tup [.agg (fndR (e.v, k)), bv (e.t == t && e.o == x && decide (k < a))]) := by
  refine acall_of_aw Tryz.func140 rfl rfl rfl ?_
  refine rn ?_
  refine aops_e rfl (oe_box rfl rfl rfl fun b6 => ?_)
  refine aops_e rfl (oe_alloc rfl fun b7 => ?_)
  refine rn ?_
  refine aw_drawS 20 [(b7, 122, _)] rfl (List.perm_append_comm (l₁ := [_])) ?_
  refine dq rfl rfl qrA ?_
  refine dq rfl rfl qrA ?_
  refine dq rfl rfl qrA ?_
  refine dq rfl rfl (qr_build (out := [iv e.v.t, iv e.v.k, iv k]) rfl (by rfl)) ?_
  refine rn ?_
  refine dsplit (fun hg1_8 => ?_) (fun hg1_8 => ?_)
  · refine rn ?_
    refine dsplit (fun hg1_14 => ?_) (fun hg1_14 => ?_)
    · refine rn ?_
      refine dw 0 rfl rfl rfl rfl rfl (Nat.le_of_ble_eq_true rfl) ?_
      refine rn2 ?_
      show aops _ _ _ _ _ _ ⟨_, .box b7 122 (fndR (e.v, k)) :: .box b6 72 (evR e) :: [.box b2 3 [iv t], .box b3 3 [iv x], .box b4 3 [iv a]], _⟩
      refine rn ?_
      exact retq (.cons _ _ _ _ (.agg _ _ _ _ _ _ _ rfl inferInstance inferInstance inferInstance rfl) (.cons _ _ _ _ (.tmp _ _ rfl) .nil)) (.drop [_, _] _ _) ⟨rfl, by first | (rw [hg1_8, hg1_14]; exact congrArg (fun b => AV.tup [AV.agg (fndR (e.v, k)), bv b]) (by simp)) | (rw [hg1_8]; rfl)⟩
    · refine rn ?_
      refine dw 0 rfl rfl rfl rfl rfl (Nat.le_of_ble_eq_true rfl) ?_
      refine rn2 ?_
      show aops _ _ _ _ _ _ ⟨_, .box b7 122 (fndR (e.v, k)) :: .box b6 72 (evR e) :: [.box b2 3 [iv t], .box b3 3 [iv x], .box b4 3 [iv a]], _⟩
      refine rn ?_
      exact retq (.cons _ _ _ _ (.agg _ _ _ _ _ _ _ rfl inferInstance inferInstance inferInstance rfl) (.cons _ _ _ _ (.tmp _ _ rfl) .nil)) (.drop [_, _] _ _) ⟨rfl, by first | (rw [hg1_8, hg1_14]; exact congrArg (fun b => AV.tup [AV.agg (fndR (e.v, k)), bv b]) (by simp)) | (rw [hg1_8]; rfl)⟩
  · refine rn ?_
    refine dw 0 rfl rfl rfl rfl rfl (Nat.le_of_ble_eq_true rfl) ?_
    refine rn2 ?_
    show aops _ _ _ _ _ _ ⟨_, .box b7 122 (fndR (e.v, k)) :: .box b6 72 (evR e) :: [.box b2 3 [iv t], .box b3 3 [iv x], .box b4 3 [iv a]], _⟩
    refine rn ?_
    exact retq (.cons _ _ _ _ (.agg _ _ _ _ _ _ _ rfl inferInstance inferInstance inferInstance rfl) (.cons _ _ _ _ (.tmp _ _ rfl) .nil)) (.drop [_, _] _ _) ⟨rfl, by first | (rw [hg1_8, hg1_14]; exact congrArg (fun b => AV.tup [AV.agg (fndR (e.v, k)), bv b]) (by simp)) | (rw [hg1_8]; rfl)⟩
theorem ixIsO (x : Int) (s : Ord) (b1 : Nat) : ACall Tryz.prog 137 [.agg (ordR s), .v (.pointer (some ⟨b1, 0, none⟩))] [.box b1 3 [iv x]] (fun r h' => h' = [.box b1 3 [iv x]] ∧ r = bv (s.o == x)) := by
  refine acall_of_aw Tryz.func137 rfl rfl rfl ?_
  refine rn ?_
  refine aops_e rfl (oe_box rfl rfl rfl fun b2 => ?_)
  refine rn ?_
  refine rq 1 ?_
  exact ⟨rfl, rfl⟩
set_option maxHeartbeats 4000000 in
theorem ixEnded (h : Hist) (la : h.evs.length ≤ 1000000) (W : List Res) : ACall Tryz.prog 97 [.agg (histC h)] W (fun r h' => ∃ rm, h' = .map rm (encM intK (mapA bv (endM h.evs))) :: W ∧ r = mpv rm) := by
  refine acall_of_aw Tryz.func97 rfl rfl rfl ?_
  refine rn ?_
  refine aops_e rfl (oe_box rfl rfl rfl fun b1 => ?_)
  refine rn ?_
  refine aops_e rfl (oe_makeMap (enc := intK) rfl fun b6 => ?_)
  refine aops_e rfl (oe_alloc rfl fun b3 => ?_)
  refine rn ?_
  refine aops_e rfl (oe_call rfl rfl (FCall.of_fun (ixEvents h 5 _)) rfl ?_)
  rintro _ _ ⟨e1, e2, rfl, rfl⟩
  refine rn ?_
  refine aw_ent (s' := ⟨[(8, .fn (.func 135) [] [.v (.pointer (some ⟨e1, 0, none⟩)), .v (.pointer (some ⟨e2, 0, none⟩))]), (3, .v (.pointer (some ⟨b3, 0, none⟩)))], .box e1 28 (histC h) :: .box e2 3 [iv 5] :: .box b3 104 [mpv b6] :: .map b6 (encM intK (mapA bv (endM (h.evs.take 0)))) :: .box b1 28 (histC h) :: W, []⟩) es ?_
  refine aw_rf (fun pend h'' => pend = none ∧ h'' = .box b3 104 [mpv b6] :: .map b6 (encM intK (mapA bv (endM (h.evs.take h.evs.length)))) :: .box b1 28 (histC h) :: W) rfl (fun fn l q lp hlp => ?_) (fun q h'' hK => ?_) (fun q h'' c hK => ?_)
  · suffices hy : ∀ k (x : Unit), (hk : k < h.evs.length) → True → (h.evs[k].kind == 5) = true → FCall Tryz.prog (yv l) [iv k, .agg (evR h.evs[k])] (.box e1 28 (histC h) :: .box e2 3 [iv 5] :: lp .ready none :: .defs q :: .box b3 104 [mpv b6] :: .map b6 (encM intK (mapA bv (endM (h.evs.take k)))) :: .box b1 28 (histC h) :: W) (fun r h' => ∃ x' : Unit, (r = bv true ∧ True ∧ h' = .box e1 28 (histC h) :: .box e2 3 [iv 5] :: lp .ready none :: .defs q :: .box b3 104 [mpv b6] :: .map b6 (encM intK (mapA bv (endM (h.evs.take (k + 1))))) :: .box b1 28 (histC h) :: W) ∨ (r = bv false ∧ False ∧ h' = .box e1 28 (histC h) :: .box e2 3 [iv 5] :: [])) by
      refine ACall.mono (ACall.perm ((pt2 _ _ _ _).trans (.cons _ (pt2 _ _ _ _))) (ixEvents1 h la 5 (yv l) e1 e2 (fun _ _ => True) (fun _ _ => False) (fun k (_ : Unit) => lp .ready none :: .defs q :: .box b3 104 [mpv b6] :: .map b6 (encM intK (mapA bv (endM (h.evs.take k)))) :: .box b1 28 (histC h) :: W) (fun _ _ => []) () trivial hy (fun k s hk _ hn => ⟨s, trivial, by rw [endM_n hk hn]⟩))) ?_
      rintro _ _ (⟨s, _, rfl⟩ | ⟨_, _, hF, _⟩)
      · exact ⟨none, .ready, _, .refl _, by simp, rfl, rfl⟩
      · exact hF.elim
    intro k s hk _ hkd
    refine FCall.perm (pt2 _ _ _ _) (FCall.ventE ?_)
    refine fcall_yl2 hlp rfl rfl ?_
    refine rn ?_
    refine aops_e rfl (oe_alloc rfl fun b5 => ?_)
    refine rn ?_
    refine ⟨[(5, .v (.pointer (some ⟨b5, 0, none⟩))), (3, .v (.pointer (some ⟨b3, 0, none⟩)))], .box b5 72 (evR h.evs[k]) :: .box e1 28 (histC h) :: .box e2 3 [iv 5] :: .defs q :: .box b3 104 [mpv b6] :: .map b6 (encM intK (mapA bv (endM (h.evs.take k)))) :: .box b1 28 (histC h) :: W, ent_trans (ent_perm (pt1 _ _ _)) es, ?_⟩
    refine rn ?_
    refine aops_e rfl (oe_mapUpdT (g := bv) (enc := intK) (k := h.evs[k].t) (v := true) rfl rfl rfl ?_)
    refine rn ?_
    exact round_n (.refl _) ⟨_, _, .trans (.perm ((pt1 _ _ _).trans (.cons _ ((pt1 _ _ _).trans (.cons _ (pt1 _ _ _))))) _) (.drop [_] _ _), (), .inl ⟨rfl, trivial, by rw [endM_y hk hkd]⟩⟩
  · obtain ⟨_, rfl⟩ := hK
    refine rn ?_
    exact retqd (.refl _) (.cons _ _ _ _ (.tmp _ _ rfl) .nil) (.trans (.drop1 _ _ _) (.trans (.perm (pt1 _ _ _) _) (.drop [_] _ _))) ⟨b6, by rw [List.take_length], rfl⟩
  · obtain ⟨hc, _⟩ := hK
    exact absurd hc (by simp)
end Go.Proofs
/- The walks of the index's ask. Conditions: none. -/
set_option linter.unusedVariables false
set_option linter.unusedSimpArgs false
set_option maxRecDepth 10000
namespace Go.Proofs
open Go Go.Ab
attribute [local irreducible] QR QV OE aops aw dsoup dsoupM dalloc dallocM thn inBlk jsoup jch lsoup
open Go.H
theorem ask_no {h : Hist} {n many : Int} (he : askE h n many ≠ 0) (X : List Int) : (onE (askE h n many) X).map intR = [] := by rw [onE, if_neg he]; rfl
theorem gat_all {α : Type} (kd : Int) (g : Ev → α) (q : Ev → Bool) (l : List Ev) : gatK (gatF kd (fun _ e => g e) (fun _ e => q e)) l l.length = (l.filter fun e => e.kind == kd && q e).map g := gatK_all (fun _ _ => rfl) l
theorem ixAskI (h : Hist) (la : Lim 4611686018427387904 h) (n many : Int) (fv : AV) (hone : fv.cellsOf = some [fv]) (X : List Int) (W : List Res) (hp : askE h n many = 0 → FCall Tryz.prog fv [] (.glob 1 112 limitsC :: .glob 2 234 firstC :: .glob 3 237 acceptC :: .glob 0 102 asksC :: W) (fun r h' => ∃ s : SV, h' = .row s.v 1 3 (X.map intR) :: .glob 1 112 limitsC :: .glob 2 234 firstC :: .glob 3 237 acceptC :: .glob 0 102 asksC :: W ∧ r = .v s.v)) : ACall Tryz.prog 88 [.agg (histC h), iv n, iv many, fv] (.glob 1 112 limitsC :: .glob 2 234 firstC :: .glob 3 237 acceptC :: .glob 0 102 asksC :: W) (fun r h' => ∃ s : SV, h' = .row s.v 1 3 ((onE (askE h n many) X).map intR) :: .glob 1 112 limitsC :: .glob 2 234 firstC :: .glob 3 237 acceptC :: .glob 0 102 asksC :: W ∧ r = .tup [.v s.v, iv (askE h n many)]) := by
  refine acall_of_aw Tryz.func88 rfl rfl rfl ?_
  refine rn ?_
  refine aops_e rfl (oe_box rfl rfl rfl fun b4 => ?_)
  refine rn ?_
  refine qv rfl rfl (qv_call rfl rfl (FCall.qt (FCall.of_fun (ixCheck h la)) ((pt1 _ _ _).trans (.cons _ ((pt1 _ _ _).trans (.cons _ ((pt1 _ _ _).trans (.cons _ (pt1 _ _ _))))))))) ?_
  refine rn ?_
  refine aw_cond rfl (fun hc15 => ?_) (fun hc15 => ?_)
  · have hc : checkI h ≠ 0 := by simpa using hc15
    refine rn ?_
    exact retq (.cons _ _ _ _ (.tmp _ _ rfl) (.cons _ _ _ _ (.tmp _ _ rfl) .nil)) (.trans (.drop [_] _ _) (vent_nilrow 1 3 _)) ⟨⟨none, 0, 0⟩, by rw [ask_no (by rw [ask_c hc]; exact hc)]; rfl, by rw [ask_c hc]; rfl⟩
  · have hc : checkI h = 0 := by simpa using hc15
    refine rn ?_
    refine asplit (fun hg5_2 => ?_) (fun hg5_2 => ?_)
    · refine rn ?_
      refine aw_ct rfl ?_
      have hn : ¬ (0 ≤ n ∧ n < many) := by first | (have q := of_decide_eq_true hg5_2; omega) | (have q := of_decide_eq_true hc24; omega)
      refine rn ?_
      exact retq (.cons _ _ _ _ (.tmp _ _ rfl) (.cons _ _ _ _ (.tmp _ _ rfl) .nil)) (.trans (.drop [_] _ _) (vent_nilrow 1 3 _)) ⟨⟨none, 0, 0⟩, by rw [ask_no (by rw [ask_a hc hn]; decide)]; rfl, by rw [ask_a hc hn]; rfl⟩
    · refine rn ?_
      refine aw_cond rfl (fun hc24 => ?_) (fun hc24 => ?_)
      · have hn : ¬ (0 ≤ n ∧ n < many) := by first | (have q := of_decide_eq_true hg5_2; omega) | (have q := of_decide_eq_true hc24; omega)
        refine rn ?_
        exact retq (.cons _ _ _ _ (.tmp _ _ rfl) (.cons _ _ _ _ (.tmp _ _ rfl) .nil)) (.trans (.drop [_] _ _) (vent_nilrow 1 3 _)) ⟨⟨none, 0, 0⟩, by rw [ask_no (by rw [ask_a hc hn]; decide)]; rfl, by rw [ask_a hc hn]; rfl⟩
      · have hn : 0 ≤ n ∧ n < many := by have q := of_decide_eq_false hg5_2; have q' := of_decide_eq_false hc24; omega
        refine rn ?_
        refine aops_e rfl (oe_call rfl rfl (FCall.fr1 (hp (ask_y hc hn))) rfl ?_)
        rintro _ _ ⟨_, rfl, s, rfl, rfl⟩
        refine rn ?_
        exact retq (.cons _ _ _ _ (.tmp _ _ rfl) (.cons _ _ _ _ (.tmp _ _ rfl) .nil)) (.drop [_] _ _) ⟨s, by rw [ask_y hc hn]; rfl, by rw [ask_y hc hn]; rfl⟩
end Go.Proofs
/- The walks of the index's Committed, Line, Installed. Conditions: none. -/
set_option linter.unusedVariables false
set_option linter.unusedSimpArgs false
set_option maxRecDepth 10000
namespace Go.Proofs
open Go Go.Ab
attribute [local irreducible] QR QV OE aops aw dsoup dsoupM dalloc dallocM thn inBlk jsoup jch lsoup
open Go.H
theorem qr_index_rowI {P : Program} {h : List Res} {f : Operand → Option AV} {dst : Option Tmp} {ty : TypeId} {pos : String} {after : Array Edge} {guard : Option (Nat × Bool)} {x y : Operand} {T E : TypeId} {s : Value} {sz i : Nat} {k : Int} {E' : TypeId} {rows : List (List AV)} (hx : f x = some (.v s)) (hy : f y = some (.v (.int .i64 k))) [hr : HasRow h s i sz E' rows] [Und P T (.slice E)] [Siz P E sz] (h0 : 0 ≤ k) (hk : k.toNat < rows.length) :
    QR P h f ⟨dst, .indexAddr T x y, ty, pos, after, guard⟩ (.rp s sz k.toNat 0) := qr_index_row hx (by rw [Int.toNat_of_nonneg h0]; exact hy) hk
theorem ask_lim {h : Hist} {n many : Int} (he : askE h n many = 0) : Lim 3000 h := may3000 (sound_may (ask_0 he).1).1
theorem ask_evs {h : Hist} {n many : Int} (he : askE h n many = 0) : h.evs.length ≤ 1000000 := Nat.le_trans (ask_lim he).evs (by decide)
theorem chk_lim {h : Hist} (he : checkI h = 0) : Lim 3000 h := may3000 (sound_may (checkI_0.1 he)).1
theorem chk_evs {h : Hist} (he : checkI h = 0) : h.evs.length ≤ 1000000 := Nat.le_trans (chk_lim he).evs (by decide)
theorem comm_gat (l : List Ev) : srt (gatK (gatF 5 (fun _ e => e.t) (fun _ _ => true)) l l.length) = commP l := by
  rw [commP, gat_all 5 Ev.t (fun _ => true)]; simp only [Bool.and_true]
theorem ins_gat (l : List Ev) (x : Int) : gatK (gatF 2 (fun _ e => e.t) (fun _ e => e.o == x && (getT e.t (endM l)).getD false)) l l.length = insL l x := by
  rw [gat_all 2 Ev.t (fun e => e.o == x && (getT e.t (endM l)).getD false), insL]; simp only [endM_get]
theorem ord_at {h : Hist} {x : Int} (hc : decide (fidx (fun o : Ord => o.o == x) 0 h.ords ≥ 0) = true) : ∃ k, ∃ hk : k < h.ords.length, fidx (fun o : Ord => o.o == x) 0 h.ords = (k : Int) ∧ insP h x = h.ords[k].ts := by
  have := fidx_find (fun o : Ord => o.o == x) h.ords 0
  cases hf : h.ords.find? (fun o => o.o == x) with
  | none => rw [hf] at this; simp only at this; rw [this] at hc; exact absurd hc (by decide)
  | some o =>
    rw [hf] at this
    obtain ⟨k, hk, e, eo, _⟩ := this
    exact ⟨k, hk, by rw [e, Nat.zero_add], by rw [insP, hf, eo]⟩
theorem ord_no {h : Hist} {x : Int} (hc : decide (fidx (fun o : Ord => o.o == x) 0 h.ords ≥ 0) = false) : insP h x = cmpct (insL h.evs x) := by
  have := fidx_find (fun o : Ord => o.o == x) h.ords 0
  cases hf : h.ords.find? (fun o => o.o == x) with
  | none => rw [insP, hf]
  | some o =>
    rw [hf] at this
    obtain ⟨k, hk, e, eo, _⟩ := this
    rw [e] at hc
    have := of_decide_eq_false hc
    omega
set_option maxHeartbeats 4000000 in
theorem ixCommS (h : Hist) (la : h.evs.length ≤ 1000000) (b1 : Nat) : ACall Tryz.prog 89 [.v (.pointer (some ⟨b1, 0, none⟩))] (.glob 1 112 limitsC :: .glob 2 234 firstC :: .glob 3 237 acceptC :: .glob 0 102 asksC :: .box b1 28 (histC h) :: []) (fun r h' => ∃ s : SV, h' = .row s.v 1 3 ((commP h.evs).map intR) :: .glob 1 112 limitsC :: .glob 2 234 firstC :: .glob 3 237 acceptC :: .glob 0 102 asksC :: .box b1 28 (histC h) :: [] ∧ r = .v s.v) := by
  refine acall_of_aw Tryz.func89 rfl rfl rfl ?_
  refine rn ?_
  refine aops_e rfl (oe_call rfl rfl (FCall.of_fun (ixGatI h la 5 _ rfl _ (fun _ e => e.t) (fun _ _ => true) (fun k hk _ => FCall.pure (R := fun r => r = _) (FCall.of_fun (ixTell5 k h.evs[k]))))) rfl ?_)
  rintro _ _ ⟨s, rfl, rfl⟩
  refine rn ?_
  refine aops_e rfl (oe_call rfl rfl (fcall_row0 (FCall.of_fun (sortI s _ (by have := (gatK_len (gatF 5 (fun _ e => e.t) (fun _ e => true)) h.evs h.evs.length); omega)))) rfl ?_)
  rintro _ _ ⟨rfl, rfl⟩
  refine rn ?_
  exact retq (.cons _ _ _ _ (.tmp _ _ rfl) .nil) (.refl _ _) ⟨s, by rw [comm_gat], rfl⟩
set_option maxHeartbeats 4000000 in
theorem ixCommR (h : Hist) (la : Lim 4611686018427387904 h) : ACall Tryz.prog 36 [.agg (histC h)] (.glob 1 112 limitsC :: .glob 2 234 firstC :: .glob 3 237 acceptC :: .glob 0 102 asksC :: []) (fun r h' => ∃ s : SV, h' = .row s.v 1 3 ((onE (checkI h) (commP h.evs)).map intR) :: .glob 1 112 limitsC :: .glob 2 234 firstC :: .glob 3 237 acceptC :: .glob 0 102 asksC :: [] ∧ r = .tup [.v s.v, iv (checkI h)]) := by
  refine acall_of_aw Tryz.func36 rfl rfl rfl ?_
  refine rn ?_
  refine aops_e rfl (oe_box rfl rfl rfl fun b1 => ?_)
  refine rn ?_
  refine aops_e rfl (oe_call rfl rfl (FCall.perm ((pt1 _ _ _).trans (.cons _ ((pt1 _ _ _).trans (.cons _ ((pt1 _ _ _).trans (.cons _ (pt1 _ _ _))))))) (FCall.of_fun (ixAskI h la 0 1 (.fn (.func 89) [] [.v (.pointer (some ⟨b1, 0, none⟩))]) rfl (commP h.evs) [.box b1 28 (histC h)] (fun he => FCall.of_acall (fs := []) (cs := [.v (.pointer (some ⟨b1, 0, none⟩))]) (ixCommS h (ask_evs he) b1))))) rfl ?_)
  rintro _ _ ⟨s, rfl, rfl⟩
  refine rn ?_
  exact retq (.cons _ _ _ _ (.tmp _ _ rfl) (.cons _ _ _ _ (.tmp _ _ rfl) .nil)) (.trans (.perm (pt5 _ _ _ _ _ _ _) _) (.drop [_] _ _)) ⟨s, by rw [ask_01], by rw [ask_01]; rfl⟩
theorem ixComm (h : Hist) (la : Lim 4611686018427387904 h) : ACall Tryz.prog 36 [.agg (histC h)] (.glob 1 112 limitsC :: .glob 2 234 firstC :: .glob 3 237 acceptC :: .glob 0 102 asksC :: []) (fun r h' => h' = .glob 1 112 limitsC :: .glob 2 234 firstC :: .glob 3 237 acceptC :: .glob 0 102 asksC :: [] ∧ r = .tup [intsA (onE (checkI h) (commP h.evs)), iv (checkI h)]) :=
  (ixCommR h la).ventR (by rintro _ _ ⟨s, rfl, rfl⟩; exact ⟨_, _, vent_freeze_tup [] [_], rfl, rfl⟩)
set_option maxHeartbeats 4000000 in
theorem ixInsR (h : Hist) (la : Lim 3000 h) (x : Int) (W : List Res) : ACall Tryz.prog 100 [.agg (histC h), iv x] W (fun r h' => ∃ s : SV, h' = .row s.v 1 3 ((insP h x).map intR) :: W ∧ r = .v s.v) := by
  refine acall_of_aw Tryz.func100 rfl rfl rfl ?_
  have le : h.evs.length ≤ 1000000 := Nat.le_trans la.evs (by decide)
  have lo := la.ords
  refine rn ?_
  refine aops_e rfl (oe_box rfl rfl rfl fun b2 => ?_)
  refine aops_e rfl (oe_box rfl rfl rfl fun b3 => ?_)
  refine rn ?_
  refine qv rfl rfl (qv_call rfl rfl (FCall.of_fun (indexFuncOrd h.ords _ (fun o : Ord => o.o == x) _ (fun a _ => FCall.qt (FCall.of_acall (fs := []) (cs := [.v (.pointer (some ⟨b3, 0, none⟩))]) (ixIsO x a b3)) (.refl _)) (Nat.le_trans la.ords (by decide))))) ?_
  refine rn ?_
  refine aw_cond rfl (fun hc13 => ?_) (fun hc13 => ?_)
  · obtain ⟨k, hk, ek, hx⟩ := ord_at hc13
    have rk := atRow (f := ordR) hk
    rw [ek]
    refine rn ?_
    refine aops_e rfl (oe_call rfl rfl (FCall.fr (FCall.rowS (FCall.of_fun (cloneRowInt (h.ords[k].ts.map intR) (by rw [List.length_map]; exact Nat.le_trans (la.ordts h.ords[k] (List.getElem_mem hk)) (by decide)) (one_int _)))) (.refl _)) rfl ?_)
    rintro _ _ ⟨_, rfl, s, rfl, rfl⟩
    refine rn ?_
    exact retq (.cons _ _ _ _ (.tmp _ _ rfl) .nil) (.trans (.perm ((pt1 _ _ _).trans (.cons _ (pt1 _ _ _))) _) (.drop [_, _] _ _)) ⟨s, by rw [hx], rfl⟩
  · have hx := ord_no hc13
    refine rn ?_
    refine aops_e rfl (oe_call rfl rfl (FCall.of_fun (ixEnded h le _)) rfl ?_)
    rintro _ _ ⟨rm, rfl, rfl⟩
    refine aops_e rfl (oe_alloc rfl fun b6 => ?_)
    refine rn ?_
    refine aops_e rfl (oe_call rfl rfl (FCall.of_fun (ixGatI h le 2 _ rfl _ (fun _ e => e.t) (fun _ e => e.o == x && (getT e.t (endM h.evs)).getD false) (fun k hk _ => FCall.qt (FCall.of_acall (fs := []) (cs := [.v (.pointer (some ⟨b3, 0, none⟩)), .v (.pointer (some ⟨b6, 0, none⟩))]) (ixTellO k x h.evs[k] b3 b6 rm (endM h.evs))) (pt2 _ _ _ _)))) rfl ?_)
    rintro _ _ ⟨s, rfl, rfl⟩
    refine rn ?_
    refine aops_e rfl (oe_call rfl rfl (fcall_row (FCall.of_fun (compI s _ (by have := (gatK_len (gatF 2 (fun _ e => e.t) (fun _ e => e.o == x && (getT e.t (endM h.evs)).getD false)) h.evs h.evs.length); omega)))) rfl ?_)
    rintro _ _ ⟨s', rfl, rfl⟩
    refine rn ?_
    exact retq (.cons _ _ _ _ (.tmp _ _ rfl) .nil) (.trans (.perm ((pt1 _ _ _).trans (.cons _ ((pt1 _ _ _).trans (.cons _ ((pt1 _ _ _).trans (.cons _ (pt1 _ _ _))))))) _) (.drop [_, _, _, _] _ _)) ⟨s', by rw [hx, ins_gat], rfl⟩
theorem ixInsS (h : Hist) (la : Lim 3000 h) (x : Int) (b2 b3 : Nat) : ACall Tryz.prog 99 [.v (.pointer (some ⟨b2, 0, none⟩)), .v (.pointer (some ⟨b3, 0, none⟩))] (.glob 1 112 limitsC :: .glob 2 234 firstC :: .glob 3 237 acceptC :: .glob 0 102 asksC :: .box b2 28 (histC h) :: .box b3 3 [iv x] :: []) (fun r h' => ∃ s : SV, h' = .row s.v 1 3 ((insP h x).map intR) :: .glob 1 112 limitsC :: .glob 2 234 firstC :: .glob 3 237 acceptC :: .glob 0 102 asksC :: .box b2 28 (histC h) :: .box b3 3 [iv x] :: [] ∧ r = .v s.v) := by
  refine acall_of_aw Tryz.func99 rfl rfl rfl ?_
  refine rn ?_
  refine aops_e rfl (oe_call rfl rfl (FCall.of_fun (ixInsR h la x _)) rfl ?_)
  rintro _ _ ⟨s, rfl, rfl⟩
  refine rn ?_
  exact retq (.cons _ _ _ _ (.tmp _ _ rfl) .nil) (.refl _ _) ⟨s, rfl, rfl⟩
set_option maxHeartbeats 4000000 in
theorem ixInstR (h : Hist) (la : Lim 4611686018427387904 h) (x : Int) : ACall Tryz.prog 41 [.agg (histC h), iv x] (.glob 1 112 limitsC :: .glob 2 234 firstC :: .glob 3 237 acceptC :: .glob 0 102 asksC :: []) (fun r h' => ∃ s : SV, h' = .row s.v 1 3 ((onE (askE h x h.os.length) (insP h x)).map intR) :: .glob 1 112 limitsC :: .glob 2 234 firstC :: .glob 3 237 acceptC :: .glob 0 102 asksC :: [] ∧ r = .tup [.v s.v, iv (askE h x h.os.length)]) := by
  refine acall_of_aw Tryz.func41 rfl rfl rfl ?_
  refine rn ?_
  refine aops_e rfl (oe_box rfl rfl rfl fun b2 => ?_)
  refine aops_e rfl (oe_box rfl rfl rfl fun b3 => ?_)
  refine rn ?_
  refine aops_e rfl (oe_call rfl rfl (FCall.perm ((pt2 _ _ _ _).trans (.cons _ ((pt2 _ _ _ _).trans (.cons _ ((pt2 _ _ _ _).trans (.cons _ ((pt2 _ _ _ _).trans (.cons _ (pt1 _ _ _))))))))) (FCall.of_fun (ixAskI h la x (h.os.map strR).length (.fn (.func 99) [] [.v (.pointer (some ⟨b2, 0, none⟩)), .v (.pointer (some ⟨b3, 0, none⟩))]) rfl (insP h x) [.box b2 28 (histC h), .box b3 3 [iv x]] (fun he => FCall.of_acall (fs := []) (cs := [.v (.pointer (some ⟨b2, 0, none⟩)), .v (.pointer (some ⟨b3, 0, none⟩))]) (ixInsS h (ask_lim he) x b2 b3))))) rfl ?_)
  rintro _ _ ⟨s, rfl, rfl⟩
  refine rn ?_
  exact retq (.cons _ _ _ _ (.tmp _ _ rfl) (.cons _ _ _ _ (.tmp _ _ rfl) .nil)) (.trans (.perm ((pt5 _ _ _ _ _ _ _).trans (.cons _ (pt5 _ _ _ _ _ _ _))) _) (.drop [_, _] _ _)) ⟨s, by simp only [List.length_map], by simp only [List.length_map]; rfl⟩
theorem ixInst (h : Hist) (la : Lim 4611686018427387904 h) (x : Int) : ACall Tryz.prog 41 [.agg (histC h), iv x] (.glob 1 112 limitsC :: .glob 2 234 firstC :: .glob 3 237 acceptC :: .glob 0 102 asksC :: []) (fun r h' => h' = .glob 1 112 limitsC :: .glob 2 234 firstC :: .glob 3 237 acceptC :: .glob 0 102 asksC :: [] ∧ r = .tup [intsA (onE (askE h x h.os.length) (insP h x)), iv (askE h x h.os.length)]) :=
  (ixInstR h la x).ventR (by rintro _ _ ⟨s, rfl, rfl⟩; exact ⟨_, _, vent_freeze_tup [] [_], rfl, rfl⟩)
end Go.Proofs
/- The walks of the index's writes, final, Final. Conditions: none. -/
set_option linter.unusedVariables false
set_option linter.unusedSimpArgs false
set_option maxRecDepth 10000
namespace Go.Proofs
open Go Go.Ab
attribute [local irreducible] QR QV OE aops aw dsoup dsoupM dalloc dallocM thn inBlk jsoup jch lsoup
open Go.H
theorem fin_n {l : List Ev} {t x : Int} {a : Nat} (ha : l.length ≤ a) (h0 : (((gatK (foundF t x a) l l.length).map fndR).length : Int) = 0) : finW l t x = none := by
  have hl := found_last l t x a l.length (Nat.le_refl _)
  rw [Nat.min_eq_left ha] at hl
  rw [finW, ← hl]
  generalize gatK (foundF t x a) l l.length = L at *
  rw [List.length_map] at h0
  cases L with
  | nil => rfl
  | cons b r => rw [List.length_cons] at h0; omega
theorem fin_s {l : List Ev} {t x : Int} {a : Nat} (h0 : (((gatK (foundF t x a) l l.length).map fndR).length : Int) ≠ 0) : ∃ p, lastW l t x (min l.length a) = some p ∧ ((gatK (foundF t x a) l l.length).map fndR)[((((gatK (foundF t x a) l l.length).map fndR).length : Int) - 1).toNat]? = some (fndR p) ∧ 0 ≤ (((gatK (foundF t x a) l l.length).map fndR).length : Int) - 1 ∧ ((((gatK (foundF t x a) l l.length).map fndR).length : Int) - 1).toNat < ((gatK (foundF t x a) l l.length).map fndR).length := by
  have hl := found_last l t x a l.length (Nat.le_refl _)
  generalize gatK (foundF t x a) l l.length = L at *
  rw [List.length_map] at h0 ⊢
  have hn : 0 < L.length := by omega
  refine ⟨L[L.length - 1], ?_, ?_, by omega, by omega⟩
  · rw [← hl, List.getLast?_eq_getElem?, List.getElem?_eq_getElem (by omega)]
  · rw [show ((L.length : Int) - 1).toNat = L.length - 1 by omega, List.getElem?_map, List.getElem?_eq_getElem (by omega)]; rfl
def finD (h : Hist) (t x : Int) : Ver × Nat := (finW h.evs t x).getD (⟨0, 0⟩, 0)
theorem finD_v (h : Hist) (t x : Int) : (finD h t x).1 = verO (finW h.evs t x) := by rw [finD]; cases finW h.evs t x <;> rfl
theorem finD_a (h : Hist) (t x : Int) : (((finD h t x).2 : Nat) : Int) = atO (finW h.evs t x) := by rw [finD]; cases finW h.evs t x <;> rfl
def finI (h : Hist) (t x : Int) : Option (Ver × Nat) := if checkI h = 0 then finW h.evs t x else none
def rankA (h : Hist) (x : Int) (v : Ver) : Int × Bool := if askE h x h.os.length = 0 then (if v = ⟨0, 0⟩ then (0, true) else (rankI h x v + 1, decide (rankI h x v ≥ 0))) else (0, false)
def nextI (h : Hist) (x r : Int) : Option Int := if askE h x h.os.length = 0 then (if 0 ≤ r then (insP h x)[r.toNat]? else none) else none
theorem ixWrites (h : Hist) (la : h.evs.length ≤ 1000000) (t x : Int) (a : Nat) (W : List Res) : ACall Tryz.prog 101 [.agg (histC h), iv t, iv x, iv a] W (fun r h' => ∃ s : SV, h' = .row s.v 3 122 ((gatK (foundF t x a) h.evs h.evs.length).map fndR) :: W ∧ r = .v s.v) := by
  refine acall_of_aw Tryz.func101 rfl rfl rfl ?_
  refine rn ?_
  refine aops_e rfl (oe_box rfl rfl rfl fun b4 => ?_)
  refine aops_e rfl (oe_box rfl rfl rfl fun b5 => ?_)
  refine aops_e rfl (oe_box rfl rfl rfl fun b6 => ?_)
  refine aops_e rfl (oe_box rfl rfl rfl fun b7 => ?_)
  refine rn ?_
  refine aops_e rfl (oe_call rfl rfl (FCall.of_fun (ixGatF h la 2 _ rfl _ (fun k e => (e.v, k)) (fun k e => e.t == t && e.o == x && decide (k < a)) (fun k hk _ => FCall.qt (FCall.of_acall (fs := []) (cs := [.v (.pointer (some ⟨b5, 0, none⟩)), .v (.pointer (some ⟨b6, 0, none⟩)), .v (.pointer (some ⟨b7, 0, none⟩))]) (ixTellW k a t x h.evs[k] b5 b6 b7)) ((pt2 _ _ _ _).trans (.cons _ (pt1 _ _ _)))))) rfl ?_)
  rintro _ _ ⟨s, rfl, rfl⟩
  refine rn ?_
  exact retq (.cons _ _ _ _ (.tmp _ _ rfl) .nil) (.trans (.perm ((pt1 _ _ _).trans (.cons _ ((pt1 _ _ _).trans (.cons _ ((pt1 _ _ _).trans (.cons _ (pt1 _ _ _))))))) _) (.drop [_, _, _, _] _ _)) ⟨s, rfl, rfl⟩
theorem ixFin (h : Hist) (la : h.evs.length ≤ 1000000) (t x : Int) (W : List Res) : ACall Tryz.prog 85 [.agg (histC h), iv t, iv x] W (fun r h' => h' = W ∧ r = .tup [.agg (fndR (finD h t x)), bv (finW h.evs t x).isSome]) := by
  refine acall_of_aw Tryz.func85 rfl rfl rfl ?_
  refine rn ?_
  refine aops_e rfl (oe_box rfl rfl rfl fun b3 => ?_)
  refine aops_e rfl (oe_alloc rfl fun b6 => ?_)
  refine q1 ?_
  refine aops_nil (thn_n ?_)
  refine aw_seq (aw_region ?_)
  refine q1 ?_
  refine q1 ?_
  refine q1 ?_
  refine q1 ?_
  refine q1 ?_
  refine q1 ?_
  rw [List.length_map]
  refine aops_e rfl (oe_call rfl rfl (FCall.of_fun (ixWrites h la t x h.evs.length _)) rfl ?_)
  rintro _ _ ⟨s, rfl, rfl⟩
  refine rn ?_
  refine aw_cond rfl (fun hc18 => ?_) (fun hc18 => ?_)
  · have hw := fin_n (l := h.evs) (t := t) (x := x) (a := h.evs.length) (Nat.le_refl _) (by simpa using hc18)
    refine aw_seq (aw_region ?_)
    refine qq rfl rfl (qr_build (out := [iv 0, iv 0, iv 0]) rfl (by rfl)) ?_
    refine rn ?_
    exact retq (.cons _ _ _ _ (.agg _ _ _ _ _ _ _ rfl inferInstance inferInstance inferInstance rfl) (.cons _ _ _ _ (.tmp _ _ rfl) .nil)) (.drop [_, _, _] _ _) ⟨rfl, by rw [finD, hw]; rfl⟩
  · obtain ⟨p, hp, f1, f2, f3⟩ := fin_s (l := h.evs) (t := t) (x := x) (a := h.evs.length) (by simpa using hc18)
    rw [Nat.min_self] at hp
    have hL := gatK_len (foundF t x h.evs.length) h.evs h.evs.length
    refine aw_skip ?_
    refine thn_n ?_
    refine aw_seq (aw_region ?_)
    refine q1 ?_
    refine q1 ?_
    refine q1 ?_
    refine qq rfl rfl (qr_ari rfl rfl rfl (by rw [List.length_map]; omega)) ?_
    refine qq rfl rfl (qr_index_rowI rfl rfl f2 f3) ?_
    refine qq rfl rfl (qr_load_rp_all rfl f1 rfl) ?_
    refine rn ?_
    exact retq (.cons _ _ _ _ (.agg _ _ _ _ _ _ _ rfl inferInstance inferInstance inferInstance rfl) (.cons _ _ _ _ (.tmp _ _ rfl) .nil)) (.drop [_, _, _] _ _) ⟨rfl, by rw [finD, finW, hp]; rfl⟩
theorem ixFinal (h : Hist) (la : Lim 4611686018427387904 h) (t x : Int) : ACall Tryz.prog 32 [.agg (histC h), iv t, iv x] (.glob 1 112 limitsC :: .glob 2 234 firstC :: .glob 3 237 acceptC :: .glob 0 102 asksC :: []) (fun r h' => h' = .glob 1 112 limitsC :: .glob 2 234 firstC :: .glob 3 237 acceptC :: .glob 0 102 asksC :: [] ∧ r = .tup [.agg (verR (verO (finI h t x))), iv (atO (finI h t x)), bv (finI h t x).isSome]) := by
  refine acall_of_aw Tryz.func32 rfl rfl rfl ?_
  refine rn ?_
  refine aops_e rfl (oe_box rfl rfl rfl fun b3 => ?_)
  refine aops_e rfl (oe_alloc rfl fun b6 => ?_)
  refine rn ?_
  refine qv rfl rfl (qv_call rfl rfl (FCall.qt (FCall.of_fun (ixCheck h la)) ((pt2 _ _ _ _).trans (.cons _ ((pt2 _ _ _ _).trans (.cons _ ((pt2 _ _ _ _).trans (.cons _ (pt2 _ _ _ _))))))))) ?_
  refine rn ?_
  refine aw_cond rfl (fun hc13 => ?_) (fun hc13 => ?_)
  · have hc : checkI h ≠ 0 := by simpa using hc13
    refine aw_seq (aw_region ?_)
    refine qq rfl rfl (qr_build (out := [iv 0, iv 0]) rfl (by rfl)) ?_
    refine rn ?_
    exact retq (.cons _ _ _ _ (.agg _ _ _ _ _ _ _ rfl inferInstance inferInstance inferInstance rfl) (.cons _ _ _ _ (.tmp _ _ rfl) (.cons _ _ _ _ (.tmp _ _ rfl) .nil))) (.drop [_, _] _ _) ⟨rfl, by rw [finI, if_neg hc]; rfl⟩
  · have hc : checkI h = 0 := by simpa using hc13
    refine rn ?_
    refine qv rfl rfl (qv_call rfl rfl (FCall.of_fun (ixFin h (chk_evs hc) t x _))) ?_
    refine rn ?_
    refine aops_e rfl (oe_alloc rfl fun b9 => ?_)
    refine rn ?_
    refine aw_drawS 7 [(b6, 55, _)] rfl ((pt1 _ _ _).trans (List.perm_append_comm (l₁ := [_]))) ?_
    refine rn ?_
    refine dw 0 rfl rfl rfl rfl rfl (Nat.le_of_ble_eq_true rfl) ?_
    refine rn2 ?_
    show aops _ _ _ _ _ _ ⟨_, .box b6 55 (verR (finD h t x).1) :: .box b9 122 (fndR (finD h t x)) :: .box b3 28 (histC h) :: .glob 1 112 limitsC :: .glob 2 234 firstC :: .glob 3 237 acceptC :: .glob 0 102 asksC :: [], _⟩
    refine rn ?_
    exact retq (.cons _ _ _ _ (.agg _ _ _ _ _ _ _ rfl inferInstance inferInstance inferInstance rfl) (.cons _ _ _ _ (.tmp _ _ rfl) (.cons _ _ _ _ (.tmp _ _ rfl) .nil))) (.drop [_, _, _] _ _) ⟨rfl, by rw [finI, if_pos hc, ← finD_v, ← finD_a]; rfl⟩
end Go.Proofs
/- The walk of the index's Sights. Conditions: none. -/
set_option linter.unusedVariables false
set_option linter.unusedSimpArgs false
set_option maxRecDepth 10000
namespace Go.Proofs
open Go Go.Ab
attribute [local irreducible] QR QV OE aops aw dsoup dsoupM dalloc dallocM thn inBlk jsoup jch lsoup
open Go.H
end Go.Proofs
/- A loop over so many places, with what it reckons. Conditions: none. -/
set_option linter.unusedVariables false
namespace Go.Ab
open Go
section
variable {P : Program} {ro : Option Nat} {nt : Nat} {c : Code} {Q : Exit → St → Prop} {t : Fr} {h : List Res} {ds : List Nat}
theorem aw_rngS {σ : Type} (n : Nat) (p : Nat → σ → Prop) (v : Nat → σ → Fr) (cs : Fr) (x0 : σ) (hp : p 0 x0)
    (round : ∀ k x, k ≤ n → p k x → aw P ro nt c (thn (fun s' => k < n ∧ ∃ x', p (k + 1) x' ∧ Ent nt s' ⟨v (k + 1) x' ++ cs, h, ds⟩) Q) ⟨v k x ++ cs, h, ds⟩)
    (hs : SubF t (v 0 x0 ++ cs) := by repeat (first | exact .nil | refine .cons _ _ _ rfl ?_)) : aw P ro nt (.loop c) Q ⟨t, h, ds⟩ :=
  aw_loop' (fun x : Nat × σ => x.1 ≤ n ∧ p x.1 x.2) (fun x => ⟨v x.1 x.2 ++ cs, h, ds⟩) (fun x => n - x.1) (0, x0) ⟨Nat.zero_le _, hp⟩ (ent_sub hs) fun x hk => aw_mono (fun e s' hq => by
    cases e with
    | normal =>
      obtain ⟨h1, x', h2, h3⟩ := hq
      exact ⟨(x.1 + 1, x'), ⟨h1, h2⟩, h3, by simp only; omega⟩
    | _ => exact hq) (round x.1 x.2 hk.1 hk.2)
end
end Go.Ab
/- The walks of the references' small functions. Conditions: none. -/
set_option linter.unusedVariables false
set_option linter.unusedSimpArgs false
set_option maxRecDepth 10000
namespace Go.Proofs
open Go Go.Ab
attribute [local irreducible] QR QV OE aops aw dsoup dsoupM dalloc dallocM thn inBlk
open Go.H
theorem refScan {f g : Bool} (l m : List Seen) (hl : l.length ≤ 4611686018427387904) (hm : m.length ≤ 4611686018427387904) : ACall Tryz.prog 124 [.list f 3 (l.map seenR), .list g 3 (m.map seenR)] [] (fun r h' => h' = [] ∧ r = bv (eqF seenEq l m)) := by
  refine acall_of_aw Tryz.func124 rfl rfl rfl ?_
  refine rn ?_
  refine aw_cond rfl (fun hc10 => ?_) (fun hc10 => ?_)
  · refine rn ?_
    have hne : (l.length == m.length) = false := beq_eq_false_iff_ne.2 fun q => by simp [q] at hc10
    exact retq (.cons _ _ _ _ (.tmp _ _ rfl) .nil) (.refl _ _) ⟨rfl, by rw [eqF, hne, Bool.false_and]; rfl⟩
  · have hlm : l.length = m.length := by simp at hc10; omega
    refine rn ?_
    refine aw_loop' (fun k : Nat => k ≤ l.length ∧ zall seenEq l m = zall seenEq (l.drop k) (m.drop k)) (fun k => ⟨[(13, iv k), (12, iv (l.map seenR).length), (0, .list f 3 (l.map seenR)), (1, .list g 3 (m.map seenR))], [], []⟩) (fun k => l.length - k) 0 ⟨Nat.zero_le _, by simp⟩
      (ent_sub (.cons _ _ _ rfl (.cons _ _ _ rfl (.cons _ _ _ rfl (.cons _ _ _ rfl (.nil)))))) ?_
    rintro k ⟨hk, hz⟩
    refine rn ?_
    refine aw_cond rfl (fun hc14 => ?_) (fun hc14 => ?_)
    · have hk2 : k < l.length := by simpa using hc14
      have hk3 : k < m.length := by omega
      have hrow1 : (l.map seenR)[k]? = some (seenR l[k]) := by simp [hk2]
      have hrow2 : (m.map seenR)[k]? = some (seenR m[k]) := by simp [hk3]
      have hd1 := List.drop_eq_getElem_cons hk2
      have hd2 := List.drop_eq_getElem_cons hk3
      refine rn ?_
      refine aw_draw 8 rfl ?_
      refine rn ?_
      refine aw_cond rfl (fun hc24 => ?_) (fun hc24 => ?_)
      · refine rn ?_
        exact retq (.cons _ _ _ _ (.tmp _ _ rfl) .nil) (.refl _ _) ⟨rfl, by rw [eqF, hz, hd1, hd2, zall, show seenEq l[k] m[k] = false from not_t hc24, Bool.false_and, Bool.and_false]; rfl⟩
      · refine rn ?_
        exact ⟨k + 1, ⟨by omega, by rw [hz, hd1, hd2, zall, show seenEq l[k] m[k] = true from not_f hc24, Bool.true_and]⟩, (ent_sub (.cons _ _ _ rfl (.cons _ _ _ rfl (.cons _ _ _ rfl (.cons _ _ _ rfl (.nil)))))), by omega⟩
    · have hk3 : k = l.length := by
        have : l.length ≤ k := by simpa using hc14
        omega
      refine rn ?_
      exact retq (.cons _ _ _ _ (.tmp _ _ rfl) .nil) (.refl _ _) ⟨rfl, by rw [eqF, hz, hk3, List.drop_length, zall_nil, hlm, beq_self_eq_true]; rfl⟩
theorem refNames {f g : Bool} (l m : List ByteArray) (hl : l.length ≤ 4611686018427387904) (hm : m.length ≤ 4611686018427387904) : ACall Tryz.prog 73 [.list f 1 (l.map strR), .list g 1 (m.map strR)] [] (fun r h' => h' = [] ∧ r = bv (eqF strEq l m)) := by
  refine acall_of_aw Tryz.func73 rfl rfl rfl ?_
  refine rn ?_
  refine aw_cond rfl (fun hc10 => ?_) (fun hc10 => ?_)
  · refine rn ?_
    have hne : (l.length == m.length) = false := beq_eq_false_iff_ne.2 fun q => by simp [q] at hc10
    exact retq (.cons _ _ _ _ (.tmp _ _ rfl) .nil) (.refl _ _) ⟨rfl, by rw [eqF, hne, Bool.false_and]; rfl⟩
  · have hlm : l.length = m.length := by simp at hc10; omega
    refine rn ?_
    refine aw_loop' (fun k : Nat => k ≤ l.length ∧ zall strEq l m = zall strEq (l.drop k) (m.drop k)) (fun k => ⟨[(13, iv k), (12, iv (l.map strR).length), (0, .list f 1 (l.map strR)), (1, .list g 1 (m.map strR))], [], []⟩) (fun k => l.length - k) 0 ⟨Nat.zero_le _, by simp⟩
      (ent_sub (.cons _ _ _ rfl (.cons _ _ _ rfl (.cons _ _ _ rfl (.cons _ _ _ rfl (.nil)))))) ?_
    rintro k ⟨hk, hz⟩
    refine rn ?_
    refine aw_cond rfl (fun hc14 => ?_) (fun hc14 => ?_)
    · have hk2 : k < l.length := by simpa using hc14
      have hk3 : k < m.length := by omega
      have hrow1 : (l.map strR)[k]? = some (strR l[k]) := by simp [hk2]
      have hrow2 : (m.map strR)[k]? = some (strR m[k]) := by simp [hk3]
      have hd1 := List.drop_eq_getElem_cons hk2
      have hd2 := List.drop_eq_getElem_cons hk3
      refine rn ?_
      refine aw_draw 8 rfl ?_
      refine rn ?_
      refine aw_cond rfl (fun hc24 => ?_) (fun hc24 => ?_)
      · refine rn ?_
        exact retq (.cons _ _ _ _ (.tmp _ _ rfl) .nil) (.refl _ _) ⟨rfl, by rw [eqF, hz, hd1, hd2, zall, show strEq l[k] m[k] = false from not_t hc24, Bool.false_and, Bool.and_false]; rfl⟩
      · refine rn ?_
        exact ⟨k + 1, ⟨by omega, by rw [hz, hd1, hd2, zall, show strEq l[k] m[k] = true from not_f hc24, Bool.true_and]⟩, (ent_sub (.cons _ _ _ rfl (.cons _ _ _ rfl (.cons _ _ _ rfl (.cons _ _ _ rfl (.nil)))))), by omega⟩
    · have hk3 : k = l.length := by
        have : l.length ≤ k := by simpa using hc14
        omega
      refine rn ?_
      exact retq (.cons _ _ _ _ (.tmp _ _ rfl) .nil) (.refl _ _) ⟨rfl, by rw [eqF, hz, hk3, List.drop_length, zall_nil, hlm, beq_self_eq_true]; rfl⟩
theorem refNumbers {f g : Bool} (l m : List Int) (hl : l.length ≤ 4611686018427387904) (hm : m.length ≤ 4611686018427387904) : ACall Tryz.prog 75 [.list f 1 (l.map intR), .list g 1 (m.map intR)] [] (fun r h' => h' = [] ∧ r = bv (eqF intEq l m)) := by
  refine acall_of_aw Tryz.func75 rfl rfl rfl ?_
  refine rn ?_
  refine aw_cond rfl (fun hc10 => ?_) (fun hc10 => ?_)
  · refine rn ?_
    have hne : (l.length == m.length) = false := beq_eq_false_iff_ne.2 fun q => by simp [q] at hc10
    exact retq (.cons _ _ _ _ (.tmp _ _ rfl) .nil) (.refl _ _) ⟨rfl, by rw [eqF, hne, Bool.false_and]; rfl⟩
  · have hlm : l.length = m.length := by simp at hc10; omega
    refine rn ?_
    refine aw_loop' (fun k : Nat => k ≤ l.length ∧ zall intEq l m = zall intEq (l.drop k) (m.drop k)) (fun k => ⟨[(13, iv k), (12, iv (l.map intR).length), (0, .list f 1 (l.map intR)), (1, .list g 1 (m.map intR))], [], []⟩) (fun k => l.length - k) 0 ⟨Nat.zero_le _, by simp⟩
      (ent_sub (.cons _ _ _ rfl (.cons _ _ _ rfl (.cons _ _ _ rfl (.cons _ _ _ rfl (.nil)))))) ?_
    rintro k ⟨hk, hz⟩
    refine rn ?_
    refine aw_cond rfl (fun hc14 => ?_) (fun hc14 => ?_)
    · have hk2 : k < l.length := by simpa using hc14
      have hk3 : k < m.length := by omega
      have hrow1 : (l.map intR)[k]? = some (intR l[k]) := by simp [hk2]
      have hrow2 : (m.map intR)[k]? = some (intR m[k]) := by simp [hk3]
      have hd1 := List.drop_eq_getElem_cons hk2
      have hd2 := List.drop_eq_getElem_cons hk3
      refine rn ?_
      refine aw_draw 8 rfl ?_
      refine rn ?_
      refine aw_cond rfl (fun hc24 => ?_) (fun hc24 => ?_)
      · refine rn ?_
        exact retq (.cons _ _ _ _ (.tmp _ _ rfl) .nil) (.refl _ _) ⟨rfl, by rw [eqF, hz, hd1, hd2, zall, show intEq l[k] m[k] = false from not_t hc24, Bool.false_and, Bool.and_false]; rfl⟩
      · refine rn ?_
        exact ⟨k + 1, ⟨by omega, by rw [hz, hd1, hd2, zall, show intEq l[k] m[k] = true from not_f hc24, Bool.true_and]⟩, (ent_sub (.cons _ _ _ rfl (.cons _ _ _ rfl (.cons _ _ _ rfl (.cons _ _ _ rfl (.nil)))))), by omega⟩
    · have hk3 : k = l.length := by
        have : l.length ≤ k := by simpa using hc14
        omega
      refine rn ?_
      exact retq (.cons _ _ _ _ (.tmp _ _ rfl) .nil) (.refl _ _) ⟨rfl, by rw [eqF, hz, hk3, List.drop_length, zall_nil, hlm, beq_self_eq_true]; rfl⟩
theorem refIs (n m : Int) : ACall Tryz.prog 56 [iv n, iv m] [] (fun r h' => h' = [] ∧ r = bv (isB n m)) := by
  refine acall_of_aw Tryz.func56 rfl rfl rfl ?_
  refine rn ?_
  refine asplit (fun hg1_2 => ?_) (fun hg1_2 => ?_)
  · refine rn ?_
    exact retq (.cons _ _ _ _ (.tmp _ _ rfl) .nil) (.refl _ _) ⟨rfl, congrArg bv (by first | (simp only [isB, *, Bool.true_and, Bool.false_and, Bool.and_false, Bool.and_true, Bool.true_or, Bool.or_false, Bool.false_or, Bool.or_true, if_true, if_false, Bool.false_eq_true, Bool.not_true, Bool.not_false]; done) | (simp_all [isB]; done) | (simp_all [isB] <;> omega))⟩
  · refine rn ?_
    exact retq (.cons _ _ _ _ (.tmp _ _ rfl) .nil) (.refl _ _) ⟨rfl, congrArg bv (by first | (simp only [isB, *, Bool.true_and, Bool.false_and, Bool.and_false, Bool.and_true, Bool.true_or, Bool.or_false, Bool.false_or, Bool.or_true, if_true, if_false, Bool.false_eq_true, Bool.not_true, Bool.not_false]; done) | (simp_all [isB]; done) | (simp_all [isB] <;> omega))⟩
theorem refVersion (v : Ver) (m : Int) : ACall Tryz.prog 165 [.agg (verR v), iv m] [] (fun r h' => h' = [] ∧ r = bv (rightVer v m)) := by
  refine acall_of_aw Tryz.func165 rfl rfl rfl ?_
  refine rn ?_
  refine aops_e rfl (oe_box rfl rfl rfl fun b2 => ?_)
  refine rn ?_
  refine asplit (fun hg1_3 => ?_) (fun hg1_3 => ?_)
  · refine rn ?_
    exact retq (.cons _ _ _ _ (.tmp _ _ rfl) .nil) (.drop [_] _ _) ⟨rfl, congrArg bv (by first | (simp only [rightVer, *, Bool.true_and, Bool.false_and, Bool.and_false, Bool.and_true, Bool.true_or, Bool.or_false, Bool.false_or, Bool.or_true, if_true, if_false, Bool.false_eq_true, Bool.not_true, Bool.not_false]; done) | (simp_all [rightVer]; done) | (simp_all [rightVer] <;> omega))⟩
  · refine rn ?_
    refine qv rfl rfl (qv_call rfl rfl (pcall (refIs _ _) (Sbs.refl _))) ?_
    refine rn ?_
    refine asplit (fun hg1_8 => ?_) (fun hg1_8 => ?_)
    · refine rn ?_
      refine asplit (fun hg1_13 => ?_) (fun hg1_13 => ?_)
      · refine rn ?_
        exact retq (.cons _ _ _ _ (.tmp _ _ rfl) .nil) (.drop [_] _ _) ⟨rfl, congrArg bv (by first | (simp only [rightVer, *, Bool.true_and, Bool.false_and, Bool.and_false, Bool.and_true, Bool.true_or, Bool.or_false, Bool.false_or, Bool.or_true, if_true, if_false, Bool.false_eq_true, Bool.not_true, Bool.not_false]; done) | (simp_all [rightVer]; done) | (simp_all [rightVer] <;> omega))⟩
      · refine rn ?_
        exact retq (.cons _ _ _ _ (.tmp _ _ rfl) .nil) (.drop [_] _ _) ⟨rfl, congrArg bv (by first | (simp only [rightVer, *, Bool.true_and, Bool.false_and, Bool.and_false, Bool.and_true, Bool.true_or, Bool.or_false, Bool.false_or, Bool.or_true, if_true, if_false, Bool.false_eq_true, Bool.not_true, Bool.not_false]; done) | (simp_all [rightVer]; done) | (simp_all [rightVer] <;> omega))⟩
    · refine rn ?_
      exact retq (.cons _ _ _ _ (.tmp _ _ rfl) .nil) (.drop [_] _ _) ⟨rfl, congrArg bv (by first | (simp only [rightVer, *, Bool.true_and, Bool.false_and, Bool.and_false, Bool.and_true, Bool.true_or, Bool.or_false, Bool.false_or, Bool.or_true, if_true, if_false, Bool.false_eq_true, Bool.not_true, Bool.not_false]; done) | (simp_all [rightVer]; done) | (simp_all [rightVer] <;> omega))⟩
theorem refEvent (a b : Ev) (ha : a.scan.length ≤ 4611686018427387904) (hb : b.scan.length ≤ 4611686018427387904) : ACall Tryz.prog 74 [.agg (evR a), .agg (evR b)] [] (fun r h' => h' = [] ∧ r = bv (evEq a b)) := by
  refine acall_of_aw Tryz.func74 rfl rfl rfl ?_
  refine rn ?_
  refine aops_e rfl (oe_box rfl rfl rfl fun b2 => ?_)
  refine aops_e rfl (oe_box rfl rfl rfl fun b3 => ?_)
  refine rn ?_
  refine asplit (fun hg1_5 => ?_) (fun hg1_5 => ?_)
  · refine rn ?_
    refine asplit (fun hg1_12 => ?_) (fun hg1_12 => ?_)
    · refine rn ?_
      refine asplit (fun hg1_19 => ?_) (fun hg1_19 => ?_)
      · refine rn ?_
        refine asplit (fun hg1_26 => ?_) (fun hg1_26 => ?_)
        · refine rn ?_
          refine asplit (fun hg1_33 => ?_) (fun hg1_33 => ?_)
          · refine rn ?_
            refine asplit (fun hg1_40 => ?_) (fun hg1_40 => ?_)
            · refine rn ?_
              refine asplit (fun hg1_47 => ?_) (fun hg1_47 => ?_)
              · refine rn ?_
                refine qv rfl rfl (qv_call rfl rfl (pcall (refScan _ _ ha hb) (Sbs.refl _))) ?_
                refine rn ?_
                exact retq (.cons _ _ _ _ (.tmp _ _ rfl) .nil) (.drop [_, _] _ _) ⟨rfl, congrArg bv (by first | (simp only [evEq, *, Bool.true_and, Bool.false_and, Bool.and_false, Bool.and_true, Bool.true_or, Bool.or_false, Bool.false_or, Bool.or_true, if_true, if_false, Bool.false_eq_true, Bool.not_true, Bool.not_false]; done) | (simp_all [evEq]; done) | (simp_all [evEq] <;> omega))⟩
              · refine rn ?_
                exact retq (.cons _ _ _ _ (.tmp _ _ rfl) .nil) (.drop [_, _] _ _) ⟨rfl, congrArg bv (by first | (simp only [evEq, *, Bool.true_and, Bool.false_and, Bool.and_false, Bool.and_true, Bool.true_or, Bool.or_false, Bool.false_or, Bool.or_true, if_true, if_false, Bool.false_eq_true, Bool.not_true, Bool.not_false]; done) | (simp_all [evEq]; done) | (simp_all [evEq] <;> omega))⟩
            · refine rn ?_
              exact retq (.cons _ _ _ _ (.tmp _ _ rfl) .nil) (.drop [_, _] _ _) ⟨rfl, congrArg bv (by first | (simp only [evEq, *, Bool.true_and, Bool.false_and, Bool.and_false, Bool.and_true, Bool.true_or, Bool.or_false, Bool.false_or, Bool.or_true, if_true, if_false, Bool.false_eq_true, Bool.not_true, Bool.not_false]; done) | (simp_all [evEq]; done) | (simp_all [evEq] <;> omega))⟩
          · refine rn ?_
            exact retq (.cons _ _ _ _ (.tmp _ _ rfl) .nil) (.drop [_, _] _ _) ⟨rfl, congrArg bv (by first | (simp only [evEq, *, Bool.true_and, Bool.false_and, Bool.and_false, Bool.and_true, Bool.true_or, Bool.or_false, Bool.false_or, Bool.or_true, if_true, if_false, Bool.false_eq_true, Bool.not_true, Bool.not_false]; done) | (simp_all [evEq]; done) | (simp_all [evEq] <;> omega))⟩
        · refine rn ?_
          exact retq (.cons _ _ _ _ (.tmp _ _ rfl) .nil) (.drop [_, _] _ _) ⟨rfl, congrArg bv (by first | (simp only [evEq, *, Bool.true_and, Bool.false_and, Bool.and_false, Bool.and_true, Bool.true_or, Bool.or_false, Bool.false_or, Bool.or_true, if_true, if_false, Bool.false_eq_true, Bool.not_true, Bool.not_false]; done) | (simp_all [evEq]; done) | (simp_all [evEq] <;> omega))⟩
      · refine rn ?_
        exact retq (.cons _ _ _ _ (.tmp _ _ rfl) .nil) (.drop [_, _] _ _) ⟨rfl, congrArg bv (by first | (simp only [evEq, *, Bool.true_and, Bool.false_and, Bool.and_false, Bool.and_true, Bool.true_or, Bool.or_false, Bool.false_or, Bool.or_true, if_true, if_false, Bool.false_eq_true, Bool.not_true, Bool.not_false]; done) | (simp_all [evEq]; done) | (simp_all [evEq] <;> omega))⟩
    · refine rn ?_
      exact retq (.cons _ _ _ _ (.tmp _ _ rfl) .nil) (.drop [_, _] _ _) ⟨rfl, congrArg bv (by first | (simp only [evEq, *, Bool.true_and, Bool.false_and, Bool.and_false, Bool.and_true, Bool.true_or, Bool.or_false, Bool.false_or, Bool.or_true, if_true, if_false, Bool.false_eq_true, Bool.not_true, Bool.not_false]; done) | (simp_all [evEq]; done) | (simp_all [evEq] <;> omega))⟩
  · refine rn ?_
    exact retq (.cons _ _ _ _ (.tmp _ _ rfl) .nil) (.drop [_, _] _ _) ⟨rfl, congrArg bv (by first | (simp only [evEq, *, Bool.true_and, Bool.false_and, Bool.and_false, Bool.and_true, Bool.true_or, Bool.or_false, Bool.false_or, Bool.or_true, if_true, if_false, Bool.false_eq_true, Bool.not_true, Bool.not_false]; done) | (simp_all [evEq]; done) | (simp_all [evEq] <;> omega))⟩
theorem refAt {f : Bool} (l : List Int) (n : Int) (hl : l.length ≤ 4611686018427387904) : ACall Tryz.prog 116 [.list f 1 (l.map intR), iv n] [] (fun r h' => h' = [] ∧ r = iv (atI n 0 l)) := by
  refine acall_of_aw Tryz.func116 rfl rfl rfl ?_
  refine rn ?_
  refine aw_loop' (fun k : Nat => k ≤ l.length ∧ atI n 0 l = atI n k (l.drop k)) (fun k => ⟨[(9, iv k), (8, iv (l.map intR).length), (7, .list f 1 (l.map intR)), (1, iv n)], [], []⟩) (fun k => l.length - k) 0 ⟨Nat.zero_le _, by simp⟩
    (ent_sub (.cons _ _ _ rfl (.cons _ _ _ rfl (.cons _ _ _ rfl (.cons _ _ _ rfl (.nil)))))) ?_
  rintro k ⟨hk, hz⟩
  refine rn ?_
  refine aw_cond rfl (fun hc10 => ?_) (fun hc10 => ?_)
  · have hk2 : k < l.length := by simpa using hc10
    have hrow : (l.map intR)[k]? = some (intR l[k]) := by simp [hk2]
    have hd := List.drop_eq_getElem_cons hk2
    refine rn ?_
    refine aw_cond rfl (fun hc16 => ?_) (fun hc16 => ?_)
    · have hx : l[k] = n := by simpa using hc16
      refine rn ?_
      exact retq (.cons _ _ _ _ (.tmp _ _ rfl) .nil) (.refl _ _) ⟨rfl, congrArg iv (by rw [hz, hd, atI, if_pos hx])⟩
    · have hx : ¬ l[k] = n := by simpa using hc16
      refine rn ?_
      exact ⟨k + 1, ⟨by omega, by rw [hz, hd, atI, if_neg hx]⟩, (ent_sub (.cons _ _ _ rfl (.cons _ _ _ rfl (.cons _ _ _ rfl (.cons _ _ _ rfl (.nil)))))), by omega⟩
  · have hk3 : k = l.length := by
      have : l.length ≤ k := by simpa using hc10
      omega
    refine rn ?_
    exact retq (.cons _ _ _ _ (.tmp _ _ rfl) .nil) (.refl _ _) ⟨rfl, congrArg iv (by rw [hz, hk3, List.drop_length]; rfl)⟩
end Go.Proofs
/- The walks of the reference's Has, Committed, some, Writers. Conditions: none. -/
set_option linter.unusedVariables false
set_option linter.unusedSimpArgs false
set_option maxRecDepth 10000
namespace Go.Proofs
open Go Go.Ab
attribute [local irreducible] QR QV OE aops aw dsoup dsoupM dalloc dallocM thn inBlk jsoup jch lsoup
open Go.H
theorem refHas (h : Hist) (t c : Int) (la : Lim 4611686018427387904 h) : ACall Tryz.prog 131 [.agg (histC h), iv t, iv c] [] (fun r h' => h' = [] ∧ r = bv (hasB h.evs t c)) := by
  refine acall_of_aw Tryz.func131 rfl rfl rfl ?_
  refine rn ?_
  refine aops_e rfl (oe_box rfl rfl rfl fun b3 => ?_)
  refine rn ?_
  refine aw_rng (h.evs.length) (fun k : Nat => h.evs.all (fun e : Ev => !(e.t == t && e.kind == c)) = (h.evs.drop k).all (fun e : Ev => !(e.t == t && e.kind == c))) (fun k => [(12, iv k)]) [(1, _), (2, _), (10, _), (11, _)] rfl ?_
  intro k lk zk
  refine rn ?_
  refine aw_cond rfl (fun hc13 => ?_) (fun hc13 => ?_)
  · have hk := ltMap hc13
    have rk := atRow (f := evR) hk
    have bk := la.evs
    refine rn ?_
    refine aops_e rfl (oe_alloc rfl fun b8 => ?_)
    refine rn ?_
    refine asplit (fun hg4_4 => ?_) (fun hg4_4 => ?_)
    · refine rn ?_
      refine aw_cond rfl (fun hc25 => ?_) (fun hc25 => ?_)
      · refine rn ?_
        refine rq 2 ?_
        exact ⟨rfl, congrArg bv (by rw [hasB, allF hk (by simp_all)]; rfl)⟩
      · refine rn ?_
        exact ⟨hk, allT hk zk (by simp_all), eA⟩
    · refine rn ?_
      refine aw_cf rfl ?_
      refine rn ?_
      exact ⟨hk, allT hk zk (by simp_all), eA⟩
  · have qk := geMap hc13 lk
    have ak := allE qk zk
    refine rn ?_
    refine rq 1 ?_
    exact ⟨rfl, congrArg bv (by rw [hasB, ak]; rfl)⟩
theorem refComm (h : Hist) (t : Int) (la : Lim 4611686018427387904 h) : ACall Tryz.prog 78 [.agg (histC h), iv t] [] (fun r h' => h' = [] ∧ r = bv (hasB h.evs t 5)) := by
  refine acall_of_aw Tryz.func78 rfl rfl rfl ?_
  refine rn ?_
  refine aops_e rfl (oe_box rfl rfl rfl fun b2 => ?_)
  refine rn ?_
  refine qv rfl rfl (qv_call rfl rfl (pcall (refHas h t 5 la) (Sbs.refl _))) ?_
  refine rn ?_
  refine rq 1 ?_
  exact ⟨rfl, rfl⟩
theorem refSome (ts f : List Int) (hl : ts.length ≤ 4611686018427387904) (hm : f.length ≤ 4611686018427387904) : ACall Tryz.prog 166 [intsA ts, intsA f] [] (fun r h' => h' = [] ∧ r = bv (someR ts f)) := by
  refine acall_of_aw Tryz.func166 rfl rfl rfl ?_
  refine rn ?_
  refine aw_rng (ts.length) (fun k : Nat => SomeK ts f k) (fun k => [(9, iv k)]) [(0, _), (1, _), (7, _), (8, _)] (fun j _ h => absurd h (Nat.not_lt_zero _)) ?_
  intro k lk zk
  refine rn ?_
  refine aw_cond rfl (fun hc10 => ?_) (fun hc10 => ?_)
  · have hk := ltMap hc10
    have rk := atRow (f := intR) hk
    refine rn ?_
    refine qv rfl rfl (qv_call rfl rfl (pcall (refAt f ts[k] hm) (Sbs.refl _))) ?_
    refine rn ?_
    refine asplit (fun hg4_4 => ?_) (fun hg4_4 => ?_)
    · refine rn ?_
      refine aw_ct rfl ?_
      refine rn ?_
      refine rq 0 ?_
      exact ⟨rfl, congrArg bv (by rw [some_f hk (by first | exact .inl hg4_4 | exact .inr (by simpa using hc24))])⟩
    · refine rn ?_
      refine qv rfl rfl (qv_call rfl rfl (pcall (refAt ts ts[k] hl) (Sbs.refl _))) ?_
      refine rn ?_
      refine aw_cond rfl (fun hc24 => ?_) (fun hc24 => ?_)
      · refine rn ?_
        refine rq 0 ?_
        exact ⟨rfl, congrArg bv (by rw [some_f hk (by first | exact .inl hg4_4 | exact .inr (by simpa using hc24))])⟩
      · refine rn ?_
        exact ⟨hk, someK_s hk zk (by simp_all) (by simp_all), eA⟩
  · have qk := geMap hc10 lk
    refine rn ?_
    refine rq 0 ?_
    exact ⟨rfl, congrArg bv (by rw [some_t (qk ▸ zk)])⟩
theorem refWriters (h : Hist) (x : Int) (la : Lim 1000000 h) : ACall Tryz.prog 24 [.agg (histC h), iv x] [] (fun r h' => h' = [] ∧ r = intsA (writersR h x)) := by
  refine acall_of_aw Tryz.func24 rfl rfl rfl ?_
  have be := la.evs
  have bt := la.ts
  refine rn ?_
  refine aops_e rfl (oe_box rfl rfl rfl fun b2 => ?_)
  refine rn0 ?_
  refine aw_seq (aw_region ?_)
  refine rn0 ?_
  refine aw_seq ?_
  refine aw_seq ?_
  refine aw_ent (ent_nilrow 1 3) ?_
  refine rn ?_
  refine aw_rng1 h.ts.length (fun k s => ⟨[(13, iv k), (5, .v s.v), (1, iv x), (2, .v (.pointer (some ⟨b2, 0, none⟩))), (12, iv (h.ts.map strR).length)], .row s.v 1 3 ((writersK h x k).map intR) :: .box b2 28 (histC h) :: [], []⟩) ⟨none, 0, 0⟩ es ?_
  intro k s lk
  refine rn ?_
  refine aw_cond rfl (fun hc14 => ?_) (fun hc14 => ?_)
  · have hk := ltMap hc14
    have rk := atRow (f := strR) hk
    refine rn ?_
    refine aw_rngS h.evs.length (fun j wb => wb = (h.evs.take j).any (wroteQ k x)) (fun j wb => [(19, iv j), (7, bv wb)]) [(1, _), (2, _), (5, _), (6, _), (12, _), (13, _), (17, _), (18, _)] false rfl ?_
    intro j wb lj zj
    refine rn ?_
    refine aw_cond rfl (fun hc20 => ?_) (fun hc20 => ?_)
    · have hj := ltMap hc20
      have rj := atRow (f := evR) hj
      refine rn ?_
      refine aops_e rfl (oe_alloc rfl fun b9 => ?_)
      refine rn ?_
      refine asplit (fun hg9_1 => ?_) (fun hg9_1 => ?_)
      · refine rn ?_
        refine ⟨hj, _, ?_, eA⟩
        rw [any_step hj, ← zj]
        simp_all [wroteQ]
      · refine rn ?_
        refine asplit (fun hg9_5 => ?_) (fun hg9_5 => ?_)
        · refine rn ?_
          refine asplit (fun hg9_11 => ?_) (fun hg9_11 => ?_)
          · refine rn ?_
            refine ⟨hj, _, ?_, eA⟩
            rw [any_step hj, ← zj]
            simp_all [wroteQ]
          · refine rn ?_
            refine ⟨hj, _, ?_, eA⟩
            rw [any_step hj, ← zj]
            simp_all [wroteQ]
        · refine rn ?_
          refine ⟨hj, _, ?_, eA⟩
          rw [any_step hj, ← zj]
          simp_all [wroteQ]
    · have qj := geMap hc20 lj
      have wq : wb = h.evs.any (wroteQ k x) := by rw [zj, qj, List.take_length]
      refine rn ?_
      refine asplit (fun hg11_1 => ?_) (fun hg11_1 => ?_)
      · refine rn ?_
        refine qv rfl rfl (qv_call rfl rfl (pcall (refComm h k (la.mono (by decide))) (Sbs.refl _))) ?_
        refine rn ?_
        refine aw_cond rfl (fun hc47 => ?_) (fun hc47 => ?_)
        · refine rn ?_
          refine qv rfl rfl (qv_buildSlice rfl rfl) ?_
          refine aops_e rfl (oe_append_row rfl rfl (by simp only [List.length_map]; have := writersK_len h x k; simp; omega) rfl (fun s51 => ?_) (one_int [(k : Int)]))
          refine aops_slice s51 fun sv hsv => ?_
          subst hsv
          refine rn ?_
          first | exact ⟨hk, sv, by rw [writersK_t (by simp_all) (by simp_all), List.map_append]; exact eA⟩ | exact ⟨hk, s, by rw [writersK_f (by simp_all)]; exact eA⟩
        · refine rn ?_
          first | exact ⟨hk, sv, by rw [writersK_t (by simp_all) (by simp_all), List.map_append]; exact eA⟩ | exact ⟨hk, s, by rw [writersK_f (by simp_all)]; exact eA⟩
      · refine rn ?_
        refine aw_cf rfl ?_
        refine rn ?_
        first | exact ⟨hk, sv, by rw [writersK_t (by simp_all) (by simp_all), List.map_append]; exact eA⟩ | exact ⟨hk, s, by rw [writersK_f (by simp_all)]; exact eA⟩
  · have qk := geMap hc14 lk
    refine rn ?_
    exact retq (.cons _ _ _ _ (.tmp _ _ rfl) .nil) (.trans vent_freeze (.drop1 _ _ _)) ⟨rfl, by rw [qk, writersK_all]; rfl⟩
end Go.Proofs
/- The walks of the reference's rules of rows. Conditions: none. -/
set_option linter.unusedVariables false
set_option linter.unusedSimpArgs false
set_option maxRecDepth 10000
namespace Go.Proofs
open Go Go.Ab
attribute [local irreducible] QR QV OE aops aw dsoup dsoupM dalloc dallocM thn inBlk jsoup jch lsoup
open Go.H
theorem refOrder (h : Hist) (i : Nat) (hi : i < h.ords.length) (la : Lim 1000000 h) : ACall Tryz.prog 125 [.agg (histC h), iv i] [] (fun r h' => h' = [] ∧ r = bv (orderR h i h.ords[i])) := by
  refine acall_of_aw Tryz.func125 rfl rfl rfl ?_
  have ri := atRow (f := ordR) hi
  have bo := la.ords
  have si := la.ordts h.ords[i] (List.getElem_mem hi)
  refine rn ?_
  refine aops_e rfl (oe_box rfl rfl rfl fun b2 => ?_)
  refine rn ?_
  refine aops_e rfl (oe_alloc rfl fun b5 => ?_)
  first | refine aops_e rfl (oe_store_all rfl rfl rfl ?_) | refine aops_e rfl (oe_store rfl rfl rfl rfl (Nat.le_of_ble_eq_true rfl) ?_)
  refine aops_nil (thn_n ?_)
  refine aw_seq ?_
  refine aw_seq (aw_region ?_)
  refine q1 ?_
  refine q1 ?_
  refine q1 ?_
  refine qq rfl rfl (qr_slice_h (k := i) rfl rfl (by simp; omega)) ?_
  rw [← List.map_take]
  refine rn ?_
  refine aw_rng ((h.ords.take i).length) (fun j : Nat => (h.ords.take i).all (fun p : Ord => !(p.o == h.ords[i].o)) = ((h.ords.take i).drop j).all (fun p : Ord => !(p.o == h.ords[i].o))) (fun j => [(19, iv j)]) [(2, _), (5, _), (17, _), (18, _)] rfl ?_
  intro j lj zj
  refine rn ?_
  refine aw_cond rfl (fun hc20 => ?_) (fun hc20 => ?_)
  · have hj := ltMap hc20
    have rj := atRow (f := ordR) hj
    have bj : (h.ords.take i).length ≤ 4611686018427387904 := by simp; omega
    refine rn ?_
    refine aops_e rfl (oe_alloc rfl fun b7 => ?_)
    refine rn ?_
    refine aw_cond rfl (fun hc27 => ?_) (fun hc27 => ?_)
    · refine rn ?_
      refine rq 3 ?_
      exact ⟨rfl, congrArg bv (by rw [orderR_t (allF hj (by simpa using hc27))])⟩
    · refine rn ?_
      exact ⟨hj, allT hj zj (by simpa using hc27), eA⟩
  · have qj := geMap hc20 lj
    have aj := allE qj zj
    refine rn ?_
    refine qv rfl rfl (qv_call rfl rfl (pcall (refWriters h h.ords[i].o la) (Sbs.refl _))) ?_
    refine rn ?_
    refine qv rfl rfl (qv_call rfl rfl (pcall (refSome h.ords[i].ts (writersR h h.ords[i].o) (Nat.le_trans si (by decide)) (Nat.le_trans (writersR_le _ _) (Nat.le_trans la.ts (by decide)))) (Sbs.refl _))) ?_
    refine rn ?_
    refine asplit (fun hg9_5 => ?_) (fun hg9_5 => ?_)
    · refine rn ?_
      refine rq 2 ?_
      exact ⟨rfl, congrArg bv (by rw [orderR_f aj]; simp_all)⟩
    · refine rn ?_
      refine qv rfl rfl (qv_call rfl rfl (pcall (refSome (writersR h h.ords[i].o) h.ords[i].ts (Nat.le_trans (writersR_le _ _) (Nat.le_trans la.ts (by decide))) (Nat.le_trans si (by decide))) (Sbs.refl _))) ?_
      refine rn ?_
      refine rq 2 ?_
      exact ⟨rfl, congrArg bv (by rw [orderR_f aj]; simp_all)⟩
theorem refMissing (h : Hist) (x : Int) (la : Lim 1000000 h) : ACall Tryz.prog 126 [.agg (histC h), iv x] [] (fun r h' => h' = [] ∧ r = bv (missR h x)) := by
  refine acall_of_aw Tryz.func126 rfl rfl rfl ?_
  refine rn ?_
  refine aops_e rfl (oe_box rfl rfl rfl fun b2 => ?_)
  refine rn ?_
  refine aw_rng (h.ords.length) (fun j : Nat => h.ords.all (fun p : Ord => !(p.o == x)) = (h.ords.drop j).all (fun p : Ord => !(p.o == x))) (fun j => [(10, iv j)]) [(1, _), (2, _), (8, _), (9, _)] rfl ?_
  intro j lj zj
  refine rn ?_
  refine aw_cond rfl (fun hc11 => ?_) (fun hc11 => ?_)
  · have hj := ltMap hc11
    have rj := atRow (f := ordR) hj
    have bo := la.ords
    refine rn ?_
    refine aops_e rfl (oe_alloc rfl fun b6 => ?_)
    refine rn ?_
    refine aw_cond rfl (fun hc17 => ?_) (fun hc17 => ?_)
    · refine rn ?_
      refine rq 2 ?_
      exact ⟨rfl, congrArg bv (by rw [missR_t (allF hj (by simpa using hc17))])⟩
    · refine rn ?_
      exact ⟨hj, allT hj zj (by simpa using hc17), eA⟩
  · have qj := geMap hc11 lj
    have aj := allE qj zj
    refine rn ?_
    refine qv rfl rfl (qv_call rfl rfl (pcall (refWriters h x la) (Sbs.refl _))) ?_
    refine rn ?_
    refine rq 1 ?_
    exact ⟨rfl, congrArg bv (by rw [missR_f aj]; simp; omega)⟩
theorem refMatch (h : Hist) (i : Nat) (hi : i < h.mats.length) (la : Lim 1000000 h) : ACall Tryz.prog 127 [.agg (histC h), iv i] [] (fun r h' => h' = [] ∧ r = bv (matchR h i h.mats[i])) := by
  refine acall_of_aw Tryz.func127 rfl rfl rfl ?_
  have ri := atRow (f := matR) hi
  have bo := la.mats
  have si := la.matts h.mats[i] (List.getElem_mem hi)
  refine rn ?_
  refine aops_e rfl (oe_box rfl rfl rfl fun b2 => ?_)
  refine rn ?_
  refine aops_e rfl (oe_alloc rfl fun b5 => ?_)
  first | refine aops_e rfl (oe_store_all rfl rfl rfl ?_) | refine aops_e rfl (oe_store rfl rfl rfl rfl (Nat.le_of_ble_eq_true rfl) ?_)
  refine aops_nil (thn_n ?_)
  refine aw_seq ?_
  refine aw_seq (aw_region ?_)
  refine q1 ?_
  refine q1 ?_
  refine q1 ?_
  refine qq rfl rfl (qr_slice_h (k := i) rfl rfl (by simp; omega)) ?_
  rw [← List.map_take]
  refine rn ?_
  refine aw_rng ((h.mats.take i).length) (fun j : Nat => (h.mats.take i).all (fun p : Mat => !(p.p == h.mats[i].p && p.o == h.mats[i].o)) = ((h.mats.take i).drop j).all (fun p : Mat => !(p.p == h.mats[i].p && p.o == h.mats[i].o))) (fun j => [(18, iv j)]) [(2, _), (5, _), (16, _), (17, _)] rfl ?_
  intro j lj zj
  refine rn ?_
  refine aw_cond rfl (fun hc19 => ?_) (fun hc19 => ?_)
  · have hj := ltMap hc19
    have rj := atRow (f := matR) hj
    have bj : (h.mats.take i).length ≤ 4611686018427387904 := by simp; omega
    refine rn ?_
    refine aops_e rfl (oe_alloc rfl fun b7 => ?_)
    refine rn ?_
    refine asplit (fun hg5_5 => ?_) (fun hg5_5 => ?_)
    · refine rn ?_
      refine aw_cond rfl (fun hc33 => ?_) (fun hc33 => ?_)
      · refine rn ?_
        refine rq 3 ?_
        exact ⟨rfl, congrArg bv (by rw [matchR_t (allF hj (by simp_all))])⟩
      · refine rn ?_
        exact ⟨hj, allT hj zj (by simp_all), eA⟩
    · refine rn ?_
      refine aw_cf rfl ?_
      refine rn ?_
      exact ⟨hj, allT hj zj (by simp_all), eA⟩
  · have qj := geMap hc19 lj
    have aj := allE qj zj
    refine rn ?_
    refine aw_draw 6 rfl ?_
    refine rn ?_
    refine dv rfl rfl (by exact qv_call rfl rfl (pcall (refWriters h h.mats[i].o la) (Sbs.refl _))) ?_
    refine rn ?_
    refine qv rfl rfl (qv_call rfl rfl (pcall (refSome h.mats[i].ts (writersR h h.mats[i].o) (Nat.le_trans si (by decide)) (Nat.le_trans (writersR_le _ _) (Nat.le_trans la.ts (by decide)))) (Sbs.refl _))) ?_
    refine rn ?_
    refine rq 2 ?_
    exact ⟨rfl, congrArg bv (by rw [matchR_f aj])⟩
theorem refWant (h : Hist) (i : Nat) (hi : i < h.wants.length) (la : Lim 1000000 h) : ACall Tryz.prog 128 [.agg (histC h), iv i] [] (fun r h' => h' = [] ∧ r = bv (wantW h i h.wants[i])) := by
  refine acall_of_aw Tryz.func128 rfl rfl rfl ?_
  have ri := atRow (f := wanR) hi
  have bo := la.wants
  refine rn ?_
  refine aops_e rfl (oe_box rfl rfl rfl fun b2 => ?_)
  refine q1 ?_
  refine aops_nil (thn_n ?_)
  refine aw_seq ?_
  refine aw_seq (aw_region ?_)
  refine q1 ?_
  refine q1 ?_
  refine q1 ?_
  refine qq rfl rfl (qr_slice_h (k := i) rfl rfl (by simp; omega)) ?_
  rw [← List.map_take]
  refine rn ?_
  refine aw_rng ((h.wants.take i).length) (fun j : Nat => (h.wants.take i).all (fun p : Wan => !(p.s == h.wants[i].s)) = ((h.wants.take i).drop j).all (fun p : Wan => !(p.s == h.wants[i].s))) (fun j => [(14, iv j)]) [(1, _), (2, _), (12, _), (13, _)] rfl ?_
  intro j lj zj
  refine rn ?_
  refine aw_cond rfl (fun hc15 => ?_) (fun hc15 => ?_)
  · have hj := ltMap hc15
    have rj := atRow (f := wanR) hj
    have bj : (h.wants.take i).length ≤ 4611686018427387904 := by simp; omega
    refine rn ?_
    refine aops_e rfl (oe_alloc rfl fun b6 => ?_)
    refine rn ?_
    refine aw_draw 8 rfl ?_
    refine rn ?_
    refine aw_cond rfl (fun hc26 => ?_) (fun hc26 => ?_)
    · refine rn ?_
      refine rq 2 ?_
      exact ⟨rfl, congrArg bv (by rw [wantW_t (allF hj (by simpa using hc26))])⟩
    · refine rn ?_
      exact ⟨hj, allT hj zj (by simpa using hc26), eA⟩
  · have qj := geMap hc15 lj
    have aj := allE qj zj
    refine rn ?_
    refine aw_rng (h.evs.length) (fun k : Nat => h.evs.all (fun e : Ev => !(e.kind == 1 && e.s == h.wants[i].s)) = (h.evs.drop k).all (fun e : Ev => !(e.kind == 1 && e.s == h.wants[i].s))) (fun k => [(31, iv k)]) [(1, _), (2, _), (29, _), (30, _)] rfl ?_
    intro k lk zk
    refine rn ?_
    refine aw_cond rfl (fun hc32 => ?_) (fun hc32 => ?_)
    · have hk := ltMap hc32
      have rk := atRow (f := evR) hk
      have bk := la.evs
      refine rn ?_
      refine aops_e rfl (oe_alloc rfl fun b8 => ?_)
      refine rn ?_
      refine aw_draw 12 rfl ?_
      refine rn ?_
      refine dsplit (fun hg10_3 => ?_) (fun hg10_3 => ?_)
      · refine rn ?_
        refine aw_cond rfl (fun hc48 => ?_) (fun hc48 => ?_)
        · refine rn ?_
          refine rq 2 ?_
          exact ⟨rfl, congrArg bv (by rw [wantW_f aj (allF hk (by simp_all))])⟩
        · refine rn ?_
          exact ⟨hk, allT hk zk (by simp_all), eA⟩
      · refine rn ?_
        refine aw_cf rfl ?_
        refine rn ?_
        exact ⟨hk, allT hk zk (by simp_all), eA⟩
    · have qk := geMap hc32 lk
      have ak := allE qk zk
      refine rn ?_
      refine rq 1 ?_
      exact ⟨rfl, congrArg bv (by rw [wantW_f aj ak])⟩
end Go.Proofs
/- The walks of the reference's Seen, wrote. Conditions: none. -/
set_option linter.unusedVariables false
set_option linter.unusedSimpArgs false
set_option maxRecDepth 10000
namespace Go.Proofs
open Go Go.Ab
attribute [local irreducible] QR QV OE aops aw dsoup dsoupM dalloc dallocM thn inBlk jsoup jch lsoup
open Go.H
theorem refSeen (e : Ev) : ACall Tryz.prog 63 [.agg (evR e)] [] (fun r h' => h' = [] ∧ r = seensA (seenOf e)) := by
  refine acall_of_aw Tryz.func63 rfl rfl rfl ?_
  refine rn ?_
  refine aops_e rfl (oe_box rfl rfl rfl fun b1 => ?_)
  refine rn ?_
  refine aw_cond rfl (fun hc5 => ?_) (fun hc5 => ?_)
  · refine rn ?_
    refine qv rfl rfl (qv_buildSlice rfl rfl) ?_
    refine rn ?_
    exact retq (.cons _ _ _ _ (.tmp _ _ rfl) .nil) (.trans (.drop [_] _ _) (.le Sb.unfull.le)) ⟨rfl, by rw [seenOf, if_pos (by simpa using hc5)]; rfl⟩
  · refine rn ?_
    refine rq 1 ?_
    exact ⟨rfl, by rw [seenOf, if_neg (by simpa using hc5)]; rfl⟩
theorem refWrote (l : List Ev) (t x : Int) (la : l.length ≤ 1000000) : ACall Tryz.prog 167 [evsA l, iv t, iv x] [] (fun r h' => h' = [] ∧ r = evsA (wroteL l t x)) := by
  refine acall_of_aw Tryz.func167 rfl rfl rfl ?_
  refine aw_seq (aw_region ?_)
  refine rn0 ?_
  refine aw_seq (aw_region ?_)
  refine rn0 ?_
  refine aw_seq ?_
  refine aw_seq ?_
  refine aw_ent (ent_nilrow 9 72) ?_
  refine rn ?_
  refine aw_rng1 l.length (fun k s => ⟨[(12, iv k), (7, .v s.v), (1, iv t), (2, iv x), (10, evsA l), (11, iv (l.map evR).length)], .row s.v 9 72 ((wroteL (l.take k) t x).map evR) :: [], []⟩) ⟨none, 0, 0⟩ es ?_
  intro k s lk
  refine rn ?_
  refine aw_cond rfl (fun hc13 => ?_) (fun hc13 => ?_)
  · have hk := ltMap hc13
    have rk := atRow (f := evR) hk
    refine rn ?_
    refine aops_e rfl (oe_alloc rfl fun b9 => ?_)
    refine rn ?_
    refine asplit (fun hg5_3 => ?_) (fun hg5_3 => ?_)
    · refine rn ?_
      refine asplit (fun hg5_9 => ?_) (fun hg5_9 => ?_)
      · refine rn ?_
        refine aw_cond rfl (fun hc30 => ?_) (fun hc30 => ?_)
        · refine rn ?_
          refine qv rfl rfl (qv_buildSlice rfl rfl) ?_
          refine aops_e rfl (oe_append_row rfl rfl (by simp only [List.length_map]; have := wrote_le l t x k; simp; omega) rfl (fun s34 => ?_) (one_ev [l[k]]))
          refine aops_slice s34 fun sv hsv => ?_
          subst hsv
          refine rn ?_
          first | exact ⟨hk, sv, by rw [wrote_t hk (by simp_all), List.map_append]; exact eA⟩ | exact ⟨hk, s, by rw [wrote_f hk (by simp_all)]; exact eA⟩
        · refine rn ?_
          first | exact ⟨hk, sv, by rw [wrote_t hk (by simp_all), List.map_append]; exact eA⟩ | exact ⟨hk, s, by rw [wrote_f hk (by simp_all)]; exact eA⟩
      · refine rn ?_
        refine aw_cf rfl ?_
        refine rn ?_
        first | exact ⟨hk, sv, by rw [wrote_t hk (by simp_all), List.map_append]; exact eA⟩ | exact ⟨hk, s, by rw [wrote_f hk (by simp_all)]; exact eA⟩
    · refine rn ?_
      refine aw_cf rfl ?_
      refine rn ?_
      first | exact ⟨hk, sv, by rw [wrote_t hk (by simp_all), List.map_append]; exact eA⟩ | exact ⟨hk, s, by rw [wrote_f hk (by simp_all)]; exact eA⟩
  · have qk := geMap hc13 lk
    refine rn ?_
    exact retq (.cons _ _ _ _ (.tmp _ _ rfl) .nil) vent_freeze ⟨rfl, by rw [qk, List.take_length]; rfl⟩
end Go.Proofs
/- The walk of the reference's event. Conditions: none. -/
set_option linter.unusedVariables false
set_option linter.unusedSimpArgs false
set_option maxRecDepth 10000
namespace Go.Proofs
open Go Go.Ab
attribute [local irreducible] QR QV OE aops aw dsoup dsoupM dalloc dallocM thn inBlk jsoup jch lsoup
open Go.H
set_option maxHeartbeats 4000000 in
theorem refEvent15 (rl : Nat) (e : Ev) (l : List Ev) (h1 : 1 ≤ rl) (h6 : rl ≤ 6) (la : l.length ≤ 1000000) (hl : e.scan.length ≤ 1000000) : ACall Tryz.prog 129 [iv rl, .agg (evR e), evsA l] [] (fun r h' => h' = [] ∧ r = bv (wrongR rl e l)) := by
  refine acall_of_aw Tryz.func129 rfl rfl rfl ?_
  refine rn ?_
  refine aops_e rfl (oe_box rfl rfl rfl fun b4 => ?_)
  refine rn ?_
  refine aw_rngS l.length (fun j x => x.1 = (l.take j).any (fun y : Ev => y.t == e.t && y.kind == 1) ∧ x.2 = (l.take j).any (fun y : Ev => y.t == e.t && (y.kind == 5 || y.kind == 6))) (fun j x => [(21, iv j), (7, bv x.1), (8, bv x.2)]) [(0, _), (2, _), (4, _), (19, _), (20, _)] (false, false) ⟨rfl, rfl⟩ ?_
  rintro j ⟨bg, ov⟩ lj ⟨zb, zo⟩
  refine rn ?_
  refine aw_cond rfl (fun hc22 => ?_) (fun hc22 => ?_)
  · have hj := ltMap hc22
    have rj := atRow (f := evR) hj
    refine rn ?_
    refine aops_e rfl (oe_alloc rfl fun b10 => ?_)
    refine rn ?_
    refine aw_cond rfl (fun hc29 => ?_) (fun hc29 => ?_)
    · refine rn ?_
      refine asplit (fun hg6_1 => ?_) (fun hg6_1 => ?_)
      · refine rn ?_
        refine asplit (fun hg7_1 => ?_) (fun hg7_1 => ?_)
        · refine rn ?_
          refine ⟨hj, (_, _), ?_, eA⟩
          rw [any_step hj, any_step hj]
          generalize (l.take j).any (fun y : Ev => y.t == e.t && y.kind == 1) = A at *
          generalize (l.take j).any (fun y : Ev => y.t == e.t && (y.kind == 5 || y.kind == 6)) = B at *
          simp_all
        · refine rn ?_
          refine asplit (fun hg7_6 => ?_) (fun hg7_6 => ?_)
          · refine rn ?_
            refine ⟨hj, (_, _), ?_, eA⟩
            rw [any_step hj, any_step hj]
            generalize (l.take j).any (fun y : Ev => y.t == e.t && y.kind == 1) = A at *
            generalize (l.take j).any (fun y : Ev => y.t == e.t && (y.kind == 5 || y.kind == 6)) = B at *
            simp_all
          · refine rn ?_
            refine ⟨hj, (_, _), ?_, eA⟩
            rw [any_step hj, any_step hj]
            generalize (l.take j).any (fun y : Ev => y.t == e.t && y.kind == 1) = A at *
            generalize (l.take j).any (fun y : Ev => y.t == e.t && (y.kind == 5 || y.kind == 6)) = B at *
            simp_all
      · refine rn ?_
        refine asplit (fun hg7_1 => ?_) (fun hg7_1 => ?_)
        · refine rn ?_
          refine ⟨hj, (_, _), ?_, eA⟩
          rw [any_step hj, any_step hj]
          generalize (l.take j).any (fun y : Ev => y.t == e.t && y.kind == 1) = A at *
          generalize (l.take j).any (fun y : Ev => y.t == e.t && (y.kind == 5 || y.kind == 6)) = B at *
          simp_all
        · refine rn ?_
          refine asplit (fun hg7_6 => ?_) (fun hg7_6 => ?_)
          · refine rn ?_
            refine ⟨hj, (_, _), ?_, eA⟩
            rw [any_step hj, any_step hj]
            generalize (l.take j).any (fun y : Ev => y.t == e.t && y.kind == 1) = A at *
            generalize (l.take j).any (fun y : Ev => y.t == e.t && (y.kind == 5 || y.kind == 6)) = B at *
            simp_all
          · refine rn ?_
            refine ⟨hj, (_, _), ?_, eA⟩
            rw [any_step hj, any_step hj]
            generalize (l.take j).any (fun y : Ev => y.t == e.t && y.kind == 1) = A at *
            generalize (l.take j).any (fun y : Ev => y.t == e.t && (y.kind == 5 || y.kind == 6)) = B at *
            simp_all
    · refine rn ?_
      refine ⟨hj, (_, _), ?_, eA⟩
      rw [any_step hj, any_step hj]
      generalize (l.take j).any (fun y : Ev => y.t == e.t && y.kind == 1) = A at *
      generalize (l.take j).any (fun y : Ev => y.t == e.t && (y.kind == 5 || y.kind == 6)) = B at *
      simp_all
  · have qj := geMap hc22 lj
    have zB : bg = begunB l e.t := by rw [begunB_eq, begunL]; simpa [qj] using zb
    have zO : ov = overB l e.t := by rw [overB]; simpa [qj] using zo
    refine rn ?_
    refine aw_cond rfl (fun hc49 => ?_) (fun hc49 => ?_)
    · have e1 : rl = 1 := by have h := hc49; simp at h; omega
      refine rn ?_
      refine asplit (fun hg11_1 => ?_) (fun hg11_1 => ?_)
      · refine rn ?_
        refine asplit (fun hg11_6 => ?_) (fun hg11_6 => ?_)
        · refine rn ?_
          refine rq 1 ?_
          exact ⟨rfl, congrArg bv (by subst e1; show _ = (begunB l e.t && e.kind == 1 || !begunB l e.t && e.kind != 1); rw [← zB]; clear zb zo zB zO; simp_all)⟩
        · refine rn ?_
          refine asplit (fun hg11_9 => ?_) (fun hg11_9 => ?_)
          · refine rn ?_
            refine rq 1 ?_
            exact ⟨rfl, congrArg bv (by subst e1; show _ = (begunB l e.t && e.kind == 1 || !begunB l e.t && e.kind != 1); rw [← zB]; clear zb zo zB zO; simp_all)⟩
          · refine rn ?_
            refine rq 1 ?_
            exact ⟨rfl, congrArg bv (by subst e1; show _ = (begunB l e.t && e.kind == 1 || !begunB l e.t && e.kind != 1); rw [← zB]; clear zb zo zB zO; simp_all)⟩
      · refine rn ?_
        refine asplit (fun hg11_9 => ?_) (fun hg11_9 => ?_)
        · refine rn ?_
          refine rq 1 ?_
          exact ⟨rfl, congrArg bv (by subst e1; show _ = (begunB l e.t && e.kind == 1 || !begunB l e.t && e.kind != 1); rw [← zB]; clear zb zo zB zO; simp_all)⟩
        · refine rn ?_
          refine rq 1 ?_
          exact ⟨rfl, congrArg bv (by subst e1; show _ = (begunB l e.t && e.kind == 1 || !begunB l e.t && e.kind != 1); rw [← zB]; clear zb zo zB zO; simp_all)⟩
    · have n1 : rl ≠ 1 := by intro h; subst h; exact absurd hc49 (by decide)
      refine rn ?_
      refine aw_cond rfl (fun hc66 => ?_) (fun hc66 => ?_)
      · have e2 : rl = 2 := by have h := hc66; simp at h; omega
        refine rn ?_
        refine rq 1 ?_
        exact ⟨rfl, congrArg bv (by subst e2; show _ = overB l e.t; rw [← zO])⟩
      · have n2 : rl ≠ 2 := by intro h; subst h; exact absurd hc66 (by decide)
        refine rn ?_
        refine aw_cond rfl (fun hc69 => ?_) (fun hc69 => ?_)
        · have e3 : rl = 3 := by have h := hc69; simp at h; omega
          refine rn ?_
          refine aw_draw 15 rfl ?_
          refine rn ?_
          refine dsplit (fun hg15_3 => ?_) (fun hg15_3 => ?_)
          · refine rn ?_
            refine dv rfl rfl (by exact qv_call rfl rfl (pcall (refWrote l e.t e.o la) (Sbs.refl _))) ?_
            refine dq rfl rfl qrA ?_
            first | refine ds rfl rfl ?_ | refine dq rfl rfl (qr_ari rfl rfl rfl (by rw [List.length_map]; have := wroteL_le l e.t e.o; omega)) ?_
            refine rn ?_
            refine rq 1 ?_
            exact ⟨rfl, congrArg bv (by subst e3; simp_all [wrongR])⟩
          · refine rn ?_
            refine rq 1 ?_
            exact ⟨rfl, congrArg bv (by subst e3; simp_all [wrongR])⟩
        · have n3 : rl ≠ 3 := by intro h; subst h; exact absurd hc69 (by decide)
          refine rn ?_
          refine qv rfl rfl (qv_call rfl rfl (pcall (refSeen e) (Sbs.refl _))) ?_
          refine rn ?_
          refine aw_rng ((seenOf e).length) (fun k : Nat => OkS rl e l k) (fun k => [(91, iv k)]) [(0, _), (2, _), (4, _), (89, _), (90, _)] (fun i _ h => absurd h (Nat.not_lt_zero _)) ?_
          intro k lk zk
          refine rn ?_
          refine aw_cond rfl (fun hc92 => ?_) (fun hc92 => ?_)
          · have hk := ltMap hc92
            have rk := atRow (f := seenR) hk
            have sl := seenOf_len (e := e) (Nat.le_trans hl (by decide))
            refine rn ?_
            refine aops_e rfl (oe_alloc rfl fun b12 => ?_)
            refine rn ?_
            refine qv rfl rfl (qv_call rfl rfl (pcall (refWrote l e.t (seenOf e)[k].o la) (Sbs.refl _))) ?_
            refine rn ?_
            refine aw_rngS l.length (fun m x => x = ((seenOf e)[k].v.k == 0 || (l.take m).any (fun y : Ev => y.kind == 2 && y.o == (seenOf e)[k].o && y.v == (seenOf e)[k].v))) (fun m x => [(108, iv m), (14, bv x)]) [(0, _), (2, _), (4, _), (11, _), (12, _), (13, _), (89, _), (90, _), (91, _), (106, _), (107, _)] ((seenOf e)[k].v.k == 0) (by simp) ?_
            intro m th lm zm
            refine rn ?_
            refine aw_cond rfl (fun hc109 => ?_) (fun hc109 => ?_)
            · have hm := ltMap hc109
              have rm := atRow (f := evR) hm
              refine rn ?_
              refine aops_e rfl (oe_alloc rfl fun b16 => ?_)
              refine rn ?_
              refine asplit (fun hg24_1 => ?_) (fun hg24_1 => ?_)
              · refine rn ?_
                refine ⟨hm, _, ?_, eA⟩
                try rw [ver_list]
                rw [any_step hm]
                generalize (l.take m).any (fun y : Ev => y.kind == 2 && y.o == (seenOf e)[k].o && y.v == (seenOf e)[k].v) = A at *
                generalize ((seenOf e)[k].v.k == 0) = B at *
                generalize (l[m].v == (seenOf e)[k].v) = D at *
                cases A <;> cases B <;> simp_all
              · refine rn ?_
                refine asplit (fun hg24_5 => ?_) (fun hg24_5 => ?_)
                · refine rn ?_
                  refine asplit (fun hg24_12 => ?_) (fun hg24_12 => ?_)
                  · refine rn ?_
                    refine ⟨hm, _, ?_, eA⟩
                    try rw [ver_list]
                    rw [any_step hm]
                    generalize (l.take m).any (fun y : Ev => y.kind == 2 && y.o == (seenOf e)[k].o && y.v == (seenOf e)[k].v) = A at *
                    generalize ((seenOf e)[k].v.k == 0) = B at *
                    generalize (l[m].v == (seenOf e)[k].v) = D at *
                    cases A <;> cases B <;> simp_all
                  · refine rn ?_
                    refine ⟨hm, _, ?_, eA⟩
                    try rw [ver_list]
                    rw [any_step hm]
                    generalize (l.take m).any (fun y : Ev => y.kind == 2 && y.o == (seenOf e)[k].o && y.v == (seenOf e)[k].v) = A at *
                    generalize ((seenOf e)[k].v.k == 0) = B at *
                    generalize (l[m].v == (seenOf e)[k].v) = D at *
                    cases A <;> cases B <;> simp_all
                · refine rn ?_
                  refine ⟨hm, _, ?_, eA⟩
                  try rw [ver_list]
                  rw [any_step hm]
                  generalize (l.take m).any (fun y : Ev => y.kind == 2 && y.o == (seenOf e)[k].o && y.v == (seenOf e)[k].v) = A at *
                  generalize ((seenOf e)[k].v.k == 0) = B at *
                  generalize (l[m].v == (seenOf e)[k].v) = D at *
                  cases A <;> cases B <;> simp_all
            · have qm := geMap hc109 lm
              have zT : th = ((seenOf e)[k].v.k == 0 || thereB l (seenOf e)[k].o (seenOf e)[k].v) := by rw [zm, qm, List.take_length]; rfl
              refine rn ?_
              refine aw_cond rfl (fun hc134 => ?_) (fun hc134 => ?_)
              · have e4 : rl = 4 := by have h := hc134; simp at h; omega
                refine rn ?_
                refine aw_cond rfl (fun hc137 => ?_) (fun hc137 => ?_)
                · refine rn ?_
                  refine rq 2 ?_
                  exact ⟨rfl, congrArg bv (by subst e4; rw [wrongR_t (by omega) hk (by show (!((seenOf e)[k].v.k == 0 || thereB l (seenOf e)[k].o (seenOf e)[k].v)) = true; rw [← zT]; exact hc137)])⟩
                · refine rn ?_
                  exact ⟨hk, okS_s hk zk (by first | (subst e4; show (!((seenOf e)[k].v.k == 0 || thereB l (seenOf e)[k].o (seenOf e)[k].v)) = false; rw [← zT]; exact hc137) | (subst e5; rw [sBad5_s hw1, bne, ← ver_list]; exact hc154) | (subst e5; exact sBad5_n hg31_3) | (subst e6; show ((seenOf e).take k).any _ = false; rw [anyNot, au]; rfl) | (exfalso; omega)), eA⟩
              · have n4 : rl ≠ 4 := by intro h; subst h; exact absurd hc134 (by decide)
                refine rn ?_
                refine aw_cond rfl (fun hc138 => ?_) (fun hc138 => ?_)
                · have e5 : rl = 5 := by have h := hc138; simp at h; omega
                  refine rn ?_
                  refine aw_draw 13 rfl ?_
                  refine rn ?_
                  refine dsplit (fun hg31_3 => ?_) (fun hg31_3 => ?_)
                  · try obtain ⟨w, hw1, hw2, hw3⟩ := last_row hg31_3
                    refine dq rfl rfl qrA ?_
                    refine dq rfl rfl qrA ?_
                    refine dq rfl rfl qrA ?_
                    first | refine ds rfl rfl ?_ | refine dq rfl rfl (qr_ari rfl rfl rfl (by rw [List.length_map]; have := wroteL_le l e.t (seenOf e)[k].o; omega)) ?_
                    first | refine ds rfl rfl ?_ | refine dq rfl rfl (qr_index_int rfl rfl hw3 hw2) ?_
                    refine rn ?_
                    refine aw_cond rfl (fun hc154 => ?_) (fun hc154 => ?_)
                    · refine rn ?_
                      refine rq 2 ?_
                      exact ⟨rfl, congrArg bv (by subst e5; rw [wrongR_t (by omega) hk (by rw [sBad5_s hw1, bne, ← ver_list]; exact hc154)])⟩
                    · refine rn ?_
                      exact ⟨hk, okS_s hk zk (by first | (subst e4; show (!((seenOf e)[k].v.k == 0 || thereB l (seenOf e)[k].o (seenOf e)[k].v)) = false; rw [← zT]; exact hc137) | (subst e5; rw [sBad5_s hw1, bne, ← ver_list]; exact hc154) | (subst e5; exact sBad5_n hg31_3) | (subst e6; show ((seenOf e).take k).any _ = false; rw [anyNot, au]; rfl) | (exfalso; omega)), eA⟩
                  · try obtain ⟨w, hw1, hw2, hw3⟩ := last_row hg31_3
                    refine rn ?_
                    refine aw_cf rfl ?_
                    refine rn ?_
                    exact ⟨hk, okS_s hk zk (by first | (subst e4; show (!((seenOf e)[k].v.k == 0 || thereB l (seenOf e)[k].o (seenOf e)[k].v)) = false; rw [← zT]; exact hc137) | (subst e5; rw [sBad5_s hw1, bne, ← ver_list]; exact hc154) | (subst e5; exact sBad5_n hg31_3) | (subst e6; show ((seenOf e).take k).any _ = false; rw [anyNot, au]; rfl) | (exfalso; omega)), eA⟩
                · have n5 : rl ≠ 5 := by intro h; subst h; exact absurd hc138 (by decide)
                  refine rn ?_
                  refine aw_cond rfl (fun hc155 => ?_) (fun hc155 => ?_)
                  · have e6 : rl = 6 := by have h := hc155; simp at h; omega
                    refine rn ?_
                    refine qv rfl rfl (qv_call rfl rfl (pcall (refSeen e) (Sbs.refl _))) ?_
                    refine q1 ?_
                    refine qq rfl rfl (qr_slice_h (k := k) rfl rfl (by simp; omega)) ?_
                    rw [← List.map_take]
                    refine rn ?_
                    refine aw_rng (((seenOf e).take k).length) (fun u : Nat => ((seenOf e).take k).all (fun p : Seen => !(p.o == (seenOf e)[k].o)) = (((seenOf e).take k).drop u).all (fun p : Seen => !(p.o == (seenOf e)[k].o))) (fun u => [(162, iv u)]) [(0, _), (2, _), (4, _), (12, _), (89, _), (90, _), (91, _), (160, _), (161, _)] rfl ?_
                    intro u lu zu
                    refine rn ?_
                    refine aw_cond rfl (fun hc163 => ?_) (fun hc163 => ?_)
                    · have hu := ltMap hc163
                      have ru := atRow (f := seenR) hu
                      have bu : ((seenOf e).take k).length ≤ 4611686018427387904 := by simp; omega
                      refine rn ?_
                      refine aops_e rfl (oe_alloc rfl fun b18 => ?_)
                      refine rn ?_
                      refine aw_cond rfl (fun hc170 => ?_) (fun hc170 => ?_)
                      · refine rn ?_
                        refine rq 3 ?_
                        exact ⟨rfl, congrArg bv (by subst e6; rw [wrongR_t (by omega) hk (by show ((seenOf e).take k).any _ = true; rw [anyNot, allF hu (by simpa using hc170)]; rfl)])⟩
                      · refine rn ?_
                        exact ⟨hu, allT hu zu (by simpa using hc170), eA⟩
                    · have qu := geMap hc163 lu
                      have au := allE qu zu
                      refine rn ?_
                      exact ⟨hk, okS_s hk zk (by first | (subst e4; show (!((seenOf e)[k].v.k == 0 || thereB l (seenOf e)[k].o (seenOf e)[k].v)) = false; rw [← zT]; exact hc137) | (subst e5; rw [sBad5_s hw1, bne, ← ver_list]; exact hc154) | (subst e5; exact sBad5_n hg31_3) | (subst e6; show ((seenOf e).take k).any _ = false; rw [anyNot, au]; rfl) | (exfalso; omega)), eA⟩
                  · have n6 : rl ≠ 6 := by intro h; subst h; exact absurd hc155 (by decide)
                    refine rn ?_
                    exact ⟨hk, okS_s hk zk (by first | (subst e4; show (!((seenOf e)[k].v.k == 0 || thereB l (seenOf e)[k].o (seenOf e)[k].v)) = false; rw [← zT]; exact hc137) | (subst e5; rw [sBad5_s hw1, bne, ← ver_list]; exact hc154) | (subst e5; exact sBad5_n hg31_3) | (subst e6; show ((seenOf e).take k).any _ = false; rw [anyNot, au]; rfl) | (exfalso; omega)), eA⟩
          · have qk := geMap hc92 lk
            refine rn ?_
            refine rq 1 ?_
            exact ⟨rfl, congrArg bv (by rw [wrongR_f (by omega) (qk ▸ zk)])⟩
end Go.Proofs
/- The walk of the reference's broken. Conditions: none. -/
set_option linter.unusedVariables false
set_option linter.unusedSimpArgs false
set_option maxRecDepth 10000
namespace Go.Proofs
open Go Go.Ab
attribute [local irreducible] QR QV OE aops aw dsoup dsoupM dalloc dallocM thn inBlk jsoup jch lsoup
open Go.H
theorem refBroken (h : Hist) (rl i : Nat) (h1 : 1 ≤ rl) (h10 : rl ≤ 10) (hi : i < manyN h rl) (la : Lim 1000000 h) : ACall Tryz.prog 76 [.agg (histC h), iv rl, iv i] [] (fun r h' => h' = [] ∧ r = bv (brokenR h rl i)) := by
  refine acall_of_aw Tryz.func76 rfl rfl rfl ?_
  refine rn ?_
  refine aops_e rfl (oe_box rfl rfl rfl fun b3 => ?_)
  refine rn ?_
  refine aw_cond rfl (fun hc8 => ?_) (fun hc8 => ?_)
  · obtain rfl : rl = 7 := by have q := hc8; simp at q; omega
    have hi2 : i < h.ords.length := hi
    refine rn ?_
    refine qv rfl rfl (qv_call rfl rfl (pcall (refOrder h i hi2 la) (Sbs.refl _))) ?_
    refine rn ?_
    refine rq 1 ?_
    exact ⟨rfl, congrArg bv (by exact (atQ_lt hi2).symm)⟩
  · have n7 : rl ≠ 7 := by intro q; subst q; exact absurd hc8 (by decide)
    refine rn ?_
    refine aw_cond rfl (fun hc13 => ?_) (fun hc13 => ?_)
    · obtain rfl : rl = 8 := by have q := hc13; simp at q; omega
      have hi2 : i < h.os.length := hi
      refine rn ?_
      refine qv rfl rfl (qv_call rfl rfl (pcall (refMissing h i la) (Sbs.refl _))) ?_
      refine rn ?_
      refine rq 1 ?_
      exact ⟨rfl, congrArg bv (by exact (atQ_lt (w := fun x _ => missR h (x : Int)) hi2).symm)⟩
    · have n8 : rl ≠ 8 := by intro q; subst q; exact absurd hc13 (by decide)
      refine rn ?_
      refine aw_cond rfl (fun hc18 => ?_) (fun hc18 => ?_)
      · obtain rfl : rl = 9 := by have q := hc18; simp at q; omega
        have hi2 : i < h.mats.length := hi
        refine rn ?_
        refine qv rfl rfl (qv_call rfl rfl (pcall (refMatch h i hi2 la) (Sbs.refl _))) ?_
        refine rn ?_
        refine rq 1 ?_
        exact ⟨rfl, congrArg bv (by exact (atQ_lt hi2).symm)⟩
      · have n9 : rl ≠ 9 := by intro q; subst q; exact absurd hc18 (by decide)
        refine rn ?_
        refine aw_cond rfl (fun hc23 => ?_) (fun hc23 => ?_)
        · obtain rfl : rl = 10 := by have q := hc23; simp at q; omega
          have hi2 : i < h.wants.length := hi
          refine rn ?_
          refine qv rfl rfl (qv_call rfl rfl (pcall (refWant h i hi2 la) (Sbs.refl _))) ?_
          refine rn ?_
          refine rq 1 ?_
          exact ⟨rfl, congrArg bv (by exact (atQ_lt hi2).symm)⟩
        · have n10 : rl ≠ 10 := by intro q; subst q; exact absurd hc23 (by decide)
          have hi2 : i < h.evs.length := by rw [← manyN_e n7 n8 n9 n10]; exact hi
          have ri := atRow (f := evR) hi2
          have be := la.evs
          have sc := la.scans h.evs[i] (List.getElem_mem hi2)
          refine rn ?_
          refine aw_draw 10 rfl ?_
          refine dq rfl rfl qrA ?_
          refine dq rfl rfl qrA ?_
          refine dq rfl rfl qrA ?_
          refine dq rfl rfl qrA ?_
          refine dq rfl rfl qrA ?_
          refine dq rfl rfl qrA ?_
          refine dq rfl rfl qrA ?_
          refine dq rfl rfl qrA ?_
          refine dq rfl rfl qrA ?_
          refine dq rfl rfl (qr_slice_h (k := i) rfl rfl (by simp; omega)) ?_
          rw [← List.map_take]
          refine rn ?_
          refine qv rfl rfl (qv_call rfl rfl (pcall (refEvent15 rl h.evs[i] (h.evs.take i) h1 (by omega) (by simp; omega) sc) (Sbs.refl _))) ?_
          refine rn ?_
          refine rq 1 ?_
          exact ⟨rfl, congrArg bv (by rw [brokenR_e n7 n8 n9 n10, atQ_lt hi2])⟩
end Go.Proofs
/- The walk of the reference's Place. Conditions: none. -/
set_option linter.unusedVariables false
set_option linter.unusedSimpArgs false
set_option maxRecDepth 10000
namespace Go.Proofs
open Go Go.Ab
attribute [local irreducible] QR QV OE aops aw dsoup dsoupM dalloc dallocM thn inBlk jsoup jch lsoup
open Go.H
theorem refPlace (h : Hist) (rl : Nat) (h1 : 1 ≤ rl) (h10 : rl ≤ 10) (la : Lim 1000000 h) : ACall Tryz.prog 22 [.agg (histC h), iv rl] [] (fun r h' => h' = [] ∧ r = iv (placeJ (placeR h rl))) := by
  refine acall_of_aw Tryz.func22 rfl rfl rfl ?_
  refine rn ?_
  refine aops_e rfl (oe_box rfl rfl rfl fun b2 => ?_)
  refine rn0 ?_
  refine aw_seq (aw_region ?_)
  refine rn0 ?_
  refine aw_cut (⟨[(5, iv (manyN h rl)), (1, iv rl), (2, .v (.pointer (some ⟨b2, 0, none⟩)))], .box b2 28 (histC h) :: [], []⟩) ?_ ?_
  · refine rn ?_
    refine aw_cond rfl (fun hc11 => ?_) (fun hc11 => ?_)
    · obtain rfl : rl = 7 := by have q := hc11; simp at q; omega
      refine rn ?_
      first | (rw [many7]; exact es) | (rw [many8]; exact es) | (rw [many9]; exact es) | (rw [many10]; exact es) | (rw [manyE n7 n8 n9 n10]; exact es)
    · have n7 : rl ≠ 7 := by intro q; subst q; exact absurd hc11 (by decide)
      refine rn ?_
      refine aw_cond rfl (fun hc16 => ?_) (fun hc16 => ?_)
      · obtain rfl : rl = 8 := by have q := hc16; simp at q; omega
        refine rn ?_
        first | (rw [many7]; exact es) | (rw [many8]; exact es) | (rw [many9]; exact es) | (rw [many10]; exact es) | (rw [manyE n7 n8 n9 n10]; exact es)
      · have n8 : rl ≠ 8 := by intro q; subst q; exact absurd hc16 (by decide)
        refine rn ?_
        refine aw_cond rfl (fun hc21 => ?_) (fun hc21 => ?_)
        · obtain rfl : rl = 9 := by have q := hc21; simp at q; omega
          refine rn ?_
          first | (rw [many7]; exact es) | (rw [many8]; exact es) | (rw [many9]; exact es) | (rw [many10]; exact es) | (rw [manyE n7 n8 n9 n10]; exact es)
        · have n9 : rl ≠ 9 := by intro q; subst q; exact absurd hc21 (by decide)
          refine rn ?_
          refine aw_cond rfl (fun hc26 => ?_) (fun hc26 => ?_)
          · obtain rfl : rl = 10 := by have q := hc26; simp at q; omega
            refine rn ?_
            first | (rw [many7]; exact es) | (rw [many8]; exact es) | (rw [many9]; exact es) | (rw [many10]; exact es) | (rw [manyE n7 n8 n9 n10]; exact es)
          · have n10 : rl ≠ 10 := by intro q; subst q; exact absurd hc26 (by decide)
            refine rn ?_
            first | (rw [many7]; exact es) | (rw [many8]; exact es) | (rw [many9]; exact es) | (rw [many10]; exact es) | (rw [manyE n7 n8 n9 n10]; exact es)
  · refine rn ?_
    refine aw_rng (manyN h rl) (fun k : Nat => ∀ j, j < k → brokenR h rl j = false) (fun k => [(32, iv k)]) [(1, _), (2, _), (31, _)] (fun j q => absurd q (Nat.not_lt_zero _)) ?_
    intro k lk zk
    refine rn ?_
    refine aw_cond rfl (fun hc33 => ?_) (fun hc33 => ?_)
    · have hk : k < manyN h rl := by have q := hc33; simp at q; omega
      have mb : manyN h rl ≤ 1000000 := manyN_le la
      refine rn ?_
      refine qv rfl rfl (qv_call rfl rfl (pcall (refBroken h rl k h1 h10 hk la) (Sbs.refl _))) ?_
      refine rn ?_
      refine aw_cond rfl (fun hc38 => ?_) (fun hc38 => ?_)
      · refine rn ?_
        refine rq 1 ?_
        exact ⟨rfl, by rw [place_hit hk hc38 zk]; rfl⟩
      · refine rn ?_
        exact ⟨hk, under_s zk hc38, eA⟩
    · have qk : k = manyN h rl := by have q := hc33; simp at q; omega
      refine rn ?_
      refine rq 1 ?_
      exact ⟨rfl, by rw [place_over (qk ▸ zk)]; rfl⟩
end Go.Proofs
/- The walk of the reference's First. Conditions: none. -/
set_option linter.unusedVariables false
set_option linter.unusedSimpArgs false
set_option maxRecDepth 10000
namespace Go.Proofs
open Go Go.Ab
attribute [local irreducible] QR QV OE aops aw dsoup dsoupM dalloc dallocM thn inBlk jsoup jch lsoup
open Go.H
theorem placeJ_ge {o : Option Nat} (h : decide (placeJ o ≥ 0) = true) : ∃ n, o = some n := by
  cases o with
  | none => exact absurd h (by decide)
  | some n => exact ⟨n, rfl⟩
theorem placeJ_lt {o : Option Nat} (h : decide (placeJ o ≥ 0) = false) : o = none := by
  cases o with
  | none => rfl
  | some n => have := of_decide_eq_false h; simp [placeJ] at this
theorem refFirst15 (h : Hist) (la : Lim 1000000 h) : ACall Tryz.prog 19 [.agg (histC h)] [] (fun r h' => h' = [] ∧ r = .tup [.agg (brkC (firstIn (placeR h) rules10)), bv (firstIn (placeR h) rules10).isSome]) := by
  refine acall_of_aw Tryz.func19 rfl rfl rfl ?_
  refine rn ?_
  refine aops_e rfl (oe_box rfl rfl rfl fun b1 => ?_)
  refine aops_e rfl (oe_alloc rfl fun b2 => ?_)
  refine rn ?_
  refine aw_while (fun k : Nat => (1 ≤ k ∧ k ≤ 11) ∧ firstIn (placeR h) rules10 = firstIn (placeR h) (rules10.drop (k - 1))) (fun k => ⟨[(4, iv k), (1, .v (.pointer (some ⟨b1, 0, none⟩))), (2, .v (.pointer (some ⟨b2, 0, none⟩)))], (.box b2 32 [iv 0, iv 0] :: .box b1 28 (histC h) :: []), []⟩) (fun k => 11 - k) 1 ⟨by omega, rfl⟩ es ?_
  rintro k ⟨⟨k1, k3⟩, zk⟩
  refine rn ?_
  refine aw_cond rfl (fun hc7 => ?_) (fun hc7 => ?_)
  · have k2 : k ≤ 10 := by have := of_decide_eq_true hc7; omega
    refine rn ?_
    refine qv rfl rfl (qv_call rfl rfl (pcall (refPlace h k k1 k2 la) (Sbs.refl _))) ?_
    refine rn ?_
    refine aw_cond rfl (fun hc14 => ?_) (fun hc14 => ?_)
    · refine rn ?_
      exact retq (.cons _ _ _ _ (.agg _ _ _ _ _ _ _ rfl inferInstance inferInstance inferInstance rfl) (.cons _ _ _ _ (.tmp _ _ rfl) .nil)) (.drop [_, _] _ _) ⟨rfl, by
        obtain ⟨n, hp⟩ := placeJ_ge hc14
        rw [first_hit k1 k2 zk hp, hp]; rfl⟩
    · refine rn ?_
      exact ⟨k + 1, ⟨by omega, first_step k1 k2 zk (placeJ_lt hc14)⟩, eA, by omega⟩
  · have k2 : 11 ≤ k := by have := of_decide_eq_false hc7; omega
    refine rn ?_
    exact retq (.cons _ _ _ _ (.agg _ _ _ _ _ _ _ rfl inferInstance inferInstance inferInstance rfl) (.cons _ _ _ _ (.tmp _ _ rfl) .nil)) (.drop [_, _] _ _) ⟨rfl, by rw [first_over k2 k3 zk]; rfl⟩
end Go.Proofs
/- The walks of the references' tests. Conditions: none. -/
set_option linter.unusedVariables false
set_option linter.unusedSimpArgs false
set_option maxRecDepth 10000
namespace Go.Proofs
open Go Go.Ab
attribute [local irreducible] QR QV OE aops aw dsoup dsoupM dalloc dallocM thn inBlk
open Go.H
theorem ref9 (l : Int) : ACall Tryz.prog 164 [iv l] [] (fun r h' => h' = [] ∧ r = bv (right9 l)) := by
  refine acall_of_aw Tryz.func164 rfl rfl rfl ?_
  refine rn ?_
  refine asplit (fun hg1_2 => ?_) (fun hg1_2 => ?_)
  · refine rn ?_
    exact retq (.cons _ _ _ _ (.tmp _ _ rfl) .nil) (.refl _ _) ⟨rfl, congrArg bv (by first | (simp only [right9, *, Bool.true_and, Bool.false_and, Bool.and_false, Bool.and_true, Bool.true_or, Bool.or_false, Bool.false_or, Bool.or_true, if_true, if_false, Bool.false_eq_true, Bool.not_true, Bool.not_false]; done) | (simp_all [right9]; done) | (simp_all [right9] <;> omega))⟩
  · refine rn ?_
    exact retq (.cons _ _ _ _ (.tmp _ _ rfl) .nil) (.refl _ _) ⟨rfl, congrArg bv (by first | (simp only [right9, *, Bool.true_and, Bool.false_and, Bool.and_false, Bool.and_true, Bool.true_or, Bool.or_false, Bool.false_or, Bool.or_true, if_true, if_false, Bool.false_eq_true, Bool.not_true, Bool.not_false]; done) | (simp_all [right9]; done) | (simp_all [right9] <;> omega))⟩
theorem ref2Letter (c : Int) : ACall Tryz.prog 203 [.v (.int .i32 c)] [] (fun r h' => h' = [] ∧ r = bv (letB2 c)) := by
  refine acall_of_aw Tryz.func203 rfl rfl rfl ?_
  refine rn ?_
  refine asplit (fun hg1_2 => ?_) (fun hg1_2 => ?_)
  · refine rn ?_
    refine asplit (fun hg1_6 => ?_) (fun hg1_6 => ?_)
    · refine rn ?_
      exact retq (.cons _ _ _ _ (.tmp _ _ rfl) .nil) (.refl _ _) ⟨rfl, congrArg bv (by first | (simp only [letB2, *, Bool.true_and, Bool.false_and, Bool.and_false, Bool.and_true, Bool.true_or, Bool.or_false, Bool.false_or, Bool.or_true, if_true, if_false, Bool.false_eq_true, Bool.not_true, Bool.not_false]; done) | (simp_all [letB2]; done) | (simp_all [letB2] <;> omega))⟩
    · refine rn ?_
      refine asplit (fun hg1_9 => ?_) (fun hg1_9 => ?_)
      · refine rn ?_
        refine asplit (fun hg1_14 => ?_) (fun hg1_14 => ?_)
        · refine rn ?_
          exact retq (.cons _ _ _ _ (.tmp _ _ rfl) .nil) (.refl _ _) ⟨rfl, congrArg bv (by first | (simp only [letB2, *, Bool.true_and, Bool.false_and, Bool.and_false, Bool.and_true, Bool.true_or, Bool.or_false, Bool.false_or, Bool.or_true, if_true, if_false, Bool.false_eq_true, Bool.not_true, Bool.not_false]; done) | (simp_all [letB2]; done) | (simp_all [letB2] <;> omega))⟩
        · refine rn ?_
          refine asplit (fun hg1_18 => ?_) (fun hg1_18 => ?_)
          · refine rn ?_
            exact retq (.cons _ _ _ _ (.tmp _ _ rfl) .nil) (.refl _ _) ⟨rfl, congrArg bv (by first | (simp only [letB2, *, Bool.true_and, Bool.false_and, Bool.and_false, Bool.and_true, Bool.true_or, Bool.or_false, Bool.false_or, Bool.or_true, if_true, if_false, Bool.false_eq_true, Bool.not_true, Bool.not_false]; done) | (simp_all [letB2]; done) | (simp_all [letB2] <;> omega))⟩
          · refine rn ?_
            exact retq (.cons _ _ _ _ (.tmp _ _ rfl) .nil) (.refl _ _) ⟨rfl, congrArg bv (by first | (simp only [letB2, *, Bool.true_and, Bool.false_and, Bool.and_false, Bool.and_true, Bool.true_or, Bool.or_false, Bool.false_or, Bool.or_true, if_true, if_false, Bool.false_eq_true, Bool.not_true, Bool.not_false]; done) | (simp_all [letB2]; done) | (simp_all [letB2] <;> omega))⟩
      · refine rn ?_
        refine asplit (fun hg1_18 => ?_) (fun hg1_18 => ?_)
        · refine rn ?_
          exact retq (.cons _ _ _ _ (.tmp _ _ rfl) .nil) (.refl _ _) ⟨rfl, congrArg bv (by first | (simp only [letB2, *, Bool.true_and, Bool.false_and, Bool.and_false, Bool.and_true, Bool.true_or, Bool.or_false, Bool.false_or, Bool.or_true, if_true, if_false, Bool.false_eq_true, Bool.not_true, Bool.not_false]; done) | (simp_all [letB2]; done) | (simp_all [letB2] <;> omega))⟩
        · refine rn ?_
          exact retq (.cons _ _ _ _ (.tmp _ _ rfl) .nil) (.refl _ _) ⟨rfl, congrArg bv (by first | (simp only [letB2, *, Bool.true_and, Bool.false_and, Bool.and_false, Bool.and_true, Bool.true_or, Bool.or_false, Bool.false_or, Bool.or_true, if_true, if_false, Bool.false_eq_true, Bool.not_true, Bool.not_false]; done) | (simp_all [letB2]; done) | (simp_all [letB2] <;> omega))⟩
  · refine rn ?_
    refine asplit (fun hg1_9 => ?_) (fun hg1_9 => ?_)
    · refine rn ?_
      refine asplit (fun hg1_14 => ?_) (fun hg1_14 => ?_)
      · refine rn ?_
        exact retq (.cons _ _ _ _ (.tmp _ _ rfl) .nil) (.refl _ _) ⟨rfl, congrArg bv (by first | (simp only [letB2, *, Bool.true_and, Bool.false_and, Bool.and_false, Bool.and_true, Bool.true_or, Bool.or_false, Bool.false_or, Bool.or_true, if_true, if_false, Bool.false_eq_true, Bool.not_true, Bool.not_false]; done) | (simp_all [letB2]; done) | (simp_all [letB2] <;> omega))⟩
      · refine rn ?_
        refine asplit (fun hg1_18 => ?_) (fun hg1_18 => ?_)
        · refine rn ?_
          exact retq (.cons _ _ _ _ (.tmp _ _ rfl) .nil) (.refl _ _) ⟨rfl, congrArg bv (by first | (simp only [letB2, *, Bool.true_and, Bool.false_and, Bool.and_false, Bool.and_true, Bool.true_or, Bool.or_false, Bool.false_or, Bool.or_true, if_true, if_false, Bool.false_eq_true, Bool.not_true, Bool.not_false]; done) | (simp_all [letB2]; done) | (simp_all [letB2] <;> omega))⟩
        · refine rn ?_
          exact retq (.cons _ _ _ _ (.tmp _ _ rfl) .nil) (.refl _ _) ⟨rfl, congrArg bv (by first | (simp only [letB2, *, Bool.true_and, Bool.false_and, Bool.and_false, Bool.and_true, Bool.true_or, Bool.or_false, Bool.false_or, Bool.or_true, if_true, if_false, Bool.false_eq_true, Bool.not_true, Bool.not_false]; done) | (simp_all [letB2]; done) | (simp_all [letB2] <;> omega))⟩
    · refine rn ?_
      refine asplit (fun hg1_18 => ?_) (fun hg1_18 => ?_)
      · refine rn ?_
        exact retq (.cons _ _ _ _ (.tmp _ _ rfl) .nil) (.refl _ _) ⟨rfl, congrArg bv (by first | (simp only [letB2, *, Bool.true_and, Bool.false_and, Bool.and_false, Bool.and_true, Bool.true_or, Bool.or_false, Bool.false_or, Bool.or_true, if_true, if_false, Bool.false_eq_true, Bool.not_true, Bool.not_false]; done) | (simp_all [letB2]; done) | (simp_all [letB2] <;> omega))⟩
      · refine rn ?_
        exact retq (.cons _ _ _ _ (.tmp _ _ rfl) .nil) (.refl _ _) ⟨rfl, congrArg bv (by first | (simp only [letB2, *, Bool.true_and, Bool.false_and, Bool.and_false, Bool.and_true, Bool.true_or, Bool.or_false, Bool.false_or, Bool.or_true, if_true, if_false, Bool.false_eq_true, Bool.not_true, Bool.not_false]; done) | (simp_all [letB2]; done) | (simp_all [letB2] <;> omega))⟩
theorem ref2Digit (c : Int) : ACall Tryz.prog 204 [.v (.int .i32 c)] [] (fun r h' => h' = [] ∧ r = bv (numB c)) := by
  refine acall_of_aw Tryz.func204 rfl rfl rfl ?_
  refine rn ?_
  refine asplit (fun hg1_2 => ?_) (fun hg1_2 => ?_)
  · refine rn ?_
    exact retq (.cons _ _ _ _ (.tmp _ _ rfl) .nil) (.refl _ _) ⟨rfl, congrArg bv (by first | (simp only [numB, *, Bool.true_and, Bool.false_and, Bool.and_false, Bool.and_true, Bool.true_or, Bool.or_false, Bool.false_or, Bool.or_true, if_true, if_false, Bool.false_eq_true, Bool.not_true, Bool.not_false]; done) | (simp_all [numB]; done) | (simp_all [numB] <;> omega))⟩
  · refine rn ?_
    exact retq (.cons _ _ _ _ (.tmp _ _ rfl) .nil) (.refl _ _) ⟨rfl, congrArg bv (by first | (simp only [numB, *, Bool.true_and, Bool.false_and, Bool.and_false, Bool.and_true, Bool.true_or, Bool.or_false, Bool.false_or, Bool.or_true, if_true, if_false, Bool.false_eq_true, Bool.not_true, Bool.not_false]; done) | (simp_all [numB]; done) | (simp_all [numB] <;> omega))⟩
theorem refTs {f : Bool} (h : Hist) (l : List Int) (hl : l.length ≤ 4611686018427387904) : ACall Tryz.prog 121 [.agg (histC h), .list f 1 (l.map intR)] [] (fun r h' => h' = [] ∧ r = bv (rightTsB h l)) := by
  refine acall_of_aw Tryz.func121 rfl rfl rfl ?_
  refine rn ?_
  refine aops_e rfl (oe_box rfl rfl rfl fun b2 => ?_)
  refine rn ?_
  refine aw_loop' (fun k : Nat => k ≤ l.length ∧ l.all (fun t => isB t h.ts.length) = (l.drop k).all (fun t => isB t h.ts.length)) (fun k => ⟨[(9, iv k), (8, iv (l.map intR).length), (7, .list f 1 (l.map intR)), (1, .list f 1 (l.map intR)), (2, .v (.pointer (some ⟨b2, 0, none⟩)))], [.box b2 28 (histC h)], []⟩) (fun k => l.length - k) 0 ⟨Nat.zero_le _, by simp⟩
    (ent_sub (.cons _ _ _ rfl (.cons _ _ _ rfl (.cons _ _ _ rfl (.cons _ _ _ rfl (.cons _ _ _ rfl (.nil))))))) ?_
  rintro k ⟨hk, hz⟩
  refine rn ?_
  refine aw_cond rfl (fun hc10 => ?_) (fun hc10 => ?_)
  · have hk2 : k < l.length := by simpa using hc10
    have hrow : (l.map intR)[k]? = some (intR l[k]) := by simp [hk2]
    have hd := List.drop_eq_getElem_cons hk2
    refine rn ?_
    refine qv rfl rfl (qv_call rfl rfl (pcall (refIs _ _) (Sbs.refl _))) ?_
    refine rn ?_
    refine aw_cond rfl (fun hc18 => ?_) (fun hc18 => ?_)
    · have hx : isB l[k] h.ts.length = false := by simpa using hc18
      refine rn ?_
      exact retq (.cons _ _ _ _ (.tmp _ _ rfl) .nil) (.drop [_] _ _) ⟨rfl, congrArg bv (by rw [rightTsB, hz, hd, List.all_cons, hx, Bool.false_and]; rfl)⟩
    · have hx : isB l[k] h.ts.length = true := by simpa using hc18
      refine rn ?_
      exact ⟨k + 1, ⟨by omega, by rw [hz, hd, List.all_cons, hx, Bool.true_and]⟩, (ent_sub (.cons _ _ _ rfl (.cons _ _ _ rfl (.cons _ _ _ rfl (.cons _ _ _ rfl (.cons _ _ _ rfl (.nil))))))), by omega⟩
  · have hk3 : k = l.length := by
      have : l.length ≤ k := by simpa using hc10
      omega
    refine rn ?_
    exact retq (.cons _ _ _ _ (.tmp _ _ rfl) .nil) (.drop [_] _ _) ⟨rfl, congrArg bv (by rw [rightTsB, hz, hk3, List.drop_length]; simp)⟩
end Go.Proofs
