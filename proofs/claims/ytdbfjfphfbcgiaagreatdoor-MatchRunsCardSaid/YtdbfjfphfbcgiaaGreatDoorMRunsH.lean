/- The walk of history.spoken, reading. Conditions: none. -/
import Derived.Test.YtdbfjfphfbcgiaaGreatDoorMRunsG
set_option linter.unusedSectionVars false
set_option linter.unusedSimpArgs false
set_option linter.unusedVariables false
set_option linter.unusedVariables false
set_option linter.unusedSimpArgs false
set_option maxRecDepth 10000
namespace Go.Proofs
open Go Go.Ab
attribute [local irreducible] QR QV OE aops aw dsoup dsoupM dalloc dallocM thn inBlk
open Go.H
theorem sayR {σ : Type} (step : σ → Nat × Int → Option σ) (ok : Nat × Int → Prop) (IJ : Option σ → List Res → Prop) (y : AV) (hy : ∀ (s : σ) (L : List Res) (sort : Nat) (n : Int) (cells : List AV), ok (sort, n) → IJ (some s) L → FCall Tryz.prog y [iv sort, .pp (iv n :: cells)] L (fun r h' => r = bv (step s (sort, n)).isSome ∧ IJ (step s (sort, n)) h')) (sort : Nat) (n : Int) (hs : ok (sort, n)) (cells : List AV) (bm by_ : Nat) (st : Option σ) (L : List Res) (hI : IJ st L) : ACall Tryz.prog 156 [iv sort, .pp (iv n :: cells), .v (.pointer (some ⟨bm, 0, none⟩)), .v (.pointer (some ⟨by_, 0, none⟩))] (.box bm 4 [bv (st).isSome] :: .box by_ 187 [y] :: L) (fun r h' => ∃ L', IJ (goes step st [(sort, n)]) L' ∧ h' = .box bm 4 [bv (goes step st [(sort, n)]).isSome] :: .box by_ 187 [y] :: L') := by
  refine acall_of_aw Tryz.func156 rfl rfl rfl ?_
  refine rn ?_
  refine asplit (fun hg0_1 => ?_) (fun hg0_1 => ?_)
  · refine rn ?_
    obtain ⟨s, rfl⟩ := Option.isSome_iff_exists.1 hg0_1
    refine aops_e rfl (oe_call rfl rfl (FCall.fr2 (hy s L sort n cells hs hI)) rfl ?_)
    rintro _ _ ⟨L2, rfl, rfl, hI2⟩
    refine rn ?_
    first
      | exact retq_n .nil (.refl _ _) ⟨L2, hI2, rfl⟩
      | (obtain rfl := Option.not_isSome_iff_eq_none.1 (show ¬ st.isSome = true by simp [hg0_1])
         exact retq_n .nil (.refl _ _) ⟨L, hI, rfl⟩)
  · refine rn ?_
    first
      | exact retq_n .nil (.refl _ _) ⟨L2, hI2, rfl⟩
      | (obtain rfl := Option.not_isSome_iff_eq_none.1 (show ¬ st.isSome = true by simp [hg0_1])
         exact retq_n .nil (.refl _ _) ⟨L, hI, rfl⟩)
theorem madeR {σ : Type} (step : σ → Nat × Int → Option σ) (ok : Nat × Int → Prop) (IJ : Option σ → List Res → Prop) (y : AV) (hy : ∀ (s : σ) (L : List Res) (sort : Nat) (n : Int) (cells : List AV), ok (sort, n) → IJ (some s) L → FCall Tryz.prog y [iv sort, .pp (iv n :: cells)] L (fun r h' => r = bv (step s (sort, n)).isSome ∧ IJ (step s (sort, n)) h')) (v : Ver) (hv : ∀ x ∈ madeL v, ok x) (cells : List AV) (bs bm by_ : Nat) (st : Option σ) (L : List Res) (hI : IJ st L) : ACall Tryz.prog 157 [.pp (iv v.t :: iv v.k :: cells), .v (.pointer (some ⟨bs, 0, none⟩))] (.box bs 188 [.fn (.func 156) [] [.v (.pointer (some ⟨bm, 0, none⟩)), .v (.pointer (some ⟨by_, 0, none⟩))]] :: .box bm 4 [bv (st).isSome] :: .box by_ 187 [y] :: L) (fun r h' => ∃ L', IJ (goes step st (madeL v)) L' ∧ h' = .box bs 188 [.fn (.func 156) [] [.v (.pointer (some ⟨bm, 0, none⟩)), .v (.pointer (some ⟨by_, 0, none⟩))]] :: .box bm 4 [bv (goes step st (madeL v)).isSome] :: .box by_ 187 [y] :: L') := by
  refine acall_of_aw Tryz.func157 rfl rfl rfl ?_
  refine rn ?_
  refine aw_cond rfl (fun hc7 => ?_) (fun hc7 => ?_)
  · refine aw_draw 4 rfl ?_
    refine rn ?_
    refine aops_e rfl (oe_call rfl rfl (FCall.fr1 (FCall.of_acall (fs := []) (cs := [.v (.pointer (some ⟨bm, 0, none⟩)), .v (.pointer (some ⟨by_, 0, none⟩))]) (sayR step ok IJ y hy 0 v.t (hv _ (by rw [madeL, if_pos hc7]; simp)) (iv v.k :: cells) bm by_ _ _ hI))) rfl ?_)
    rintro _ _ ⟨_, rfl, L2, hI2, rfl⟩
    refine rn ?_
    first
      | (have hm : madeL v = [(0, v.t)] := by rw [madeL, if_pos hc7]
         rw [hm]; exact retq_n .nil (.refl _ _) ⟨L2, hI2, rfl⟩)
      | (have hm : madeL v = [] := by rw [madeL, if_neg (by rw [hc7]; decide)]
         rw [hm]; exact retq_n .nil (.refl _ _) ⟨L, hI, rfl⟩)
  · refine rn ?_
    first
      | (have hm : madeL v = [(0, v.t)] := by rw [madeL, if_pos hc7]
         rw [hm]; exact retq_n .nil (.refl _ _) ⟨L2, hI2, rfl⟩)
      | (have hm : madeL v = [] := by rw [madeL, if_neg (by rw [hc7]; decide)]
         rw [hm]; exact retq_n .nil (.refl _ _) ⟨L, hI, rfl⟩)
theorem spokenR {σ : Type} (step : σ → Nat × Int → Option σ) (ok : Nat × Int → Prop) (IJ : Option σ → List Res → Prop) (y : AV) (hone : y.cellsOf = some [y]) (hy : ∀ (s : σ) (L : List Res) (sort : Nat) (n : Int) (cells : List AV), ok (sort, n) → IJ (some s) L → FCall Tryz.prog y [iv sort, .pp (iv n :: cells)] L (fun r h' => r = bv (step s (sort, n)).isSome ∧ IJ (step s (sort, n)) h')) (h : Hist) (la : Lim 4611686018427387904 h) (b1 bh : Nat) (hok : ∀ x ∈ spokenL h, ok x) (s0 : σ) (L0 : List Res) (h0 : IJ (some s0) L0) : ACall Tryz.prog 155 [y, .v (.pointer (some ⟨b1, 0, none⟩))] (.box b1 149 [.v (.pointer (some ⟨bh, 0, none⟩))] :: .box bh 28 (histC h) :: L0) (fun r h' => ∃ L', IJ (goes step (some s0) (spokenL h)) L' ∧ h' = .box b1 149 [.v (.pointer (some ⟨bh, 0, none⟩))] :: .box bh 28 (histC h) :: L') := by
  refine acall_of_aw Tryz.func155 rfl rfl rfl ?_
  refine rn ?_
  refine aops_e rfl (oe_box rfl hone rfl fun by_ => ?_)
  refine rn ?_
  refine aops_e rfl (oe_alloc rfl fun bm => ?_)
  refine rn ?_
  refine aops_e rfl (oe_alloc rfl fun bs => ?_)
  refine rn ?_
  refine aw_loop' (fun x : Nat × Option σ × List Res => x.1 ≤ h.evs.length ∧ IJ x.2.1 x.2.2 ∧ Rem step ok x.2.1 (((h.evs.drop x.1).flatMap evL) ++ (h.ords.flatMap ordL ++ (h.mats.flatMap matL ++ h.wants.flatMap wanL))) (goes step (some s0) (spokenL h))) (fun x => ⟨[(22, iv x.1), (21, iv (h.evs.map evR).length), (1, .v (.pointer (some ⟨b1, 0, none⟩))), (4, .v (.pointer (some ⟨bs, 0, none⟩))), (5, .fn (.func 157) [] [.v (.pointer (some ⟨bs, 0, none⟩))])], .box b1 149 [.v (.pointer (some ⟨bh, 0, none⟩))] :: .box bh 28 (histC h) :: .box bs 188 [.fn (.func 156) [] [.v (.pointer (some ⟨bm, 0, none⟩)), .v (.pointer (some ⟨by_, 0, none⟩))]] :: .box bm 4 [bv (x.2.1).isSome] :: .box by_ 187 [y] :: x.2.2, []⟩) (fun x => h.evs.length - x.1) (0, some s0, L0) ⟨by omega, h0, rfl, hok⟩
    (ent_trans (ent_perm ((pt3 _ _ _ _ _).trans (.cons _ (pt3 _ _ _ _ _)))) (ent_sub (.cons _ _ _ rfl (.cons _ _ _ rfl (.cons _ _ _ rfl (.cons _ _ _ rfl (.cons _ _ _ rfl (.nil)))))))) ?_
  rintro ⟨k, st, L⟩ ⟨hk, hI, hF⟩
  simp only at hk hI hF
  refine rn ?_
  refine aw_cond rfl (fun hc23 => ?_) (fun hc23 => ?_)
  · have k2 : k < h.evs.length := by simpa using hc23
    obtain ⟨e, he⟩ : ∃ e, e = h.evs[k] := ⟨_, rfl⟩
    have hrowe : (h.evs.map evR)[k]? = some (evR e) := by rw [he]; simp [k2]
    have hde := List.drop_eq_getElem_cons k2
    rw [hde, ← he] at hF
    simp only [List.flatMap_cons, evL, List.cons_append, List.append_assoc] at hF
    obtain ⟨hx, hF⟩ := hF.cons
    obtain ⟨hkx, hF⟩ := hF.app
    have hle := la.evs
    have hls := la.scans e (by rw [he]; simp)
    refine rn ?_
    refine aw_draw 4 rfl ?_
    refine rn ?_
    refine aops_e rfl (oe_call rfl rfl (FCall.fr3 (FCall.of_acall (fs := []) (cs := [.v (.pointer (some ⟨bm, 0, none⟩)), .v (.pointer (some ⟨by_, 0, none⟩))]) (sayR step ok IJ y hy 0 e.t hx _ bm by_ _ _ hI))) rfl ?_)
    rintro _ _ ⟨_, rfl, L, hI, rfl⟩
    refine rn0 ?_
    refine aw_cutE (fun L => IJ (goes step (goes step st [(0, e.t)]) (kindL e)) L) (fun L => ⟨[(7, .pp (evR e)), (22, iv k), (21, iv (h.evs.map evR).length), (1, .v (.pointer (some ⟨b1, 0, none⟩))), (4, .v (.pointer (some ⟨bs, 0, none⟩))), (5, .fn (.func 157) [] [.v (.pointer (some ⟨bs, 0, none⟩))])], .box b1 149 [.v (.pointer (some ⟨bh, 0, none⟩))] :: .box bh 28 (histC h) :: .box bs 188 [.fn (.func 156) [] [.v (.pointer (some ⟨bm, 0, none⟩)), .v (.pointer (some ⟨by_, 0, none⟩))]] :: .box bm 4 [bv (goes step (goes step st [(0, e.t)]) (kindL e)).isSome] :: .box by_ 187 [y] :: L, []⟩) ?_ ?_
    · refine rn ?_
      refine aw_cond rfl (fun hc40 => ?_) (fun hc40 => ?_)
      · have hkl := kindL_1 (e := e) (by simpa using hc40)
        refine aw_draw 4 rfl ?_
        refine rn ?_
        refine aops_e rfl (oe_call rfl rfl (FCall.fr3 (FCall.of_acall (fs := []) (cs := [.v (.pointer (some ⟨bm, 0, none⟩)), .v (.pointer (some ⟨by_, 0, none⟩))]) (sayR step ok IJ y hy 1 e.s (hkx _ (by rw [hkl]; simp)) _ bm by_ _ _ hI))) rfl ?_)
        rintro _ _ ⟨_, rfl, L, hI, rfl⟩
        refine rn ?_
        refine ⟨L, ?_, ?_⟩
        · show IJ (goes step _ (kindL e)) L
          rw [hkl]; exact hI
        · rw [hkl]; exact (ent_sub (.cons _ _ _ rfl (.cons _ _ _ rfl (.cons _ _ _ rfl (.cons _ _ _ rfl (.cons _ _ _ rfl (.cons _ _ _ rfl (.nil))))))))
      · have hn1 : e.kind ≠ 1 := by simpa using hc40
        refine rn ?_
        refine aw_cond rfl (fun hc47 => ?_) (fun hc47 => ?_)
        · have hk23 : e.kind = 2 ∨ e.kind = 3 := by simp at hc47; omega
          have hkl := kindL_2 hk23
          refine rn ?_
          refine aw_cond rfl (fun hc47 => ?_) (fun hc47 => ?_)
          · have hk23 : e.kind = 2 ∨ e.kind = 3 := by simp at hc47; omega
            have hkl := kindL_2 hk23
            refine rn ?_
            refine aw_draw 4 rfl ?_
            refine rn ?_
            refine aops_e rfl (oe_call rfl rfl (FCall.fr3 (FCall.of_acall (fs := []) (cs := [.v (.pointer (some ⟨bm, 0, none⟩)), .v (.pointer (some ⟨by_, 0, none⟩))]) (sayR step ok IJ y hy 2 e.o (hkx _ (by rw [hkl]; simp)) _ bm by_ _ _ hI))) rfl ?_)
            rintro _ _ ⟨_, rfl, L, hI, rfl⟩
            refine rn ?_
            refine aops_e rfl (oe_call rfl rfl (FCall.fr2 (FCall.of_acall (fs := []) (cs := [.v (.pointer (some ⟨bs, 0, none⟩))]) (madeR step ok IJ y hy e.v (fun x hx => hkx x (by rw [hkl]; simp [hx])) _ bs bm by_ _ _ hI))) rfl ?_)
            rintro _ _ ⟨_, rfl, L, hI, rfl⟩
            refine rn ?_
            refine ⟨L, ?_, ?_⟩
            · show IJ (goes step _ (kindL e)) L
              rw [hkl]; exact hI
            · rw [hkl]; exact (ent_sub (.cons _ _ _ rfl (.cons _ _ _ rfl (.cons _ _ _ rfl (.cons _ _ _ rfl (.cons _ _ _ rfl (.cons _ _ _ rfl (.nil))))))))
          · first | cases hc47 | exact absurd hc47 (by decide) | (exfalso; simp_all; done)
        · have hn23 := hc47
          simp at hn23
          refine rn ?_
          refine aw_cond rfl (fun hc47 => ?_) (fun hc47 => ?_)
          · have hk23 : e.kind = 2 ∨ e.kind = 3 := by simp at hc47; omega
            have hkl := kindL_2 hk23
            refine rn ?_
            refine aw_draw 4 rfl ?_
            refine rn ?_
            refine aops_e rfl (oe_call rfl rfl (FCall.fr3 (FCall.of_acall (fs := []) (cs := [.v (.pointer (some ⟨bm, 0, none⟩)), .v (.pointer (some ⟨by_, 0, none⟩))]) (sayR step ok IJ y hy 2 e.o (hkx _ (by rw [hkl]; simp)) _ bm by_ _ _ hI))) rfl ?_)
            rintro _ _ ⟨_, rfl, L, hI, rfl⟩
            refine rn ?_
            refine aops_e rfl (oe_call rfl rfl (FCall.fr2 (FCall.of_acall (fs := []) (cs := [.v (.pointer (some ⟨bs, 0, none⟩))]) (madeR step ok IJ y hy e.v (fun x hx => hkx x (by rw [hkl]; simp [hx])) _ bs bm by_ _ _ hI))) rfl ?_)
            rintro _ _ ⟨_, rfl, L, hI, rfl⟩
            refine rn ?_
            refine ⟨L, ?_, ?_⟩
            · show IJ (goes step _ (kindL e)) L
              rw [hkl]; exact hI
            · rw [hkl]; exact (ent_sub (.cons _ _ _ rfl (.cons _ _ _ rfl (.cons _ _ _ rfl (.cons _ _ _ rfl (.cons _ _ _ rfl (.cons _ _ _ rfl (.nil))))))))
          · have hn23 := hc47
            simp at hn23
            refine rn ?_
            refine aw_cond rfl (fun hc60 => ?_) (fun hc60 => ?_)
            · have hkl := kindL_4 (e := e) (by simpa using hc60)
              refine aw_draw 4 rfl ?_
              refine rn ?_
              refine aops_e rfl (oe_call rfl rfl (FCall.fr3 (FCall.of_acall (fs := []) (cs := [.v (.pointer (some ⟨bm, 0, none⟩)), .v (.pointer (some ⟨by_, 0, none⟩))]) (sayR step ok IJ y hy 3 e.p (hkx _ (by rw [hkl]; simp)) _ bm by_ _ _ hI))) rfl ?_)
              rintro _ _ ⟨_, rfl, L, hI, rfl⟩
              refine rn ?_
              refine ⟨L, ?_, ?_⟩
              · show IJ (goes step _ (kindL e)) L
                rw [hkl]; exact hI
              · rw [hkl]; exact (ent_sub (.cons _ _ _ rfl (.cons _ _ _ rfl (.cons _ _ _ rfl (.cons _ _ _ rfl (.cons _ _ _ rfl (.cons _ _ _ rfl (.nil))))))))
            · have hn4 : e.kind ≠ 4 := by simpa using hc60
              have hkl := kindL_0 (e := e) hn1 (by omega) (by omega) hn4
              refine rn ?_
              refine ⟨L, ?_, ?_⟩
              · show IJ (goes step _ (kindL e)) L
                rw [hkl]; exact hI
              · rw [hkl]; exact (ent_sub (.cons _ _ _ rfl (.cons _ _ _ rfl (.cons _ _ _ rfl (.cons _ _ _ rfl (.cons _ _ _ rfl (.cons _ _ _ rfl (.nil))))))))
    · rintro L hI
      revert hI hF
      generalize goes step (goes step st [(0, e.t)]) (kindL e) = st2
      intro hF hI
      refine rn ?_
      refine aw_loop' (fun x : Nat × Option σ × List Res => x.1 ≤ e.scan.length ∧ IJ x.2.1 x.2.2 ∧ Rem step ok x.2.1 (((e.scan.drop x.1).flatMap seenL) ++ (((h.evs.drop (k + 1)).flatMap evL) ++ (h.ords.flatMap ordL ++ (h.mats.flatMap matL ++ h.wants.flatMap wanL)))) (goes step (some s0) (spokenL h))) (fun x => ⟨[(72, iv x.1), (71, iv (e.scan.map seenR).length), (7, .pp (evR e)), (22, iv k), (21, iv (h.evs.map evR).length), (1, .v (.pointer (some ⟨b1, 0, none⟩))), (4, .v (.pointer (some ⟨bs, 0, none⟩))), (5, .fn (.func 157) [] [.v (.pointer (some ⟨bs, 0, none⟩))])], .box b1 149 [.v (.pointer (some ⟨bh, 0, none⟩))] :: .box bh 28 (histC h) :: .box bs 188 [.fn (.func 156) [] [.v (.pointer (some ⟨bm, 0, none⟩)), .v (.pointer (some ⟨by_, 0, none⟩))]] :: .box bm 4 [bv (x.2.1).isSome] :: .box by_ 187 [y] :: x.2.2, []⟩) (fun x => e.scan.length - x.1) (0, st2, L) ⟨by omega, hI, hF⟩
        (ent_sub (.cons _ _ _ rfl (.cons _ _ _ rfl (.cons _ _ _ rfl (.cons _ _ _ rfl (.cons _ _ _ rfl (.cons _ _ _ rfl (.cons _ _ _ rfl (.cons _ _ _ rfl (.nil)))))))))) ?_
      rintro ⟨j, st, L⟩ ⟨hj, hI, hF⟩
      simp only at hj hI hF
      refine rn ?_
      refine aw_cond rfl (fun hc73 => ?_) (fun hc73 => ?_)
      · have j2 : j < e.scan.length := by simpa using hc73
        obtain ⟨x, hx⟩ : ∃ x, x = e.scan[j] := ⟨_, rfl⟩
        have hrowx : (e.scan.map seenR)[j]? = some (seenR x) := by rw [hx]; simp [j2]
        have hdx := List.drop_eq_getElem_cons j2
        rw [hdx, ← hx] at hF
        simp only [List.flatMap_cons, seenL, List.cons_append, List.append_assoc] at hF
        obtain ⟨hx, hF⟩ := hF.cons
        obtain ⟨hkx, hF⟩ := hF.app
        refine rn ?_
        refine aw_draw 8 rfl ?_
        refine rn ?_
        refine aops_e rfl (oe_call rfl rfl (FCall.fr3 (FCall.of_acall (fs := []) (cs := [.v (.pointer (some ⟨bm, 0, none⟩)), .v (.pointer (some ⟨by_, 0, none⟩))]) (sayR step ok IJ y hy 2 x.o hx _ bm by_ _ _ hI))) rfl ?_)
        rintro _ _ ⟨_, rfl, L, hI, rfl⟩
        refine rn ?_
        refine aops_e rfl (oe_call rfl rfl (FCall.fr2 (FCall.of_acall (fs := []) (cs := [.v (.pointer (some ⟨bs, 0, none⟩))]) (madeR step ok IJ y hy x.v hkx _ bs bm by_ _ _ hI))) rfl ?_)
        rintro _ _ ⟨_, rfl, L, hI, rfl⟩
        refine rn ?_
        exact ⟨(j + 1, _, L), ⟨by omega, hI, hF⟩, (ent_sub (.cons _ _ _ rfl (.cons _ _ _ rfl (.cons _ _ _ rfl (.cons _ _ _ rfl (.cons _ _ _ rfl (.cons _ _ _ rfl (.cons _ _ _ rfl (.cons _ _ _ rfl (.nil)))))))))), by simp only; omega⟩
      · obtain rfl : j = e.scan.length := by
          have : e.scan.length ≤ j := by simpa using hc73
          omega
        rw [List.drop_length, List.flatMap_nil, List.nil_append] at hF
        refine rn ?_
        exact ⟨(k + 1, _, L), ⟨by omega, hI, hF⟩, (ent_sub (.cons _ _ _ rfl (.cons _ _ _ rfl (.cons _ _ _ rfl (.cons _ _ _ rfl (.cons _ _ _ rfl (.nil))))))), by simp only; omega⟩
  · obtain rfl : k = h.evs.length := by
      have : h.evs.length ≤ k := by simpa using hc23
      omega
    rw [List.drop_length, List.flatMap_nil, List.nil_append] at hF
    refine rn ?_
    refine aw_loop' (fun x : Nat × Option σ × List Res => x.1 ≤ h.ords.length ∧ IJ x.2.1 x.2.2 ∧ Rem step ok x.2.1 (((h.ords.drop x.1).flatMap ordL) ++ (h.mats.flatMap matL ++ h.wants.flatMap wanL)) (goes step (some s0) (spokenL h))) (fun x => ⟨[(100, iv x.1), (99, iv (h.ords.map ordR).length), (1, .v (.pointer (some ⟨b1, 0, none⟩))), (4, .v (.pointer (some ⟨bs, 0, none⟩))), (5, .fn (.func 157) [] [.v (.pointer (some ⟨bs, 0, none⟩))])], .box b1 149 [.v (.pointer (some ⟨bh, 0, none⟩))] :: .box bh 28 (histC h) :: .box bs 188 [.fn (.func 156) [] [.v (.pointer (some ⟨bm, 0, none⟩)), .v (.pointer (some ⟨by_, 0, none⟩))]] :: .box bm 4 [bv (x.2.1).isSome] :: .box by_ 187 [y] :: x.2.2, []⟩) (fun x => h.ords.length - x.1) (0, st, L) ⟨by omega, hI, hF⟩
      (ent_sub (.cons _ _ _ rfl (.cons _ _ _ rfl (.cons _ _ _ rfl (.cons _ _ _ rfl (.cons _ _ _ rfl (.nil))))))) ?_
    rintro ⟨k, st, L⟩ ⟨hk, hI, hF⟩
    simp only at hk hI hF
    refine rn ?_
    refine aw_cond rfl (fun hc101 => ?_) (fun hc101 => ?_)
    · have k2 : k < h.ords.length := by simpa using hc101
      obtain ⟨r, hr⟩ : ∃ r, r = h.ords[k] := ⟨_, rfl⟩
      have hrowr : (h.ords.map ordR)[k]? = some (ordR r) := by rw [hr]; simp [k2]
      have hdr := List.drop_eq_getElem_cons k2
      rw [hdr, ← hr] at hF
      simp only [List.flatMap_cons, ordL, List.cons_append, List.append_assoc] at hF
      obtain ⟨hx, hF⟩ := hF.cons
      have hle := la.ords
      have hls := la.ordts r (by rw [hr]; simp)
      refine rn ?_
      refine aw_draw 8 rfl ?_
      refine rn ?_
      refine aops_e rfl (oe_call rfl rfl (FCall.fr3 (FCall.of_acall (fs := []) (cs := [.v (.pointer (some ⟨bm, 0, none⟩)), .v (.pointer (some ⟨by_, 0, none⟩))]) (sayR step ok IJ y hy 2 r.o hx _ bm by_ _ _ hI))) rfl ?_)
      rintro _ _ ⟨_, rfl, L, hI, rfl⟩
      refine rn ?_
      refine aw_loop' (fun x : Nat × Option σ × List Res => x.1 ≤ r.ts.length ∧ IJ x.2.1 x.2.2 ∧ Rem step ok x.2.1 (((r.ts.drop x.1).map fun t => ((0 : Nat), t)) ++ (((h.ords.drop (k + 1)).flatMap ordL) ++ (h.mats.flatMap matL ++ h.wants.flatMap wanL))) (goes step (some s0) (spokenL h))) (fun x => ⟨[(121, iv x.1), (120, iv (r.ts.map intR).length), (9, iv k), (100, iv k), (99, iv (h.ords.map ordR).length), (1, .v (.pointer (some ⟨b1, 0, none⟩))), (4, .v (.pointer (some ⟨bs, 0, none⟩))), (5, .fn (.func 157) [] [.v (.pointer (some ⟨bs, 0, none⟩))])], .box b1 149 [.v (.pointer (some ⟨bh, 0, none⟩))] :: .box bh 28 (histC h) :: .box bs 188 [.fn (.func 156) [] [.v (.pointer (some ⟨bm, 0, none⟩)), .v (.pointer (some ⟨by_, 0, none⟩))]] :: .box bm 4 [bv (x.2.1).isSome] :: .box by_ 187 [y] :: x.2.2, []⟩) (fun x => r.ts.length - x.1) (0, _, L) ⟨by omega, hI, hF⟩
        (ent_sub (.cons _ _ _ rfl (.cons _ _ _ rfl (.cons _ _ _ rfl (.cons _ _ _ rfl (.cons _ _ _ rfl (.cons _ _ _ rfl (.cons _ _ _ rfl (.cons _ _ _ rfl (.nil)))))))))) ?_
      rintro ⟨j, st, L⟩ ⟨hj, hI, hF⟩
      simp only at hj hI hF
      refine rn ?_
      refine aw_cond rfl (fun hc122 => ?_) (fun hc122 => ?_)
      · have j2 : j < r.ts.length := by simpa using hc122
        obtain ⟨t, ht⟩ : ∃ t, t = r.ts[j] := ⟨_, rfl⟩
        have hrowt : (r.ts.map intR)[j]? = some (intR t) := by rw [ht]; simp [j2]
        have hdt := List.drop_eq_getElem_cons j2
        rw [hdt, ← ht] at hF
        simp only [List.map_cons, List.cons_append] at hF
        obtain ⟨hx, hF⟩ := hF.cons
        refine rn ?_
        refine aw_draw 11 rfl ?_
        refine rn ?_
        refine aops_e rfl (oe_call rfl rfl (FCall.fr3 (FCall.of_acall (fs := []) (cs := [.v (.pointer (some ⟨bm, 0, none⟩)), .v (.pointer (some ⟨by_, 0, none⟩))]) (sayR step ok IJ y hy 0 t hx _ bm by_ _ _ hI))) rfl ?_)
        rintro _ _ ⟨_, rfl, L, hI, rfl⟩
        refine rn ?_
        exact ⟨(j + 1, _, L), ⟨by omega, hI, hF⟩, (ent_sub (.cons _ _ _ rfl (.cons _ _ _ rfl (.cons _ _ _ rfl (.cons _ _ _ rfl (.cons _ _ _ rfl (.cons _ _ _ rfl (.cons _ _ _ rfl (.cons _ _ _ rfl (.nil)))))))))), by simp only; omega⟩
      · obtain rfl : j = r.ts.length := by
          have : r.ts.length ≤ j := by simpa using hc122
          omega
        rw [List.drop_length, List.map_nil, List.nil_append] at hF
        refine rn ?_
        exact ⟨(k + 1, _, L), ⟨by omega, hI, hF⟩, (ent_sub (.cons _ _ _ rfl (.cons _ _ _ rfl (.cons _ _ _ rfl (.cons _ _ _ rfl (.cons _ _ _ rfl (.nil))))))), by simp only; omega⟩
    · obtain rfl : k = h.ords.length := by
        have : h.ords.length ≤ k := by simpa using hc101
        omega
      rw [List.drop_length, List.flatMap_nil, List.nil_append] at hF
      refine rn ?_
      refine aw_loop' (fun x : Nat × Option σ × List Res => x.1 ≤ h.mats.length ∧ IJ x.2.1 x.2.2 ∧ Rem step ok x.2.1 (((h.mats.drop x.1).flatMap matL) ++ h.wants.flatMap wanL) (goes step (some s0) (spokenL h))) (fun x => ⟨[(143, iv x.1), (142, iv (h.mats.map matR).length), (1, .v (.pointer (some ⟨b1, 0, none⟩))), (4, .v (.pointer (some ⟨bs, 0, none⟩))), (5, .fn (.func 157) [] [.v (.pointer (some ⟨bs, 0, none⟩))])], .box b1 149 [.v (.pointer (some ⟨bh, 0, none⟩))] :: .box bh 28 (histC h) :: .box bs 188 [.fn (.func 156) [] [.v (.pointer (some ⟨bm, 0, none⟩)), .v (.pointer (some ⟨by_, 0, none⟩))]] :: .box bm 4 [bv (x.2.1).isSome] :: .box by_ 187 [y] :: x.2.2, []⟩) (fun x => h.mats.length - x.1) (0, st, L) ⟨by omega, hI, hF⟩
        (ent_sub (.cons _ _ _ rfl (.cons _ _ _ rfl (.cons _ _ _ rfl (.cons _ _ _ rfl (.cons _ _ _ rfl (.nil))))))) ?_
      rintro ⟨k, st, L⟩ ⟨hk, hI, hF⟩
      simp only at hk hI hF
      refine rn ?_
      refine aw_cond rfl (fun hc144 => ?_) (fun hc144 => ?_)
      · have k2 : k < h.mats.length := by simpa using hc144
        obtain ⟨r, hr⟩ : ∃ r, r = h.mats[k] := ⟨_, rfl⟩
        have hrowr : (h.mats.map matR)[k]? = some (matR r) := by rw [hr]; simp [k2]
        have hdr := List.drop_eq_getElem_cons k2
        rw [hdr, ← hr] at hF
        simp only [List.flatMap_cons, matL, List.cons_append, List.append_assoc] at hF
        obtain ⟨hx, hF⟩ := hF.cons
        obtain ⟨hx2, hF⟩ := hF.cons
        have hle := la.mats
        have hls := la.matts r (by rw [hr]; simp)
        refine rn ?_
        refine aw_draw 4 rfl ?_
        refine rn ?_
        refine aops_e rfl (oe_call rfl rfl (FCall.fr3 (FCall.of_acall (fs := []) (cs := [.v (.pointer (some ⟨bm, 0, none⟩)), .v (.pointer (some ⟨by_, 0, none⟩))]) (sayR step ok IJ y hy 3 r.p hx _ bm by_ _ _ hI))) rfl ?_)
        rintro _ _ ⟨_, rfl, L, hI, rfl⟩
        refine rn ?_
        refine aw_draw 4 rfl ?_
        refine rn ?_
        refine aops_e rfl (oe_call rfl rfl (FCall.fr3 (FCall.of_acall (fs := []) (cs := [.v (.pointer (some ⟨bm, 0, none⟩)), .v (.pointer (some ⟨by_, 0, none⟩))]) (sayR step ok IJ y hy 2 r.o hx2 _ bm by_ _ _ hI))) rfl ?_)
        rintro _ _ ⟨_, rfl, L, hI, rfl⟩
        refine rn ?_
        refine aw_loop' (fun x : Nat × Option σ × List Res => x.1 ≤ r.ts.length ∧ IJ x.2.1 x.2.2 ∧ Rem step ok x.2.1 (((r.ts.drop x.1).map fun t => ((0 : Nat), t)) ++ (((h.mats.drop (k + 1)).flatMap matL) ++ h.wants.flatMap wanL)) (goes step (some s0) (spokenL h))) (fun x => ⟨[(167, iv x.1), (166, iv (r.ts.map intR).length), (12, .pp (matR r)), (143, iv k), (142, iv (h.mats.map matR).length), (1, .v (.pointer (some ⟨b1, 0, none⟩))), (4, .v (.pointer (some ⟨bs, 0, none⟩))), (5, .fn (.func 157) [] [.v (.pointer (some ⟨bs, 0, none⟩))])], .box b1 149 [.v (.pointer (some ⟨bh, 0, none⟩))] :: .box bh 28 (histC h) :: .box bs 188 [.fn (.func 156) [] [.v (.pointer (some ⟨bm, 0, none⟩)), .v (.pointer (some ⟨by_, 0, none⟩))]] :: .box bm 4 [bv (x.2.1).isSome] :: .box by_ 187 [y] :: x.2.2, []⟩) (fun x => r.ts.length - x.1) (0, _, L) ⟨by omega, hI, hF⟩
          (ent_sub (.cons _ _ _ rfl (.cons _ _ _ rfl (.cons _ _ _ rfl (.cons _ _ _ rfl (.cons _ _ _ rfl (.cons _ _ _ rfl (.cons _ _ _ rfl (.cons _ _ _ rfl (.nil)))))))))) ?_
        rintro ⟨j, st, L⟩ ⟨hj, hI, hF⟩
        simp only at hj hI hF
        refine rn ?_
        refine aw_cond rfl (fun hc168 => ?_) (fun hc168 => ?_)
        · have j2 : j < r.ts.length := by simpa using hc168
          obtain ⟨t, ht⟩ : ∃ t, t = r.ts[j] := ⟨_, rfl⟩
          have hrowt : (r.ts.map intR)[j]? = some (intR t) := by rw [ht]; simp [j2]
          have hdt := List.drop_eq_getElem_cons j2
          rw [hdt, ← ht] at hF
          simp only [List.map_cons, List.cons_append] at hF
          obtain ⟨hx, hF⟩ := hF.cons
          refine rn ?_
          refine aw_draw 7 rfl ?_
          refine rn ?_
          refine aops_e rfl (oe_call rfl rfl (FCall.fr3 (FCall.of_acall (fs := []) (cs := [.v (.pointer (some ⟨bm, 0, none⟩)), .v (.pointer (some ⟨by_, 0, none⟩))]) (sayR step ok IJ y hy 0 t hx _ bm by_ _ _ hI))) rfl ?_)
          rintro _ _ ⟨_, rfl, L, hI, rfl⟩
          refine rn ?_
          exact ⟨(j + 1, _, L), ⟨by omega, hI, hF⟩, (ent_sub (.cons _ _ _ rfl (.cons _ _ _ rfl (.cons _ _ _ rfl (.cons _ _ _ rfl (.cons _ _ _ rfl (.cons _ _ _ rfl (.cons _ _ _ rfl (.cons _ _ _ rfl (.nil)))))))))), by simp only; omega⟩
        · obtain rfl : j = r.ts.length := by
            have : r.ts.length ≤ j := by simpa using hc168
            omega
          rw [List.drop_length, List.map_nil, List.nil_append] at hF
          refine rn ?_
          exact ⟨(k + 1, _, L), ⟨by omega, hI, hF⟩, (ent_sub (.cons _ _ _ rfl (.cons _ _ _ rfl (.cons _ _ _ rfl (.cons _ _ _ rfl (.cons _ _ _ rfl (.nil))))))), by simp only; omega⟩
      · obtain rfl : k = h.mats.length := by
          have : h.mats.length ≤ k := by simpa using hc144
          omega
        rw [List.drop_length, List.flatMap_nil, List.nil_append] at hF
        refine rn ?_
        refine aw_loop' (fun x : Nat × Option σ × List Res => x.1 ≤ h.wants.length ∧ IJ x.2.1 x.2.2 ∧ Rem step ok x.2.1 (((h.wants.drop x.1).flatMap wanL) ++ []) (goes step (some s0) (spokenL h))) (fun x => ⟨[(185, iv x.1), (184, iv (h.wants.map wanR).length), (1, .v (.pointer (some ⟨b1, 0, none⟩))), (4, .v (.pointer (some ⟨bs, 0, none⟩))), (5, .fn (.func 157) [] [.v (.pointer (some ⟨bs, 0, none⟩))])], .box b1 149 [.v (.pointer (some ⟨bh, 0, none⟩))] :: .box bh 28 (histC h) :: .box bs 188 [.fn (.func 156) [] [.v (.pointer (some ⟨bm, 0, none⟩)), .v (.pointer (some ⟨by_, 0, none⟩))]] :: .box bm 4 [bv (x.2.1).isSome] :: .box by_ 187 [y] :: x.2.2, []⟩) (fun x => h.wants.length - x.1) (0, st, L) ⟨by omega, hI, by rw [List.append_nil]; exact hF⟩
          (ent_sub (.cons _ _ _ rfl (.cons _ _ _ rfl (.cons _ _ _ rfl (.cons _ _ _ rfl (.cons _ _ _ rfl (.nil))))))) ?_
        rintro ⟨k, st, L⟩ ⟨hk, hI, hF⟩
        simp only at hk hI hF
        refine rn ?_
        refine aw_cond rfl (fun hc186 => ?_) (fun hc186 => ?_)
        · have k2 : k < h.wants.length := by simpa using hc186
          obtain ⟨r, hr⟩ : ∃ r, r = h.wants[k] := ⟨_, rfl⟩
          have hrowr : (h.wants.map wanR)[k]? = some (wanR r) := by rw [hr]; simp [k2]
          have hdr := List.drop_eq_getElem_cons k2
          rw [hdr, ← hr] at hF
          simp only [List.flatMap_cons, wanL, List.cons_append, List.append_assoc, List.nil_append] at hF
          obtain ⟨hx, hF⟩ := hF.cons
          have hle := la.wants
          refine rn ?_
          refine aw_draw 8 rfl ?_
          refine rn ?_
          refine aops_e rfl (oe_call rfl rfl (FCall.fr3 (FCall.of_acall (fs := []) (cs := [.v (.pointer (some ⟨bm, 0, none⟩)), .v (.pointer (some ⟨by_, 0, none⟩))]) (sayR step ok IJ y hy 1 r.s hx _ bm by_ _ _ hI))) rfl ?_)
          rintro _ _ ⟨_, rfl, L, hI, rfl⟩
          refine rn ?_
          exact ⟨(k + 1, _, L), ⟨by omega, hI, hF⟩, (ent_sub (.cons _ _ _ rfl (.cons _ _ _ rfl (.cons _ _ _ rfl (.cons _ _ _ rfl (.cons _ _ _ rfl (.nil))))))), by simp only; omega⟩
        · obtain rfl : k = h.wants.length := by
            have : h.wants.length ≤ k := by simpa using hc186
            omega
          rw [List.drop_length, List.flatMap_nil, List.nil_append] at hF
          refine rn ?_
          have hF' : st = goes step (some s0) (spokenL h) := hF.fin
          exact retq_n .nil (.trans (.perm ((pt2 _ _ _ _).trans (.cons _ ((pt2 _ _ _ _).trans (.cons _ (pt2 _ _ _ _))))) _) (.drop [_, _, _] _ _)) ⟨L, hF' ▸ hI, rfl⟩
theorem spoken (bh : Nat) (h : List Res) : ACall Tryz.prog 107 [.v (.pointer (some ⟨bh, 0, none⟩))] h (fun r h' => ∃ b1, h' = .box b1 149 [.v (.pointer (some ⟨bh, 0, none⟩))] :: h ∧ r = .fn (.func 155) [] [.v (.pointer (some ⟨b1, 0, none⟩))]) := by
  refine acall_of_aw Tryz.func107 rfl rfl rfl ?_
  refine rn ?_
  refine aops_e rfl (oe_box rfl rfl rfl fun b1 => ?_)
  refine rn ?_
  exact retq (.cons _ _ _ _ (.tmp _ _ rfl) .nil) (.refl _ _) ⟨_, rfl, rfl⟩
end Go.Proofs
/- The walk of history.Check. Conditions: none. -/
set_option linter.unusedVariables false
set_option linter.unusedSimpArgs false
set_option maxRecDepth 10000
namespace Go.Proofs
open Go Go.Ab
attribute [local irreducible] QR QV OE aops aw dsoup dsoupM dalloc dallocM thn inBlk
open Go.H
def IJC (lp : LP) (q b2 b3 : Nat) : Option (List Int) → List Res → Prop
  | some m, L => L = lp .ready none :: .defs q :: .box b3 112 ((m).map iv) :: .box b2 33 [iv 0] :: [.glob 1 112 limitsC, .glob 2 234 firstC, .glob 3 237 acceptC] ∧ m.length = 4
  | none, L => ∃ m : List Int, L = lp .done (some .ret) :: .defs q :: .box b3 112 ((m).map iv) :: .box b2 33 [iv 210] :: [.glob 1 112 limitsC, .glob 2 234 firstC, .glob 3 237 acceptC]
theorem check (h : Hist) (la : Lim 4611686018427387904 h) : ACall Tryz.prog 49 [.agg (histC h)] [.glob 1 112 limitsC, .glob 2 234 firstC, .glob 3 237 acceptC] (fun r h' => h' = [.glob 1 112 limitsC, .glob 2 234 firstC, .glob 3 237 acceptC] ∧ r = iv (checkE h)) := by
  refine acall_of_aw Tryz.func49 rfl rfl rfl ?_
  refine rn ?_
  refine aops_e rfl (oe_box rfl rfl rfl fun b1 => ?_)
  refine aops_e rfl (oe_alloc rfl fun b2 => ?_)
  refine rn ?_
  refine qv rfl rfl (qv_call rfl rfl (FCall.qt (FCall.of_fun (shaped h la)) ((pt2 _ _ _ _).trans (.cons _ ((pt2 _ _ _ _).trans (.cons _ (pt2 _ _ _ _))))))) ?_
  refine rn ?_
  refine aw_cond rfl (fun hc10 => ?_) (fun hc10 => ?_)
  · have hs : shapedB h = false := not_t hc10
    refine rn ?_
    exact retq (.cons _ _ _ _ (.one _ _ _ _ _ _ _ rfl inferInstance inferInstance rfl) .nil) (.drop [_, _] _ _) ⟨rfl, congrArg iv (check_no hs).symm⟩
  · have hs : shapedB h = true := not_f hc10
    refine rn ?_
    refine aops_e rfl (oe_alloc rfl fun b3 => ?_)
    refine rn ?_
    refine aops_e rfl (oe_call rfl rfl (FCall.of_fun (spoken b1 _)) rfl ?_)
    rintro _ _ ⟨b1', rfl, rfl⟩
    refine rn ?_
    refine aw_rf (fun pend h'' => (pend = none ∧ ∃ m : List Int, manyL h = some m ∧ m.length = 4 ∧ h'' = .box b1' 149 [.v (.pointer (some ⟨b1, 0, none⟩))] :: .box b1 28 (histC h) :: .box b3 112 ((m).map iv) :: .box b2 33 [iv 0] :: [.glob 1 112 limitsC, .glob 2 234 firstC, .glob 3 237 acceptC]) ∨ (pend = some .ret ∧ manyL h = none ∧ ∃ m : List Int, h'' = .box b1' 149 [.v (.pointer (some ⟨b1, 0, none⟩))] :: .box b1 28 (histC h) :: .box b3 112 ((m).map iv) :: .box b2 33 [iv 210] :: [.glob 1 112 limitsC, .glob 2 234 firstC, .glob 3 237 acceptC])) rfl (fun fn l q lp hlp => ?_) (fun q h'' hK => ?_) (fun q h'' c hK => ?_)
    · suffices hy : ∀ (s : List Int) (L : List Res) (sort : Nat) (n : Int) (cells : List AV), OkN h (sort, n) → IJC lp q b2 b3 (some s) L → FCall Tryz.prog (yv l) [iv sort, .pp (iv n :: cells)] L (fun r h' => r = bv (manyStep s (sort, n)).isSome ∧ IJC lp q b2 b3 (manyStep s (sort, n)) h') by
        refine ACall.mono (ACall.perm ((pt2 _ _ _ _).trans (.cons _ (pt4 _ _ _ _ _ _))) (spokenR manyStep (OkN h) (IJC lp q b2 b3) (yv l) rfl hy h la b1' b1 (shaped_ok hs) [0, 0, 0, 0] _ ⟨rfl, rfl⟩)) ?_
        rintro _ _ ⟨L', hI, rfl⟩
        cases hm : goes manyStep (some [0, 0, 0, 0]) (spokenL h) with
        | some m =>
          rw [hm] at hI
          obtain ⟨rfl, hl⟩ := hI
          exact ⟨_, _, _, ((pt2 _ _ _ _).trans (.cons _ (pt2 _ _ _ _))), by simp, .inl ⟨rfl, m, hm, hl, rfl⟩⟩
        | none =>
          rw [hm] at hI
          obtain ⟨m, rfl⟩ := hI
          exact ⟨_, _, _, ((pt2 _ _ _ _).trans (.cons _ (pt2 _ _ _ _))), by simp, .inr ⟨rfl, hm, m, rfl⟩⟩
      rintro m _ sort n cells ⟨hs4, hn0, hn1⟩ ⟨rfl, hl⟩
      simp only at hs4 hn0 hn1
      have hnm := la.nm sort
      refine fcall_yl hlp rfl rfl ?_
      refine rn ?_
      refine ⟨[(4, iv sort), (5, .pp (iv n :: cells)), (3, .v (.pointer (some ⟨b3, 0, none⟩))), (2, .v (.pointer (some ⟨b2, 0, none⟩)))], (ent_sub (.cons _ _ _ rfl (.cons _ _ _ rfl (.cons _ _ _ rfl (.cons _ _ _ rfl (.nil)))))), ?_⟩
      refine rn ?_
      refine aw_draw 6 rfl ?_
      refine dq rfl rfl qrA ?_
      refine dq rfl rfl qrA ?_
      refine dq rfl rfl qrA ?_
      refine dq rfl rfl qrA ?_
      refine dq rfl rfl (qr_indexAddr_arr rfl rfl hs4) ?_
      refine dq rfl rfl (qr_load_one rfl (get4 hl hs4)) ?_
      refine rn ?_
      refine aw_cond rfl (fun hc20 => ?_) (fun hc20 => ?_)
      · refine rn ?_
        have hst : manyStep m (sort, n) = none := by rw [manyStep]; exact if_pos (by simpa using hc20)
        exact round_r (.refl _) (by rw [hst]; exact ⟨rfl, _, rfl⟩)
      · refine rn ?_
        refine aw_draw 9 rfl ?_
        refine dq rfl rfl qrA ?_
        refine dq rfl rfl qrA ?_
        refine dq rfl rfl (qr_indexAddr_arr rfl rfl hs4) ?_
        refine dq rfl rfl (qr_load_one rfl (get4 hl hs4)) ?_
        refine rn2 ?_
        refine qq rfl rfl (qr_indexAddr_arr rfl rfl hs4) ?_
        refine aops_e rfl (oe_store rfl rfl rfl rfl (by simp [hl]; omega) ?_)
        refine rn ?_
        have hst : manyStep m (sort, n) = some (m.set sort (max (m.getD sort 0) (n + 1))) := by rw [manyStep]; exact if_neg (by simpa using hc20)
        exact round_n (.refl _) (by rw [hst]; exact ⟨rfl, by rw [← set4 hl hs4]; rfl, by simpa using hl⟩)
    · obtain ⟨_, m, hm, hl, rfl⟩ | ⟨hc, _⟩ := hK
      rotate_left
      · cases hc
      refine rn ?_
      refine qv rfl rfl (qv_call rfl rfl (pcall (names _) (Sbs.refl _))) ?_
      refine rn ?_
      refine aw_loop' (fun k : Nat => k ≤ 4 ∧ ∀ j, j < k → m.getD j 0 = (nmK h j).length) (fun k => ⟨[(33, iv k), (32, .agg (namesC h)), (3, .v (.pointer (some ⟨b3, 0, none⟩))), (2, .v (.pointer (some ⟨b2, 0, none⟩)))], .defs q :: .box b1' 149 [.v (.pointer (some ⟨b1, 0, none⟩))] :: .box b1 28 (histC h) :: .box b3 112 ((m).map iv) :: .box b2 33 [iv 0] :: [.glob 1 112 limitsC, .glob 2 234 firstC, .glob 3 237 acceptC], [q]⟩) (fun k => 4 - k) 0 ⟨by omega, fun j hj => absurd hj (Nat.not_lt_zero j)⟩
        (ent_sub (.cons _ _ _ rfl (.cons _ _ _ rfl (.cons _ _ _ rfl (.cons _ _ _ rfl (.nil)))))) ?_
      rintro k ⟨hk, hz⟩
      refine rn ?_
      refine aw_cond rfl (fun hc34 => ?_) (fun hc34 => ?_)
      · have hk4 : k < 4 := by simp at hc34; omega
        refine aw_skip ?_
        refine thn_n ?_
        refine aw_seq ?_
        refine aw_block ?_
        refine aw_seq (aw_region ?_)
        refine q1 ?_
        refine qq rfl rfl (qr_index_arr_one rfl rfl (by omega) (by have := nmK_get h hk4; simpa using this)) ?_
        refine q1 ?_
        refine q1 ?_
        refine aops_nil (thn_n ?_)
        refine aw_seq (aw_region ?_)
        refine q1 ?_
        refine qq rfl rfl (qr_indexAddr_arr rfl rfl hk4) ?_
        refine qq rfl rfl (qr_load_one rfl (get4 hl hk4)) ?_
        refine rn ?_
        refine aw_cond rfl (fun hc42 => ?_) (fun hc42 => ?_)
        · refine rn ?_
          exact retqd (.refl _) (.cons _ _ _ _ (.one _ _ _ _ _ _ _ rfl inferInstance inferInstance rfl) .nil) (.drop [_, _, _, _] _ _) ⟨rfl, congrArg iv (check_ne hm hk4 (by simpa using hc42)).symm⟩
        · refine rn ?_
          exact ⟨k + 1, ⟨by omega, fun j hj => by
            by_cases hjk : j = k
            · subst hjk; simpa using hc42
            · exact hz j (by omega)⟩, (ent_sub (.cons _ _ _ rfl (.cons _ _ _ rfl (.cons _ _ _ rfl (.cons _ _ _ rfl (.nil)))))), by omega⟩
      · have hk4 : k = 4 := by simp at hc34; omega
        subst hk4
        refine rn ?_
        exact retqd (.refl _) (.cons _ _ _ _ (.one _ _ _ _ _ _ _ rfl inferInstance inferInstance rfl) .nil) (.drop [_, _, _, _] _ _) ⟨rfl, congrArg iv (check_eq hs hm hl hz).symm⟩
    · obtain ⟨hc, _⟩ | ⟨hc, hm, m, rfl⟩ := hK
      · cases hc
      obtain rfl : c = .ret := by simpa using hc
      refine rn ?_
      exact retqd (.refl _) (.cons _ _ _ _ (.one _ _ _ _ _ _ _ rfl inferInstance inferInstance rfl) .nil) (.drop [_, _, _, _] _ _) ⟨rfl, congrArg iv (check_none hm).symm⟩
end Go.Proofs
/- The walks of rules.First, Place, Sound, Writers. Conditions: none. -/
set_option linter.unusedVariables false
set_option linter.unusedSimpArgs false
set_option maxRecDepth 10000
namespace Go.Proofs
open Go Go.Ab
attribute [local irreducible] QR QV OE aops aw dsoup dsoupM dalloc dallocM thn inBlk jsoup jch lsoup
open Go.H
/-- What the rules ask: the functions, as they are laid. -/
def asksC : List AV := [.any, .fn (.func 236) [] [], .fn (.func 238) [] [], .fn (.func 239) [] [], .fn (.func 240) [] [], .fn (.func 241) [] [], .fn (.func 242) [] [], .fn (.func 243) [] [], .fn (.func 244) [] [], .fn (.func 245) [] [], .fn (.func 246) [] []]
def askF (k : Nat) : AV := asksC.getD k .any
theorem ask_get {k : Nat} (h2 : k ≤ 10) : asksC[k]? = some (askF k) := by
  have : k < asksC.length := by show k < 11; omega
  rw [askF, List.getD_eq_getElem?_getD, List.getElem?_eq_getElem this]; rfl
theorem ask_call (h : Hist) (la : Lim 3000 h) (b : Nat) (G : List Res) {k : Nat} (h1 : 1 ≤ k) (h2 : k ≤ 10) : FCall Tryz.prog (askF k) [.v (.pointer (some ⟨b, 0, none⟩))] (.box b 109 (lookN h) :: G) (fun r h' => h' = G ∧ r = placeV (placeP h k)) := by
  match k, h1, h2 with
  | 1, _, _ => exact FCall.of_acall (fs := []) (cs := []) (rBegin h la b G)
  | 2, _, _ => exact FCall.of_acall (fs := []) (cs := []) (rEnd h la b G)
  | 3, _, _ => exact FCall.of_acall (fs := []) (cs := []) (rCount h la b G)
  | 4, _, _ => exact FCall.of_acall (fs := []) (cs := []) (rWritten h la b G)
  | 5, _, _ => exact FCall.of_acall (fs := []) (cs := []) (rOwn h la b G)
  | 6, _, _ => exact FCall.of_acall (fs := []) (cs := []) (rScan h la b G)
  | 7, _, _ => exact FCall.of_acall (fs := []) (cs := []) (rOrder h la b G)
  | 8, _, _ => exact FCall.of_acall (fs := []) (cs := []) (rMissing h la b G)
  | 9, _, _ => exact FCall.of_acall (fs := []) (cs := []) (rMatch h la b G)
  | 10, _, _ => exact FCall.of_acall (fs := []) (cs := []) (rWant h la b G)
  | k + 11, _, h2 => omega
theorem place_t {o : Option Nat} {i : Int} {b : Bool} (h : placeV o = .tup [iv i, bv b]) : i = natI o ∧ b = o.isSome := by
  cases o with
  | none => simp only [placeV, AV.tup.injEq, List.cons.injEq, AV.v.injEq, Value.int.injEq, Value.bool.injEq, true_and, and_true] at h; exact ⟨h.1.symm, h.2.symm⟩
  | some n => simp only [placeV, AV.tup.injEq, List.cons.injEq, AV.v.injEq, Value.int.injEq, Value.bool.injEq, true_and, and_true] at h; exact ⟨h.1.symm, h.2.symm⟩
theorem may3000 {h : Hist} (hm : mayB h = true) : Lim 3000 h := by
  unfold mayB at hm; simp only [Bool.and_eq_true] at hm; exact shaped_lim hm.1
theorem rFirst (h : Hist) (la : Lim 4611686018427387904 h) : ACall Tryz.prog 16 [.agg (histC h)] [.glob 1 112 limitsC, .glob 2 234 firstC, .glob 3 237 acceptC, .glob 0 102 asksC] (fun r h' => h' = [.glob 1 112 limitsC, .glob 2 234 firstC, .glob 3 237 acceptC, .glob 0 102 asksC] ∧ r = firstAns h) := by
  refine acall_of_aw Tryz.func16 rfl rfl rfl ?_
  refine rn ?_
  refine aops_e rfl (oe_box rfl rfl rfl fun b1 => ?_)
  refine aops_e rfl (oe_alloc rfl fun b2 => ?_)
  refine rn ?_
  refine qv rfl rfl (qv_call rfl rfl (FCall.qt (FCall.of_fun (check h la)) ((pt2 _ _ _ _).trans (.cons _ ((pt2 _ _ _ _).trans (.cons _ (pt2 _ _ _ _))))))) ?_
  refine rn ?_
  refine aw_cond rfl (fun hc12 => ?_) (fun hc12 => ?_)
  · have hm : ¬ mayB h = true := by intro q; rw [checkE, if_pos q] at hc12; cases hc12
    have he : checkE h = 210 := by rw [checkE, if_neg hm]
    refine rn ?_
    exact retq (.cons _ _ _ _ (.agg _ _ _ _ _ _ _ rfl inferInstance inferInstance inferInstance rfl) (.cons _ _ _ _ (.tmp _ _ rfl) (.cons _ _ _ _ (.tmp _ _ rfl) .nil))) (.drop [_, _] _ _) ⟨rfl, by rw [firstAns, if_neg hm, he]; rfl⟩
  · have hm : mayB h = true := check_0.1 (by simpa using hc12)
    have la3 := may3000 hm
    refine rn ?_
    refine aw_while (fun k : Nat => (1 ≤ k ∧ k ≤ 11) ∧ firstIn (placeP h) rules10 = firstIn (placeP h) (rules10.drop (k - 1))) (fun k => ⟨[(6, iv k), (1, .v (.pointer (some ⟨b1, 0, none⟩))), (2, .v (.pointer (some ⟨b2, 0, none⟩)))], (.box b2 32 [iv 0, iv 0] :: .box b1 28 (histC h) :: .glob 1 112 limitsC :: .glob 2 234 firstC :: .glob 3 237 acceptC :: .glob 0 102 asksC :: []), []⟩) (fun k => 11 - k) 1 ⟨by omega, rfl⟩ es ?_
    rintro k ⟨⟨k1, k3⟩, zk⟩
    obtain ⟨pi, pb, hpv⟩ : ∃ i b, placeV (placeP h k) = .tup [iv i, bv b] := place_ib _
    obtain ⟨ei, eb⟩ := place_t hpv
    refine rn ?_
    refine aw_cond rfl (fun hc16 => ?_) (fun hc16 => ?_)
    · have k2 : k ≤ 10 := by have := of_decide_eq_true hc16; omega
      refine aw_skip ?_
      refine rn0 ?_
      refine aw_seq ?_
      refine aw_block ?_
      refine aw_seq ?_
      refine aw_drawX 11 [5, 6] [7, 8, 9, 10] (fun he => he = (.box b2 32 [iv 0, iv 0] :: .box b1 28 (histC h) :: .glob 1 112 limitsC :: .glob 2 234 firstC :: .glob 3 237 acceptC :: .glob 0 102 asksC :: []) ∨ ∃ b, he = .box b 109 (lookN h) :: (.box b2 32 [iv 0, iv 0] :: .box b1 28 (histC h) :: .glob 1 112 limitsC :: .glob 2 234 firstC :: .glob 3 237 acceptC :: .glob 0 102 asksC :: [])) rfl rfl (.inl rfl) ?_
      refine jq rfl (fun he hC => by rcases hC with rfl | ⟨b, rfl⟩ <;> exact qrA) ?_
      refine jq rfl (fun he hC => by rcases hC with rfl | ⟨b, rfl⟩ <;> exact (by exact qr_indexAddr_arr rfl rfl (by show k < 11; omega))) ?_
      refine jq rfl (fun he hC => by rcases hC with rfl | ⟨b, rfl⟩ <;> exact (by exact qr_load_one rfl (show asksC[0 + k * 1]? = some (askF k) by rw [Nat.zero_add, Nat.mul_one]; exact ask_get k2))) ?_
      refine jq rfl (fun he hC => by rcases hC with rfl | ⟨b, rfl⟩ <;> exact qrA) ?_
      refine jq rfl (fun he hC => by rcases hC with rfl | ⟨b, rfl⟩ <;> exact (by exact qr_build (out := lookN h) rfl (by rfl))) ?_
      refine je rfl ?_
      refine je rfl ?_
      refine je rfl ?_
      refine je rfl ?_
      refine je rfl ?_
      refine je rfl ?_
      refine jnil ?_
      refine jce rfl fun u => ?_
      refine oe_box rfl rfl rfl fun b5 => ⟨_, _, rfl, .inr ⟨_, rfl⟩, ?_⟩
      refine jce rfl fun u => ?_
      refine oe_call rfl rfl (ask_call h la3 b5 _ k1 k2) rfl ?_
      rintro _ _ ⟨rfl, rfl⟩
      rw [hpv]
      refine ⟨_, _, rfl, .inl rfl, ?_⟩
      refine jcn ?_
      refine lq rfl rfl (by exact qrA) ?_
      refine lq rfl rfl (by exact qrA) ?_
      refine lq rfl rfl (by exact qrA) ?_
      refine lq rfl rfl (by exact qrA) ?_
      refine ln ?_
      refine rn ?_
      refine aw_cond rfl (fun hc29 => ?_) (fun hc29 => ?_)
      · refine rn ?_
        exact retq (.cons _ _ _ _ (.agg _ _ _ _ _ _ _ rfl inferInstance inferInstance inferInstance rfl) (.cons _ _ _ _ (.tmp _ _ rfl) (.cons _ _ _ _ (.tmp _ _ rfl) .nil))) (.drop [_, _] _ _) ⟨rfl, by
          cases hp : placeP h k with
          | none => rw [hp] at eb; rw [eb] at hc29; cases hc29
          | some n => rw [hp] at ei; subst ei; rw [firstAns, if_pos hm, firstH, first_hit k1 k2 zk hp]; rfl⟩
      · refine rn ?_
        exact ⟨k + 1, ⟨by omega, first_step k1 k2 zk (by cases hp : placeP h k with | none => rfl | some n => rw [hp] at eb; rw [eb] at hc29; cases hc29)⟩, eA, by omega⟩
    · have k2 : 11 ≤ k := by have := of_decide_eq_false hc16; omega
      refine rn ?_
      exact retq (.cons _ _ _ _ (.agg _ _ _ _ _ _ _ rfl inferInstance inferInstance inferInstance rfl) (.cons _ _ _ _ (.tmp _ _ rfl) (.cons _ _ _ _ (.tmp _ _ rfl) .nil))) (.drop [_, _] _ _) ⟨rfl, by rw [firstAns, if_pos hm, firstH, first_over k2 k3 zk]; rfl⟩
theorem rSound (h : Hist) (la : Lim 4611686018427387904 h) : ACall Tryz.prog 17 [.agg (histC h)] [.glob 1 112 limitsC, .glob 2 234 firstC, .glob 3 237 acceptC, .glob 0 102 asksC] (fun r h' => h' = [.glob 1 112 limitsC, .glob 2 234 firstC, .glob 3 237 acceptC, .glob 0 102 asksC] ∧ r = bv (soundB h)) := by
  refine acall_of_aw Tryz.func17 rfl rfl rfl ?_
  refine rn ?_
  refine aops_e rfl (oe_box rfl rfl rfl fun b1 => ?_)
  refine q1 ?_
  refine aops_nil (thn_n ?_)
  refine aw_seq (aw_region ?_)
  obtain ⟨fi, fj, fb, fe, hf, hfb⟩ := firstAns_tup h
  refine rn ?_
  refine qv rfl rfl (qv_call rfl rfl (FCall.qt (FCall.of_fun (rFirst h la)) ((pt1 _ _ _).trans (.cons _ ((pt1 _ _ _).trans (.cons _ ((pt1 _ _ _).trans (.cons _ (pt1 _ _ _))))))))) ?_
  rw [hf]
  refine rn ?_
  refine aops_e rfl (oe_alloc rfl fun b3 => ?_)
  refine rn ?_
  refine asplit (fun hg2_2 => ?_) (fun hg2_2 => ?_)
  · refine rn ?_
    refine rq 2 ?_
    exact ⟨rfl, congrArg bv (by rw [hfb]; simp_all)⟩
  · refine rn ?_
    refine rq 2 ?_
    exact ⟨rfl, congrArg bv (by rw [hfb]; simp_all)⟩
end Go.Proofs
/- The listed table of functions, as the walk looks at it. Conditions: none. -/
set_option linter.unusedVariables false
set_option maxRecDepth 100000
namespace Go.Proofs.YtdbfjfphfbcgiaaGreatDoor
open Go Go.Ab Go.H
def asksD : DataW Unit := match (Rows.laid_yardarm_rules_asks : DataW Unit) with | .iface _ d => d | d => d
def namesA : List (List UInt8) := match asksD with | .agg ds => ds.map (fun d => match d with | .iface _ (.lit (.string b)) => b | _ => []) | _ => []
def nm (k : Nat) : List UInt8 := namesA.getD (k + 1) []
theorem asksD_out : asksD.funcsOut = .agg (.nil :: (namesA.drop 1).map .held) := by kernel_rfl
theorem glob_any {w : World} {c : Array Value} {T0 : TypeId} {fr : Nat × Nat} {g : Nat} {T : TypeId} {vs : List AV} (hh : w.heap[g]? = some (.cells c T0 fr)) (hl : vs.length = c.size) (h : ∀ j (h1 : j < vs.length) (h2 : j < c.size), Rel w noX vs[j] c[j]) : (Res.glob g T vs).holds w noX :=
  ⟨fun h => h, (Array.getElem?_eq_some_iff.1 hh).1, c, T0, fr, hh, hl, fun j h1 h2 => h j h1 h2⟩
theorem fn_rel (w : World) (f : Nat) : Rel w noX (.fn (.func f) [] []) (.func (.func f) #[] #[]) := .fn _ _ _ _ _ rfl rfl (fun j h => absurd h (Nat.not_lt_zero _)) (fun j h => absurd h (Nat.not_lt_zero _))
def fnA : List Nat := [236, 238, 239, 240, 241, 242, 243, 244, 245, 246]
theorem asks_one (k : Nat) (hk : k < 10) : ∃ b r, namesA[k + 1]? = some (b :: r) ∧ ((List.range Tryz.prog.funcs.size).filter fun f => (Tryz.prog.funcs[f]?).any (·.name.toUTF8.data.toList == b :: r)) = [fnA.getD k 0] ∧ asksC[k + 1]? = some (.fn (.func (fnA.getD k 0)) [] []) := by
  match k, hk with
  | 0, _ => exact ⟨(nm 0).headD 0, (nm 0).tail, by kernel_rfl, by kernel_rfl, by kernel_rfl⟩
  | 1, _ => exact ⟨(nm 1).headD 0, (nm 1).tail, by kernel_rfl, by kernel_rfl, by kernel_rfl⟩
  | 2, _ => exact ⟨(nm 2).headD 0, (nm 2).tail, by kernel_rfl, by kernel_rfl, by kernel_rfl⟩
  | 3, _ => exact ⟨(nm 3).headD 0, (nm 3).tail, by kernel_rfl, by kernel_rfl, by kernel_rfl⟩
  | 4, _ => exact ⟨(nm 4).headD 0, (nm 4).tail, by kernel_rfl, by kernel_rfl, by kernel_rfl⟩
  | 5, _ => exact ⟨(nm 5).headD 0, (nm 5).tail, by kernel_rfl, by kernel_rfl, by kernel_rfl⟩
  | 6, _ => exact ⟨(nm 6).headD 0, (nm 6).tail, by kernel_rfl, by kernel_rfl, by kernel_rfl⟩
  | 7, _ => exact ⟨(nm 7).headD 0, (nm 7).tail, by kernel_rfl, by kernel_rfl, by kernel_rfl⟩
  | 8, _ => exact ⟨(nm 8).headD 0, (nm 8).tail, by kernel_rfl, by kernel_rfl, by kernel_rfl⟩
  | 9, _ => exact ⟨(nm 9).headD 0, (nm 9).tail, by kernel_rfl, by kernel_rfl, by kernel_rfl⟩
theorem glob3 {w : World} (h : laidMetH Tryz.prog laid4 w) : (Res.glob 0 102 asksC).holds w noX := by
  obtain ⟨g, t, cs, fuel, p, hg, ht, hv, hd⟩ := h.funcs (n := "yardarm/rules.asks") (d := asksD) (.tail _ (.tail _ (.head _)))
  obtain rfl := Option.some.inj ((show Tryz.prog.globalNamed "yardarm/rules.asks" = some 0 by kernel_rfl).symm.trans hg)
  obtain rfl := Option.some.inj ((show (Tryz.prog.globals[0]?).map (·.type) = some 102 by kernel_rfl).symm.trans ht)
  rw [asksD_out] at hd
  have c1 : Tryz.prog.cellsOf 101 = 1 := by kernel_rfl
  have c11 : Tryz.prog.cellsOf 102 = 11 := by kernel_rfl
  have hlen : cs.toList.length = 11 := by
    obtain ⟨_, _, _, _, hl, _⟩ := DataW.trod_array Tryz.underlying102 hd
    rw [hl, c11]
  unfold World.var? at hv
  rw [hg] at hv
  simp only [Option.bind_some] at hv
  split at hv
  · rename_i c T0 fr hh
    cases hv
    refine glob_any hh (by rw [show asksC.length = 11 from rfl]; simpa using hlen.symm) fun j h1 h2 => ?_
    cases j with
    | zero => exact .any _
    | succ k =>
      have hk : k < 10 := by have : asksC.length = 11 := rfl; omega
      obtain ⟨b, r, hn, hone, ha⟩ := asks_one k hk
      obtain ⟨f', d, q, e1, e2⟩ := Lib.array_elem Tryz.underlying102 hd (k + 1) (by omega)
      have e1' : d = .held (b :: r) := by
        rw [List.getElem?_cons_succ, List.getElem?_map, List.getElem?_drop, Nat.add_comm 1 k, hn] at e1
        exact (Option.some.inj e1).symm
      subst e1'
      rw [c1, Nat.mul_one, List.drop_eq_getElem_cons (by simpa using h2), List.take_succ_cons, List.take_zero] at e2
      have := func_of_trod (f0 := fnA.getD k 0) Tryz.underlying101 hone e2
      rw [Array.getElem_toList] at this
      rw [this, show asksC[k + 1] = .fn (.func (fnA.getD k 0)) [] [] from Option.some.inj ((List.getElem?_eq_getElem h1).symm.trans ha)]
      exact fn_rel _ _
  · cases hv
theorem laid_hrel4 {W : World} (h : laidMetH Tryz.prog laid4 W) : HRel noX W [.glob 1 112 limitsC, .glob 2 234 firstC, .glob 3 237 acceptC, .glob 0 102 asksC] := by
  obtain ⟨a, b, c, d⟩ := laid_hrel h
  have hO : OO [.glob 1 112 limitsC, .glob 2 234 firstC, .glob 3 237 acceptC] noX = noX := OO_G3
  have hO' : OO [.glob 1 112 limitsC, .glob 2 234 firstC, .glob 3 237 acceptC, .glob 0 102 asksC] noX = noX := by funext b; simp [OO, owns, noX, Res.own]
  refine ⟨by simp [owns, Res.own], fun b hb => by simp [owns, Res.own] at hb, fun b hb => hb.elim, fun r hr => ?_⟩
  rw [hO']
  rw [hO] at d
  simp only [List.mem_cons, List.not_mem_nil, or_false] at hr
  rcases hr with rfl | rfl | rfl | rfl
  · exact d _ (by simp)
  · exact d _ (by simp)
  · exact d _ (by simp)
  · exact glob3 h
theorem OO_G4 : OO [.glob 1 112 limitsC, .glob 2 234 firstC, .glob 3 237 acceptC, .glob 0 102 asksC] noX = noX := by funext b; simp [OO, owns, noX, Res.own]
end Go.Proofs.YtdbfjfphfbcgiaaGreatDoor
/- A loop over so many places with a state of its own; an append behind what was cut off. Conditions: none. -/
set_option linter.unusedVariables false
namespace Go.Ab
open Go
section
variable {P : Program} {ro : Option Nat} {nt : Nat} {c : Code} {Q : Exit → St → Prop} {t : Fr} {h : List Res} {ds : List Nat}
theorem aw_rngX {σ : Type} (n : Nat) (p : Nat → σ → Prop) (inv : Nat → σ → St) (x0 : σ) (hp : p 0 x0) (h0 : Ent nt ⟨t, h, ds⟩ (inv 0 x0))
    (round : ∀ k x, k ≤ n → p k x → aw P ro nt c (thn (fun s' => k < n ∧ ∃ x', p (k + 1) x' ∧ Ent nt s' (inv (k + 1) x')) Q) (inv k x)) : aw P ro nt (.loop c) Q ⟨t, h, ds⟩ :=
  aw_loop' (fun x : Nat × σ => x.1 ≤ n ∧ p x.1 x.2) (fun x => inv x.1 x.2) (fun x => n - x.1) (0, x0) ⟨Nat.zero_le _, hp⟩ h0 fun x hk => aw_mono (fun e s' hq => by
    cases e with
    | normal =>
      obtain ⟨h1, x', h2, h3⟩ := hq
      exact ⟨(x.1 + 1, x'), ⟨h1, h2⟩, h3, by simp only; omega⟩
    | _ => exact hq) (round x.1 x.2 hk.1 hk.2)
end
end Go.Ab
/- The walks of the index's Check and events. Conditions: none. -/
set_option linter.unusedVariables false
set_option linter.unusedSimpArgs false
set_option maxRecDepth 10000
namespace Go.Proofs
open Go Go.Ab
attribute [local irreducible] QR QV OE aops aw dsoup dsoupM dalloc dallocM thn inBlk jsoup jch lsoup
open Go.H
theorem ixCheck (h : Hist) (la : Lim 4611686018427387904 h) : ACall Tryz.prog 38 [.agg (histC h)] [.glob 1 112 limitsC, .glob 2 234 firstC, .glob 3 237 acceptC, .glob 0 102 asksC] (fun r h' => h' = [.glob 1 112 limitsC, .glob 2 234 firstC, .glob 3 237 acceptC, .glob 0 102 asksC] ∧ r = iv (checkI h)) := by
  refine acall_of_aw Tryz.func38 rfl rfl rfl ?_
  refine rn ?_
  refine aops_e rfl (oe_box rfl rfl rfl fun b1 => ?_)
  refine rn ?_
  refine qv rfl rfl (qv_call rfl rfl (FCall.qt (FCall.of_fun (check h la)) ((pt1 _ _ _).trans (.cons _ ((pt1 _ _ _).trans (.cons _ (pt1 _ _ _))))))) ?_
  refine rn ?_
  refine aw_cond rfl (fun hc7 => ?_) (fun hc7 => ?_)
  · have hm : ¬ mayB h = true := by intro q; rw [checkE, if_pos q] at hc7; cases hc7
    have he : checkE h = 210 := by rw [checkE, if_neg hm]
    refine rn ?_
    refine rq 1 ?_
    exact ⟨rfl, by rw [checkI, if_neg hm, he]; rfl⟩
  · have hm : mayB h = true := check_0.1 (by simpa using hc7)
    refine rn ?_
    refine qv rfl rfl (qv_call rfl rfl (FCall.qt (FCall.of_fun (rSound h la)) ((pt1 _ _ _).trans (.cons _ ((pt1 _ _ _).trans (.cons _ ((pt1 _ _ _).trans (.cons _ (pt1 _ _ _))))))))) ?_
    refine rn ?_
    refine aw_cond rfl (fun hc11 => ?_) (fun hc11 => ?_)
    · refine rn ?_
      refine rq 1 ?_
      exact ⟨rfl, by rw [checkI, if_pos hm]; simp_all; rfl⟩
    · refine rn ?_
      refine rq 1 ?_
      exact ⟨rfl, by rw [checkI, if_pos hm]; simp_all; rfl⟩
theorem ixEvents (h : Hist) (kd : Int) (W : List Res) : ACall Tryz.prog 95 [.agg (histC h), iv kd] W (fun r h' => ∃ b1 b2, h' = .box b1 28 (histC h) :: .box b2 3 [iv kd] :: W ∧ r = .fn (.func 135) [] [.v (.pointer (some ⟨b1, 0, none⟩)), .v (.pointer (some ⟨b2, 0, none⟩))]) := by
  refine acall_of_aw Tryz.func95 rfl rfl rfl ?_
  refine rn ?_
  refine aops_e rfl (oe_box rfl rfl rfl fun b2 => ?_)
  refine aops_e rfl (oe_box rfl rfl rfl fun b3 => ?_)
  refine rn ?_
  exact retq (.cons _ _ _ _ (.tmp _ _ rfl) .nil) (.perm (pt1 _ _ _) _) ⟨_, _, rfl, rfl⟩
set_option maxHeartbeats 4000000 in
theorem ixEvents1 {σ : Type} (h : Hist) (la : h.evs.length ≤ 1000000) (kd : Int) (y : AV) (b1 b2 : Nat) (p q : Nat → σ → Prop) (I F : Nat → σ → List Res) (x0 : σ) (hp0 : p 0 x0) (hy : ∀ k x, (hk : k < h.evs.length) → p k x → (h.evs[k].kind == kd) = true → FCall Tryz.prog y [iv k, .agg (evR h.evs[k])] (.box b1 28 (histC h) :: .box b2 3 [iv kd] :: I k x) (fun r h' => ∃ x', (r = bv true ∧ p (k + 1) x' ∧ h' = .box b1 28 (histC h) :: .box b2 3 [iv kd] :: I (k + 1) x') ∨ (r = bv false ∧ q k x' ∧ h' = .box b1 28 (histC h) :: .box b2 3 [iv kd] :: F k x'))) (hs : ∀ k x, (hk : k < h.evs.length) → p k x → (h.evs[k].kind == kd) = false → ∃ x', p (k + 1) x' ∧ I (k + 1) x' = I k x) : ACall Tryz.prog 135 [y, .v (.pointer (some ⟨b1, 0, none⟩)), .v (.pointer (some ⟨b2, 0, none⟩))] (.box b1 28 (histC h) :: .box b2 3 [iv kd] :: I 0 x0) (fun r h' => (∃ x, p h.evs.length x ∧ h' = I h.evs.length x) ∨ ∃ k x, q k x ∧ h' = F k x) := by
  refine acall_of_aw Tryz.func135 rfl rfl rfl ?_
  refine rn ?_
  refine aw_rngX h.evs.length p (fun k x => ⟨[(9, iv k), (0, y), (2, .v (.pointer (some ⟨b2, 0, none⟩))), (7, evsA h.evs), (8, iv (h.evs.map evR).length)], .box b1 28 (histC h) :: .box b2 3 [iv kd] :: I k x, []⟩) x0 hp0 es ?_
  intro k x lk zk
  refine rn ?_
  refine aw_cond rfl (fun hc10 => ?_) (fun hc10 => ?_)
  · have hk := ltMap hc10
    have rk := atRow (f := evR) hk
    refine rn ?_
    refine aops_e rfl (oe_alloc rfl fun b5 => ?_)
    refine rn ?_
    refine asplit (fun hg3_4 => ?_) (fun hg3_4 => ?_)
    · refine q1 ?_
      refine q1 ?_
      refine q1 ?_
      refine aops_e rfl (oe_call rfl rfl (FCall.fr1 (hy k x hk zk (by simpa using hg3_4))) rfl ?_)
      rintro _ _ ⟨_, rfl, x', ⟨rfl, hp, rfl⟩ | ⟨rfl, hq, rfl⟩⟩
      · refine rn ?_
        refine aw_cond rfl (fun hc24 => ?_) (fun hc24 => ?_)
        · first | cases hc24 | exact absurd hc24 (by decide) | (exfalso; simp_all; done)
        · refine rn ?_
          exact ⟨hk, x', hp, eA⟩
      · refine rn ?_
        refine aw_cond rfl (fun hc24 => ?_) (fun hc24 => ?_)
        · refine rn ?_
          exact retq .nil (.drop [_, _, _] _ _) (.inr ⟨k, x', hq, rfl⟩)
        · first | cases hc24 | exact absurd hc24 (by decide) | (exfalso; simp_all; done)
    · refine rn ?_
      refine aw_cf rfl ?_
      refine rn ?_
      obtain ⟨x', hp, e⟩ := hs k x hk zk (by simpa using hg3_4)
      exact ⟨hk, x', hp, by rw [e]; exact eA⟩
  · have qk := geMap hc10 lk
    subst qk
    refine rn ?_
    exact retq_n .nil (.drop [_, _] _ _) (.inl ⟨x, zk, rfl⟩)
end Go.Proofs
/- The walks of the index's gather. Conditions: none. -/
set_option linter.unusedVariables false
set_option linter.unusedSimpArgs false
set_option maxRecDepth 10000
namespace Go.Proofs
open Go Go.Ab
attribute [local irreducible] QR QV OE aops aw dsoup dsoupM dalloc dallocM thn inBlk jsoup jch lsoup
open Go.H
def gatF {α : Type} (kd : Int) (x : Nat → Ev → α) (p : Nat → Ev → Bool) (k : Nat) (e : Ev) : Option α := if (e.kind == kd && p k e) = true then some (x k e) else none
theorem gatF_k {α : Type} {kd : Int} {x : Nat → Ev → α} {p : Nat → Ev → Bool} {k : Nat} {e : Ev} (h : (e.kind == kd) = false) : gatF kd x p k e = none := by rw [gatF, h]; simp
theorem gatF_n {α : Type} {kd : Int} {x : Nat → Ev → α} {p : Nat → Ev → Bool} {k : Nat} {e : Ev} (h : p k e = false) : gatF kd x p k e = none := by rw [gatF, h]; simp
theorem gatF_y {α : Type} {kd : Int} {x : Nat → Ev → α} {p : Nat → Ev → Bool} {k : Nat} {e : Ev} (h1 : (e.kind == kd) = true) (h : p k e = true) : gatF kd x p k e = some (x k e) := by rw [gatF, h1, h]; simp
theorem gatK_n {α : Type} {f : Nat → Ev → Option α} {l : List Ev} {k : Nat} (h : k < l.length) (hf : f k l[k] = none) : gatK f l (k + 1) = gatK f l k := by rw [gatK_s h, hf]; simp
theorem gatK_y {α : Type} {f : Nat → Ev → Option α} {l : List Ev} {k : Nat} {a : α} (h : k < l.length) (hf : f k l[k] = some a) : gatK f l (k + 1) = gatK f l k ++ [a] := by rw [gatK_s h, hf]; rfl
set_option maxHeartbeats 4000000 in
theorem ixGatI (h : Hist) (la : h.evs.length ≤ 1000000) (kd : Int) (fv : AV) (hone : fv.cellsOf = some [fv]) (W : List Res) (x : Nat → Ev → Int) (p : Nat → Ev → Bool) (hp : ∀ k, (hk : k < h.evs.length) → (h.evs[k].kind == kd) = true → FCall Tryz.prog fv [iv k, .agg (evR h.evs[k])] W (fun r h' => h' = W ∧ r = .tup [iv (x k h.evs[k]), bv (p k h.evs[k])])) : ACall Tryz.prog 90 [.agg (histC h), iv kd, fv] W (fun r h' => ∃ s : SV, h' = .row s.v 1 3 ((gatK (gatF kd x p) h.evs h.evs.length).map intR) :: W ∧ r = .v s.v) := by
  refine acall_of_aw Tryz.func90 rfl rfl rfl ?_
  refine rn ?_
  refine aops_e rfl (oe_box rfl rfl rfl fun b3 => ?_)
  refine aops_e rfl (oe_box rfl hone rfl fun b5 => ?_)
  refine rn ?_
  refine aops_e rfl (oe_alloc rfl fun b7 => ?_)
  refine rn ?_
  refine aops_e rfl (oe_call rfl rfl (FCall.of_fun (ixEvents h kd _)) rfl ?_)
  rintro _ _ ⟨b1, b2, rfl, rfl⟩
  refine rn ?_
  refine aw_ent (s' := ⟨[(14, .fn (.func 135) [] [.v (.pointer (some ⟨b1, 0, none⟩)), .v (.pointer (some ⟨b2, 0, none⟩))]), (5, .v (.pointer (some ⟨b5, 0, none⟩))), (7, .v (.pointer (some ⟨b7, 0, none⟩)))], .box b1 28 (histC h) :: .box b2 3 [iv kd] :: .box b7 40 [.v (⟨none, 0, 0⟩ : SV).v] :: .row (⟨none, 0, 0⟩ : SV).v 1 3 ((gatK (gatF kd x p) h.evs 0).map intR) :: .box b5 129 [fv] :: .box b3 28 (histC h) :: W, []⟩) (ent_trans (ent_trans (ent_nilrow 1 3) (ent_perm ((pt1 _ _ _).trans (.cons _ ((pt1 _ _ _).trans (.cons _ (pt1 _ _ _))))))) es) ?_
  refine aw_rf (fun pend h'' => pend = none ∧ ∃ s : SV, h'' = .box b7 40 [.v s.v] :: .row s.v 1 3 ((gatK (gatF kd x p) h.evs h.evs.length).map intR) :: .box b5 129 [fv] :: .box b3 28 (histC h) :: W) rfl (fun fn l q lp hlp => ?_) (fun q h'' hK => ?_) (fun q h'' c hK => ?_)
  · suffices hy : ∀ k (s : SV), (hk : k < h.evs.length) → True → (h.evs[k].kind == kd) = true → FCall Tryz.prog (yv l) [iv k, .agg (evR h.evs[k])] (.box b1 28 (histC h) :: .box b2 3 [iv kd] :: lp .ready none :: .defs q :: .box b7 40 [.v s.v] :: .row s.v 1 3 ((gatK (gatF kd x p) h.evs k).map intR) :: .box b5 129 [fv] :: .box b3 28 (histC h) :: W) (fun r h' => ∃ s' : SV, (r = bv true ∧ True ∧ h' = .box b1 28 (histC h) :: .box b2 3 [iv kd] :: lp .ready none :: .defs q :: .box b7 40 [.v s'.v] :: .row s'.v 1 3 ((gatK (gatF kd x p) h.evs (k + 1)).map intR) :: .box b5 129 [fv] :: .box b3 28 (histC h) :: W) ∨ (r = bv false ∧ False ∧ h' = .box b1 28 (histC h) :: .box b2 3 [iv kd] :: [])) by
      refine ACall.mono (ACall.perm ((pt2 _ _ _ _).trans (.cons _ (pt2 _ _ _ _))) (ixEvents1 h la kd (yv l) b1 b2 (fun _ _ => True) (fun _ _ => False) (fun k (s : SV) => lp .ready none :: .defs q :: .box b7 40 [.v s.v] :: .row s.v 1 3 ((gatK (gatF kd x p) h.evs k).map intR) :: .box b5 129 [fv] :: .box b3 28 (histC h) :: W) (fun _ _ => []) ⟨none, 0, 0⟩ trivial hy (fun k s hk _ hn => ⟨s, trivial, by rw [gatK_n hk (gatF_k hn)]⟩))) ?_
      rintro _ _ (⟨s, _, rfl⟩ | ⟨_, _, hF, _⟩)
      · exact ⟨none, .ready, _, .refl _, by simp, rfl, s, rfl⟩
      · exact hF.elim
    intro k s hk _ hkd
    refine FCall.perm (pt2 _ _ _ _) (FCall.ventE ?_)
    refine fcall_yl2 hlp rfl rfl ?_
    refine rn ?_
    refine aops_e rfl (oe_alloc rfl fun b9 => ?_)
    refine rn ?_
    refine ⟨[(8, iv k), (9, .v (.pointer (some ⟨b9, 0, none⟩))), (5, .v (.pointer (some ⟨b5, 0, none⟩))), (7, .v (.pointer (some ⟨b7, 0, none⟩)))], .box b9 72 (evR h.evs[k]) :: .box b1 28 (histC h) :: .box b2 3 [iv kd] :: .defs q :: .box b7 40 [.v s.v] :: .row s.v 1 3 ((gatK (gatF kd x p) h.evs k).map intR) :: .box b5 129 [fv] :: .box b3 28 (histC h) :: W, ent_trans (ent_perm (pt1 _ _ _)) es, ?_⟩
    refine rn ?_
    refine qv rfl rfl (qv_call rfl rfl (FCall.qt (h2 := [_, _, _, _, _, _, _, _, _]) (hp k hk hkd) (perm_swap [_, _, _, _, _, _, _, _, _] _))) ?_
    refine rn ?_
    refine aw_cond rfl (fun hc24 => ?_) (fun hc24 => ?_)
    · refine aw_region ?_
      refine q1 ?_
      refine q1 ?_
      refine q1 ?_
      refine q1 ?_
      refine q1 ?_
      refine qq rfl rfl (qr_cut_row rfl (by rfl) (by rfl)) ?_
      refine rn ?_
      refine qv rfl rfl (qv_buildSlice rfl rfl) ?_
      refine aops_cut s.v ?_
      refine aops_e rfl (oe_append_row rfl rfl (by simp only [List.length_map, List.length_cons, List.length_nil]; have := gatK_len (gatF kd x p) h.evs k; omega) rfl (fun s33 => ?_) (one_int [x k h.evs[k]]))
      refine aops_slice s33 fun sv hsv => ?_
      subst hsv
      refine rn ?_
      exact round_n (.refl _) ⟨_, _, .trans (.perm ((pt1 _ _ _).trans (.cons _ ((pt1 _ _ _).trans (.cons _ (pt1 _ _ _))))) _) (.drop [_] _ _), sv, .inl ⟨rfl, trivial, by rw [gatK_y hk (gatF_y hkd hc24), List.map_append]; rfl⟩⟩
    · refine rn ?_
      exact round_n (.refl _) ⟨_, _, .trans (.perm ((pt1 _ _ _).trans (.cons _ ((pt1 _ _ _).trans (.cons _ (pt1 _ _ _))))) _) (.drop [_] _ _), s, .inl ⟨rfl, trivial, by rw [gatK_n hk (gatF_n hc24)]⟩⟩
  · obtain ⟨_, s, rfl⟩ := hK
    refine rn ?_
    exact retqd (.refl _) (.cons _ _ _ _ (.tmp _ _ rfl) .nil) (.trans (.drop1 _ _ _) (.trans (.perm (pt1 _ _ _) _) (.trans (.drop [_] _ _) (.trans (.perm (pt1 _ _ _) _) (.drop [_] _ _))))) ⟨s, rfl, rfl⟩
  · obtain ⟨hc, _⟩ := hK
    exact absurd hc (by simp)
end Go.Proofs
/- The walks of the index's closures. Conditions: none. -/
set_option linter.unusedVariables false
set_option linter.unusedSimpArgs false
set_option maxRecDepth 10000
namespace Go.Proofs
open Go Go.Ab
attribute [local irreducible] QR QV OE aops aw dsoup dsoupM dalloc dallocM thn inBlk jsoup jch lsoup
open Go.H
theorem ixTell5 (k : Int) (e : Ev) : ACall Tryz.prog 91 [iv k, .agg (evR e)] [] (fun r h' => h' = [] ∧ r = .tup [iv e.t, bv true]) := by
  refine acall_of_aw Tryz.func91 rfl rfl rfl ?_
  refine rn ?_
  refine aops_e rfl (oe_box rfl rfl rfl fun b3 => ?_)
  refine rn ?_
  refine rq 1 ?_
  exact ⟨rfl, rfl⟩
theorem ixTellO (k s : Int) (e : Ev) (b2 b3 rm : Nat) (M : List (Int × Bool)) : ACall Tryz.prog 138 [iv k, .agg (evR e), .v (.pointer (some ⟨b2, 0, none⟩)), .v (.pointer (some ⟨b3, 0, none⟩))] [.box b2 3 [iv s], .box b3 104 [mpv rm], .map rm (encM intK (mapA bv M))] (fun r h' => h' = [.box b2 3 [iv s], .box b3 104 [mpv rm], .map rm (encM intK (mapA bv M))] ∧ r = .tup [iv e.t, bv (e.o == s && (getT e.t M).getD false)]) := by
  refine acall_of_aw Tryz.func138 rfl rfl rfl ?_
  refine rn ?_
  refine aops_e rfl (oe_box rfl rfl rfl fun b5 => ?_)
  refine rn ?_
  refine aw_draw 13 rfl ?_
  refine rn ?_
  refine dsplit (fun hg1_6 => ?_) (fun hg1_6 => ?_)
  · refine dq rfl rfl qrA ?_
    refine dq rfl rfl qrA ?_
    refine dq rfl rfl qrA ?_
    refine dq rfl rfl (qr_lookT (enc := intK) (k := e.t) false rfl rfl) ?_
    refine rn ?_
    refine rq 1 ?_
    exact ⟨rfl, by rw [hg1_6]; rfl⟩
  · refine rn ?_
    refine rq 1 ?_
    exact ⟨rfl, by rw [hg1_6]; rfl⟩
theorem ixIsO (x : Int) (s : Ord) (b1 : Nat) : ACall Tryz.prog 137 [.agg (ordR s), .v (.pointer (some ⟨b1, 0, none⟩))] [.box b1 3 [iv x]] (fun r h' => h' = [.box b1 3 [iv x]] ∧ r = bv (s.o == x)) := by
  refine acall_of_aw Tryz.func137 rfl rfl rfl ?_
  refine rn ?_
  refine aops_e rfl (oe_box rfl rfl rfl fun b2 => ?_)
  refine rn ?_
  refine rq 1 ?_
  exact ⟨rfl, rfl⟩
set_option maxHeartbeats 4000000 in
theorem ixEnded (h : Hist) (la : h.evs.length ≤ 1000000) (W : List Res) : ACall Tryz.prog 97 [.agg (histC h)] W (fun r h' => ∃ rm, h' = .map rm (encM intK (mapA bv (endM h.evs))) :: W ∧ r = mpv rm) := by
  refine acall_of_aw Tryz.func97 rfl rfl rfl ?_
  refine rn ?_
  refine aops_e rfl (oe_box rfl rfl rfl fun b1 => ?_)
  refine rn ?_
  refine aops_e rfl (oe_makeMap (enc := intK) rfl fun b6 => ?_)
  refine aops_e rfl (oe_alloc rfl fun b3 => ?_)
  refine rn ?_
  refine aops_e rfl (oe_call rfl rfl (FCall.of_fun (ixEvents h 5 _)) rfl ?_)
  rintro _ _ ⟨e1, e2, rfl, rfl⟩
  refine rn ?_
  refine aw_ent (s' := ⟨[(8, .fn (.func 135) [] [.v (.pointer (some ⟨e1, 0, none⟩)), .v (.pointer (some ⟨e2, 0, none⟩))]), (3, .v (.pointer (some ⟨b3, 0, none⟩)))], .box e1 28 (histC h) :: .box e2 3 [iv 5] :: .box b3 104 [mpv b6] :: .map b6 (encM intK (mapA bv (endM (h.evs.take 0)))) :: .box b1 28 (histC h) :: W, []⟩) es ?_
  refine aw_rf (fun pend h'' => pend = none ∧ h'' = .box b3 104 [mpv b6] :: .map b6 (encM intK (mapA bv (endM (h.evs.take h.evs.length)))) :: .box b1 28 (histC h) :: W) rfl (fun fn l q lp hlp => ?_) (fun q h'' hK => ?_) (fun q h'' c hK => ?_)
  · suffices hy : ∀ k (x : Unit), (hk : k < h.evs.length) → True → (h.evs[k].kind == 5) = true → FCall Tryz.prog (yv l) [iv k, .agg (evR h.evs[k])] (.box e1 28 (histC h) :: .box e2 3 [iv 5] :: lp .ready none :: .defs q :: .box b3 104 [mpv b6] :: .map b6 (encM intK (mapA bv (endM (h.evs.take k)))) :: .box b1 28 (histC h) :: W) (fun r h' => ∃ x' : Unit, (r = bv true ∧ True ∧ h' = .box e1 28 (histC h) :: .box e2 3 [iv 5] :: lp .ready none :: .defs q :: .box b3 104 [mpv b6] :: .map b6 (encM intK (mapA bv (endM (h.evs.take (k + 1))))) :: .box b1 28 (histC h) :: W) ∨ (r = bv false ∧ False ∧ h' = .box e1 28 (histC h) :: .box e2 3 [iv 5] :: [])) by
      refine ACall.mono (ACall.perm ((pt2 _ _ _ _).trans (.cons _ (pt2 _ _ _ _))) (ixEvents1 h la 5 (yv l) e1 e2 (fun _ _ => True) (fun _ _ => False) (fun k (_ : Unit) => lp .ready none :: .defs q :: .box b3 104 [mpv b6] :: .map b6 (encM intK (mapA bv (endM (h.evs.take k)))) :: .box b1 28 (histC h) :: W) (fun _ _ => []) () trivial hy (fun k s hk _ hn => ⟨s, trivial, by rw [endM_n hk hn]⟩))) ?_
      rintro _ _ (⟨s, _, rfl⟩ | ⟨_, _, hF, _⟩)
      · exact ⟨none, .ready, _, .refl _, by simp, rfl, rfl⟩
      · exact hF.elim
    intro k s hk _ hkd
    refine FCall.perm (pt2 _ _ _ _) (FCall.ventE ?_)
    refine fcall_yl2 hlp rfl rfl ?_
    refine rn ?_
    refine aops_e rfl (oe_alloc rfl fun b5 => ?_)
    refine rn ?_
    refine ⟨[(5, .v (.pointer (some ⟨b5, 0, none⟩))), (3, .v (.pointer (some ⟨b3, 0, none⟩)))], .box b5 72 (evR h.evs[k]) :: .box e1 28 (histC h) :: .box e2 3 [iv 5] :: .defs q :: .box b3 104 [mpv b6] :: .map b6 (encM intK (mapA bv (endM (h.evs.take k)))) :: .box b1 28 (histC h) :: W, ent_trans (ent_perm (pt1 _ _ _)) es, ?_⟩
    refine rn ?_
    refine aops_e rfl (oe_mapUpdT (g := bv) (enc := intK) (k := h.evs[k].t) (v := true) rfl rfl rfl ?_)
    refine rn ?_
    exact round_n (.refl _) ⟨_, _, .trans (.perm ((pt1 _ _ _).trans (.cons _ ((pt1 _ _ _).trans (.cons _ (pt1 _ _ _))))) _) (.drop [_] _ _), (), .inl ⟨rfl, trivial, by rw [endM_y hk hkd]⟩⟩
  · obtain ⟨_, rfl⟩ := hK
    refine rn ?_
    exact retqd (.refl _) (.cons _ _ _ _ (.tmp _ _ rfl) .nil) (.trans (.drop1 _ _ _) (.trans (.perm (pt1 _ _ _) _) (.drop [_] _ _))) ⟨b6, by rw [List.take_length], rfl⟩
  · obtain ⟨hc, _⟩ := hK
    exact absurd hc (by simp)
end Go.Proofs
/- The walks of the index's ask. Conditions: none. -/
set_option linter.unusedVariables false
set_option linter.unusedSimpArgs false
set_option maxRecDepth 10000
namespace Go.Proofs
open Go Go.Ab
attribute [local irreducible] QR QV OE aops aw dsoup dsoupM dalloc dallocM thn inBlk jsoup jch lsoup
open Go.H
theorem ask_no {h : Hist} {n many : Int} (he : askE h n many ≠ 0) (X : List Int) : (onE (askE h n many) X).map intR = [] := by rw [onE, if_neg he]; rfl
theorem gat_all {α : Type} (kd : Int) (g : Ev → α) (q : Ev → Bool) (l : List Ev) : gatK (gatF kd (fun _ e => g e) (fun _ e => q e)) l l.length = (l.filter fun e => e.kind == kd && q e).map g := gatK_all (fun _ _ => rfl) l
theorem ixAskI (h : Hist) (la : Lim 4611686018427387904 h) (n many : Int) (fv : AV) (hone : fv.cellsOf = some [fv]) (X : List Int) (W : List Res) (hp : askE h n many = 0 → FCall Tryz.prog fv [] (.glob 1 112 limitsC :: .glob 2 234 firstC :: .glob 3 237 acceptC :: .glob 0 102 asksC :: W) (fun r h' => ∃ s : SV, h' = .row s.v 1 3 (X.map intR) :: .glob 1 112 limitsC :: .glob 2 234 firstC :: .glob 3 237 acceptC :: .glob 0 102 asksC :: W ∧ r = .v s.v)) : ACall Tryz.prog 88 [.agg (histC h), iv n, iv many, fv] (.glob 1 112 limitsC :: .glob 2 234 firstC :: .glob 3 237 acceptC :: .glob 0 102 asksC :: W) (fun r h' => ∃ s : SV, h' = .row s.v 1 3 ((onE (askE h n many) X).map intR) :: .glob 1 112 limitsC :: .glob 2 234 firstC :: .glob 3 237 acceptC :: .glob 0 102 asksC :: W ∧ r = .tup [.v s.v, iv (askE h n many)]) := by
  refine acall_of_aw Tryz.func88 rfl rfl rfl ?_
  refine rn ?_
  refine aops_e rfl (oe_box rfl rfl rfl fun b4 => ?_)
  refine rn ?_
  refine qv rfl rfl (qv_call rfl rfl (FCall.qt (FCall.of_fun (ixCheck h la)) ((pt1 _ _ _).trans (.cons _ ((pt1 _ _ _).trans (.cons _ ((pt1 _ _ _).trans (.cons _ (pt1 _ _ _))))))))) ?_
  refine rn ?_
  refine aw_cond rfl (fun hc15 => ?_) (fun hc15 => ?_)
  · have hc : checkI h ≠ 0 := by simpa using hc15
    refine rn ?_
    exact retq (.cons _ _ _ _ (.tmp _ _ rfl) (.cons _ _ _ _ (.tmp _ _ rfl) .nil)) (.trans (.drop [_] _ _) (vent_nilrow 1 3 _)) ⟨⟨none, 0, 0⟩, by rw [ask_no (by rw [ask_c hc]; exact hc)]; rfl, by rw [ask_c hc]; rfl⟩
  · have hc : checkI h = 0 := by simpa using hc15
    refine rn ?_
    refine asplit (fun hg5_2 => ?_) (fun hg5_2 => ?_)
    · refine rn ?_
      refine aw_ct rfl ?_
      have hn : ¬ (0 ≤ n ∧ n < many) := by first | (have q := of_decide_eq_true hg5_2; omega) | (have q := of_decide_eq_true hc24; omega)
      refine rn ?_
      exact retq (.cons _ _ _ _ (.tmp _ _ rfl) (.cons _ _ _ _ (.tmp _ _ rfl) .nil)) (.trans (.drop [_] _ _) (vent_nilrow 1 3 _)) ⟨⟨none, 0, 0⟩, by rw [ask_no (by rw [ask_a hc hn]; decide)]; rfl, by rw [ask_a hc hn]; rfl⟩
    · refine rn ?_
      refine aw_cond rfl (fun hc24 => ?_) (fun hc24 => ?_)
      · have hn : ¬ (0 ≤ n ∧ n < many) := by first | (have q := of_decide_eq_true hg5_2; omega) | (have q := of_decide_eq_true hc24; omega)
        refine rn ?_
        exact retq (.cons _ _ _ _ (.tmp _ _ rfl) (.cons _ _ _ _ (.tmp _ _ rfl) .nil)) (.trans (.drop [_] _ _) (vent_nilrow 1 3 _)) ⟨⟨none, 0, 0⟩, by rw [ask_no (by rw [ask_a hc hn]; decide)]; rfl, by rw [ask_a hc hn]; rfl⟩
      · have hn : 0 ≤ n ∧ n < many := by have q := of_decide_eq_false hg5_2; have q' := of_decide_eq_false hc24; omega
        refine rn ?_
        refine aops_e rfl (oe_call rfl rfl (FCall.fr1 (hp (ask_y hc hn))) rfl ?_)
        rintro _ _ ⟨_, rfl, s, rfl, rfl⟩
        refine rn ?_
        exact retq (.cons _ _ _ _ (.tmp _ _ rfl) (.cons _ _ _ _ (.tmp _ _ rfl) .nil)) (.drop [_] _ _) ⟨s, by rw [ask_y hc hn]; rfl, by rw [ask_y hc hn]; rfl⟩
end Go.Proofs
/- The walks of the index's Committed, Line, Installed. Conditions: none. -/
set_option linter.unusedVariables false
set_option linter.unusedSimpArgs false
set_option maxRecDepth 10000
namespace Go.Proofs
open Go Go.Ab
attribute [local irreducible] QR QV OE aops aw dsoup dsoupM dalloc dallocM thn inBlk jsoup jch lsoup
open Go.H
theorem ask_lim {h : Hist} {n many : Int} (he : askE h n many = 0) : Lim 3000 h := may3000 (sound_may (ask_0 he).1).1
theorem ask_evs {h : Hist} {n many : Int} (he : askE h n many = 0) : h.evs.length ≤ 1000000 := Nat.le_trans (ask_lim he).evs (by decide)
theorem chk_lim {h : Hist} (he : checkI h = 0) : Lim 3000 h := may3000 (sound_may (checkI_0.1 he)).1
theorem comm_gat (l : List Ev) : srt (gatK (gatF 5 (fun _ e => e.t) (fun _ _ => true)) l l.length) = commP l := by
  rw [commP, gat_all 5 Ev.t (fun _ => true)]; simp only [Bool.and_true]
theorem ins_gat (l : List Ev) (x : Int) : gatK (gatF 2 (fun _ e => e.t) (fun _ e => e.o == x && (getT e.t (endM l)).getD false)) l l.length = insL l x := by
  rw [gat_all 2 Ev.t (fun e => e.o == x && (getT e.t (endM l)).getD false), insL]; simp only [endM_get]
theorem ord_at {h : Hist} {x : Int} (hc : decide (fidx (fun o : Ord => o.o == x) 0 h.ords ≥ 0) = true) : ∃ k, ∃ hk : k < h.ords.length, fidx (fun o : Ord => o.o == x) 0 h.ords = (k : Int) ∧ insP h x = h.ords[k].ts := by
  have := fidx_find (fun o : Ord => o.o == x) h.ords 0
  cases hf : h.ords.find? (fun o => o.o == x) with
  | none => rw [hf] at this; simp only at this; rw [this] at hc; exact absurd hc (by decide)
  | some o =>
    rw [hf] at this
    obtain ⟨k, hk, e, eo, _⟩ := this
    exact ⟨k, hk, by rw [e, Nat.zero_add], by rw [insP, hf, eo]⟩
theorem ord_no {h : Hist} {x : Int} (hc : decide (fidx (fun o : Ord => o.o == x) 0 h.ords ≥ 0) = false) : insP h x = cmpct (insL h.evs x) := by
  have := fidx_find (fun o : Ord => o.o == x) h.ords 0
  cases hf : h.ords.find? (fun o => o.o == x) with
  | none => rw [insP, hf]
  | some o =>
    rw [hf] at this
    obtain ⟨k, hk, e, eo, _⟩ := this
    rw [e] at hc
    have := of_decide_eq_false hc
    omega
set_option maxHeartbeats 4000000 in
theorem ixCommS (h : Hist) (la : h.evs.length ≤ 1000000) (b1 : Nat) : ACall Tryz.prog 89 [.v (.pointer (some ⟨b1, 0, none⟩))] (.glob 1 112 limitsC :: .glob 2 234 firstC :: .glob 3 237 acceptC :: .glob 0 102 asksC :: .box b1 28 (histC h) :: []) (fun r h' => ∃ s : SV, h' = .row s.v 1 3 ((commP h.evs).map intR) :: .glob 1 112 limitsC :: .glob 2 234 firstC :: .glob 3 237 acceptC :: .glob 0 102 asksC :: .box b1 28 (histC h) :: [] ∧ r = .v s.v) := by
  refine acall_of_aw Tryz.func89 rfl rfl rfl ?_
  refine rn ?_
  refine aops_e rfl (oe_call rfl rfl (FCall.of_fun (ixGatI h la 5 _ rfl _ (fun _ e => e.t) (fun _ _ => true) (fun k hk _ => FCall.pure (R := fun r => r = _) (FCall.of_fun (ixTell5 k h.evs[k]))))) rfl ?_)
  rintro _ _ ⟨s, rfl, rfl⟩
  refine rn ?_
  refine aops_e rfl (oe_call rfl rfl (fcall_row0 (FCall.of_fun (sortI s _ (by have := (gatK_len (gatF 5 (fun _ e => e.t) (fun _ e => true)) h.evs h.evs.length); omega)))) rfl ?_)
  rintro _ _ ⟨rfl, rfl⟩
  refine rn ?_
  exact retq (.cons _ _ _ _ (.tmp _ _ rfl) .nil) (.refl _ _) ⟨s, by rw [comm_gat], rfl⟩
set_option maxHeartbeats 4000000 in
theorem ixCommR (h : Hist) (la : Lim 4611686018427387904 h) : ACall Tryz.prog 36 [.agg (histC h)] (.glob 1 112 limitsC :: .glob 2 234 firstC :: .glob 3 237 acceptC :: .glob 0 102 asksC :: []) (fun r h' => ∃ s : SV, h' = .row s.v 1 3 ((onE (checkI h) (commP h.evs)).map intR) :: .glob 1 112 limitsC :: .glob 2 234 firstC :: .glob 3 237 acceptC :: .glob 0 102 asksC :: [] ∧ r = .tup [.v s.v, iv (checkI h)]) := by
  refine acall_of_aw Tryz.func36 rfl rfl rfl ?_
  refine rn ?_
  refine aops_e rfl (oe_box rfl rfl rfl fun b1 => ?_)
  refine rn ?_
  refine aops_e rfl (oe_call rfl rfl (FCall.perm ((pt1 _ _ _).trans (.cons _ ((pt1 _ _ _).trans (.cons _ ((pt1 _ _ _).trans (.cons _ (pt1 _ _ _))))))) (FCall.of_fun (ixAskI h la 0 1 (.fn (.func 89) [] [.v (.pointer (some ⟨b1, 0, none⟩))]) rfl (commP h.evs) [.box b1 28 (histC h)] (fun he => FCall.of_acall (fs := []) (cs := [.v (.pointer (some ⟨b1, 0, none⟩))]) (ixCommS h (ask_evs he) b1))))) rfl ?_)
  rintro _ _ ⟨s, rfl, rfl⟩
  refine rn ?_
  exact retq (.cons _ _ _ _ (.tmp _ _ rfl) (.cons _ _ _ _ (.tmp _ _ rfl) .nil)) (.trans (.perm (pt5 _ _ _ _ _ _ _) _) (.drop [_] _ _)) ⟨s, by rw [ask_01], by rw [ask_01]; rfl⟩
theorem ixComm (h : Hist) (la : Lim 4611686018427387904 h) : ACall Tryz.prog 36 [.agg (histC h)] (.glob 1 112 limitsC :: .glob 2 234 firstC :: .glob 3 237 acceptC :: .glob 0 102 asksC :: []) (fun r h' => h' = .glob 1 112 limitsC :: .glob 2 234 firstC :: .glob 3 237 acceptC :: .glob 0 102 asksC :: [] ∧ r = .tup [intsA (onE (checkI h) (commP h.evs)), iv (checkI h)]) :=
  (ixCommR h la).ventR (by rintro _ _ ⟨s, rfl, rfl⟩; exact ⟨_, _, vent_freeze_tup [] [_], rfl, rfl⟩)
set_option maxHeartbeats 4000000 in
theorem ixInsR (h : Hist) (la : Lim 3000 h) (x : Int) (W : List Res) : ACall Tryz.prog 100 [.agg (histC h), iv x] W (fun r h' => ∃ s : SV, h' = .row s.v 1 3 ((insP h x).map intR) :: W ∧ r = .v s.v) := by
  refine acall_of_aw Tryz.func100 rfl rfl rfl ?_
  have le : h.evs.length ≤ 1000000 := Nat.le_trans la.evs (by decide)
  have lo := la.ords
  refine rn ?_
  refine aops_e rfl (oe_box rfl rfl rfl fun b2 => ?_)
  refine aops_e rfl (oe_box rfl rfl rfl fun b3 => ?_)
  refine rn ?_
  refine qv rfl rfl (qv_call rfl rfl (FCall.of_fun (indexFuncOrd h.ords _ (fun o : Ord => o.o == x) _ (fun a _ => FCall.qt (FCall.of_acall (fs := []) (cs := [.v (.pointer (some ⟨b3, 0, none⟩))]) (ixIsO x a b3)) (.refl _)) (Nat.le_trans la.ords (by decide))))) ?_
  refine rn ?_
  refine aw_cond rfl (fun hc13 => ?_) (fun hc13 => ?_)
  · obtain ⟨k, hk, ek, hx⟩ := ord_at hc13
    have rk := atRow (f := ordR) hk
    rw [ek]
    refine rn ?_
    refine aops_e rfl (oe_call rfl rfl (FCall.fr (FCall.rowS (FCall.of_fun (cloneRowInt (h.ords[k].ts.map intR) (by rw [List.length_map]; exact Nat.le_trans (la.ordts h.ords[k] (List.getElem_mem hk)) (by decide)) (one_int _)))) (.refl _)) rfl ?_)
    rintro _ _ ⟨_, rfl, s, rfl, rfl⟩
    refine rn ?_
    exact retq (.cons _ _ _ _ (.tmp _ _ rfl) .nil) (.trans (.perm ((pt1 _ _ _).trans (.cons _ (pt1 _ _ _))) _) (.drop [_, _] _ _)) ⟨s, by rw [hx], rfl⟩
  · have hx := ord_no hc13
    refine rn ?_
    refine aops_e rfl (oe_call rfl rfl (FCall.of_fun (ixEnded h le _)) rfl ?_)
    rintro _ _ ⟨rm, rfl, rfl⟩
    refine aops_e rfl (oe_alloc rfl fun b6 => ?_)
    refine rn ?_
    refine aops_e rfl (oe_call rfl rfl (FCall.of_fun (ixGatI h le 2 _ rfl _ (fun _ e => e.t) (fun _ e => e.o == x && (getT e.t (endM h.evs)).getD false) (fun k hk _ => FCall.qt (FCall.of_acall (fs := []) (cs := [.v (.pointer (some ⟨b3, 0, none⟩)), .v (.pointer (some ⟨b6, 0, none⟩))]) (ixTellO k x h.evs[k] b3 b6 rm (endM h.evs))) (pt2 _ _ _ _)))) rfl ?_)
    rintro _ _ ⟨s, rfl, rfl⟩
    refine rn ?_
    refine aops_e rfl (oe_call rfl rfl (fcall_row (FCall.of_fun (compI s _ (by have := (gatK_len (gatF 2 (fun _ e => e.t) (fun _ e => e.o == x && (getT e.t (endM h.evs)).getD false)) h.evs h.evs.length); omega)))) rfl ?_)
    rintro _ _ ⟨s', rfl, rfl⟩
    refine rn ?_
    exact retq (.cons _ _ _ _ (.tmp _ _ rfl) .nil) (.trans (.perm ((pt1 _ _ _).trans (.cons _ ((pt1 _ _ _).trans (.cons _ ((pt1 _ _ _).trans (.cons _ (pt1 _ _ _))))))) _) (.drop [_, _, _, _] _ _)) ⟨s', by rw [hx, ins_gat], rfl⟩
theorem ixInsS (h : Hist) (la : Lim 3000 h) (x : Int) (b2 b3 : Nat) : ACall Tryz.prog 99 [.v (.pointer (some ⟨b2, 0, none⟩)), .v (.pointer (some ⟨b3, 0, none⟩))] (.glob 1 112 limitsC :: .glob 2 234 firstC :: .glob 3 237 acceptC :: .glob 0 102 asksC :: .box b2 28 (histC h) :: .box b3 3 [iv x] :: []) (fun r h' => ∃ s : SV, h' = .row s.v 1 3 ((insP h x).map intR) :: .glob 1 112 limitsC :: .glob 2 234 firstC :: .glob 3 237 acceptC :: .glob 0 102 asksC :: .box b2 28 (histC h) :: .box b3 3 [iv x] :: [] ∧ r = .v s.v) := by
  refine acall_of_aw Tryz.func99 rfl rfl rfl ?_
  refine rn ?_
  refine aops_e rfl (oe_call rfl rfl (FCall.of_fun (ixInsR h la x _)) rfl ?_)
  rintro _ _ ⟨s, rfl, rfl⟩
  refine rn ?_
  exact retq (.cons _ _ _ _ (.tmp _ _ rfl) .nil) (.refl _ _) ⟨s, rfl, rfl⟩
set_option maxHeartbeats 4000000 in
theorem ixInstR (h : Hist) (la : Lim 4611686018427387904 h) (x : Int) : ACall Tryz.prog 41 [.agg (histC h), iv x] (.glob 1 112 limitsC :: .glob 2 234 firstC :: .glob 3 237 acceptC :: .glob 0 102 asksC :: []) (fun r h' => ∃ s : SV, h' = .row s.v 1 3 ((onE (askE h x h.os.length) (insP h x)).map intR) :: .glob 1 112 limitsC :: .glob 2 234 firstC :: .glob 3 237 acceptC :: .glob 0 102 asksC :: [] ∧ r = .tup [.v s.v, iv (askE h x h.os.length)]) := by
  refine acall_of_aw Tryz.func41 rfl rfl rfl ?_
  refine rn ?_
  refine aops_e rfl (oe_box rfl rfl rfl fun b2 => ?_)
  refine aops_e rfl (oe_box rfl rfl rfl fun b3 => ?_)
  refine rn ?_
  refine aops_e rfl (oe_call rfl rfl (FCall.perm ((pt2 _ _ _ _).trans (.cons _ ((pt2 _ _ _ _).trans (.cons _ ((pt2 _ _ _ _).trans (.cons _ ((pt2 _ _ _ _).trans (.cons _ (pt1 _ _ _))))))))) (FCall.of_fun (ixAskI h la x (h.os.map strR).length (.fn (.func 99) [] [.v (.pointer (some ⟨b2, 0, none⟩)), .v (.pointer (some ⟨b3, 0, none⟩))]) rfl (insP h x) [.box b2 28 (histC h), .box b3 3 [iv x]] (fun he => FCall.of_acall (fs := []) (cs := [.v (.pointer (some ⟨b2, 0, none⟩)), .v (.pointer (some ⟨b3, 0, none⟩))]) (ixInsS h (ask_lim he) x b2 b3))))) rfl ?_)
  rintro _ _ ⟨s, rfl, rfl⟩
  refine rn ?_
  exact retq (.cons _ _ _ _ (.tmp _ _ rfl) (.cons _ _ _ _ (.tmp _ _ rfl) .nil)) (.trans (.perm ((pt5 _ _ _ _ _ _ _).trans (.cons _ (pt5 _ _ _ _ _ _ _))) _) (.drop [_, _] _ _)) ⟨s, by simp only [List.length_map], by simp only [List.length_map]; rfl⟩
theorem ixInst (h : Hist) (la : Lim 4611686018427387904 h) (x : Int) : ACall Tryz.prog 41 [.agg (histC h), iv x] (.glob 1 112 limitsC :: .glob 2 234 firstC :: .glob 3 237 acceptC :: .glob 0 102 asksC :: []) (fun r h' => h' = .glob 1 112 limitsC :: .glob 2 234 firstC :: .glob 3 237 acceptC :: .glob 0 102 asksC :: [] ∧ r = .tup [intsA (onE (askE h x h.os.length) (insP h x)), iv (askE h x h.os.length)]) :=
  (ixInstR h la x).ventR (by rintro _ _ ⟨s, rfl, rfl⟩; exact ⟨_, _, vent_freeze_tup [] [_], rfl, rfl⟩)
end Go.Proofs
/- The walks of the index's writes, final, Final. Conditions: none. -/
set_option linter.unusedVariables false
set_option linter.unusedSimpArgs false
set_option maxRecDepth 10000
namespace Go.Proofs
open Go Go.Ab
attribute [local irreducible] QR QV OE aops aw dsoup dsoupM dalloc dallocM thn inBlk jsoup jch lsoup
open Go.H
end Go.Proofs
/- The walk of the index's Sights. Conditions: none. -/
set_option linter.unusedVariables false
set_option linter.unusedSimpArgs false
set_option maxRecDepth 10000
namespace Go.Proofs
open Go Go.Ab
attribute [local irreducible] QR QV OE aops aw dsoup dsoupM dalloc dallocM thn inBlk jsoup jch lsoup
open Go.H
def evD (l : List Ev) (n : Int) : Ev := (l[n.toNat]?).getD ⟨0, 0, 0, 0, 0, ⟨0, 0⟩, 0, []⟩
theorem evD_at {l : List Ev} {a : Nat} (ha : a < l.length) : evD l (a : Int) = l[a] := by rw [evD, Int.toNat_natCast, List.getElem?_eq_getElem ha]; rfl
def sightE (h : Hist) (n : Int) : Int := if checkI h = 0 then (if 0 ≤ n ∧ n < h.evs.length ∧ (evD h.evs n).kind = 4 then 0 else 2) else checkI h
def sightL (h : Hist) (n : Int) : List Seen := if sightE h n = 0 then sightsP h (evD h.evs n) n.toNat else []
theorem sg_c {h : Hist} {n : Int} (hc : checkI h ≠ 0) : sightE h n = checkI h ∧ sightL h n = [] := by
  have e : sightE h n = checkI h := by rw [sightE, if_neg hc]
  exact ⟨e, by rw [sightL, e, if_neg hc]⟩
theorem sg_n {h : Hist} {n : Int} (hc : checkI h = 0) (hn : ¬ (0 ≤ n ∧ n < h.evs.length ∧ (evD h.evs n).kind = 4)) : sightE h n = 2 ∧ sightL h n = [] := by
  have e : sightE h n = 2 := by rw [sightE, if_pos hc, if_neg hn]
  exact ⟨e, by rw [sightL, e]; rfl⟩
theorem sg_y {h : Hist} {a : Nat} (hc : checkI h = 0) (ha : a < h.evs.length) (h4 : h.evs[a].kind = 4) : sightE h a = 0 ∧ sightL h a = (upR h.os.length).map (sightO h.evs h.evs[a].t h.evs[a].scan a) := by
  have e : sightE h a = 0 := by rw [sightE, if_pos hc, if_pos ⟨by omega, by omega, by rw [evD_at ha]; exact h4⟩]
  exact ⟨e, by rw [sightL, e, if_pos rfl, evD_at ha, Int.toNat_natCast]; rfl⟩
end Go.Proofs
/- A loop over so many places, with what it reckons. Conditions: none. -/
set_option linter.unusedVariables false
namespace Go.Ab
open Go
section
variable {P : Program} {ro : Option Nat} {nt : Nat} {c : Code} {Q : Exit → St → Prop} {t : Fr} {h : List Res} {ds : List Nat}
end
end Go.Ab
/- The walks of the references' small functions. Conditions: none. -/
set_option linter.unusedVariables false
set_option linter.unusedSimpArgs false
set_option maxRecDepth 10000
namespace Go.Proofs
open Go Go.Ab
attribute [local irreducible] QR QV OE aops aw dsoup dsoupM dalloc dallocM thn inBlk
open Go.H
end Go.Proofs
/- The walks of the reference's Has, Committed, some, Writers. Conditions: none. -/
set_option linter.unusedVariables false
set_option linter.unusedSimpArgs false
set_option maxRecDepth 10000
namespace Go.Proofs
open Go Go.Ab
attribute [local irreducible] QR QV OE aops aw dsoup dsoupM dalloc dallocM thn inBlk jsoup jch lsoup
open Go.H
end Go.Proofs
/- The walks of the reference's rules of rows. Conditions: none. -/
set_option linter.unusedVariables false
set_option linter.unusedSimpArgs false
set_option maxRecDepth 10000
namespace Go.Proofs
open Go Go.Ab
attribute [local irreducible] QR QV OE aops aw dsoup dsoupM dalloc dallocM thn inBlk jsoup jch lsoup
open Go.H
end Go.Proofs
/- The walks of the reference's Seen, wrote. Conditions: none. -/
set_option linter.unusedVariables false
set_option linter.unusedSimpArgs false
set_option maxRecDepth 10000
namespace Go.Proofs
open Go Go.Ab
attribute [local irreducible] QR QV OE aops aw dsoup dsoupM dalloc dallocM thn inBlk jsoup jch lsoup
open Go.H
end Go.Proofs
/- The walk of the reference's event. Conditions: none. -/
set_option linter.unusedVariables false
set_option linter.unusedSimpArgs false
set_option maxRecDepth 10000
namespace Go.Proofs
open Go Go.Ab
attribute [local irreducible] QR QV OE aops aw dsoup dsoupM dalloc dallocM thn inBlk jsoup jch lsoup
open Go.H
end Go.Proofs
/- The walk of the reference's broken. Conditions: none. -/
set_option linter.unusedVariables false
set_option linter.unusedSimpArgs false
set_option maxRecDepth 10000
namespace Go.Proofs
open Go Go.Ab
attribute [local irreducible] QR QV OE aops aw dsoup dsoupM dalloc dallocM thn inBlk jsoup jch lsoup
open Go.H
end Go.Proofs
/- The walk of the reference's Place. Conditions: none. -/
set_option linter.unusedVariables false
set_option linter.unusedSimpArgs false
set_option maxRecDepth 10000
namespace Go.Proofs
open Go Go.Ab
attribute [local irreducible] QR QV OE aops aw dsoup dsoupM dalloc dallocM thn inBlk jsoup jch lsoup
open Go.H
end Go.Proofs
/- The walk of the reference's First. Conditions: none. -/
set_option linter.unusedVariables false
set_option linter.unusedSimpArgs false
set_option maxRecDepth 10000
namespace Go.Proofs
open Go Go.Ab
attribute [local irreducible] QR QV OE aops aw dsoup dsoupM dalloc dallocM thn inBlk jsoup jch lsoup
open Go.H
end Go.Proofs
/- The walks of the references' tests. Conditions: none. -/
set_option linter.unusedVariables false
set_option linter.unusedSimpArgs false
set_option maxRecDepth 10000
namespace Go.Proofs
open Go Go.Ab
attribute [local irreducible] QR QV OE aops aw dsoup dsoupM dalloc dallocM thn inBlk
open Go.H
end Go.Proofs
/- The walk of the reference's test of an event. Conditions: none. -/
set_option linter.unusedVariables false
set_option linter.unusedSimpArgs false
set_option maxRecDepth 10000
namespace Go.Proofs
open Go Go.Ab
attribute [local irreducible] QR QV OE aops aw dsoup dsoupM dalloc dallocM thn inBlk
open Go.H
end Go.Proofs
/- A rune's text. Conditions: none (a rule over any program). -/
set_option linter.unusedVariables false
namespace Go.Ab
open Go
section
variable {P : Program} {dst : Option Tmp} {ty : TypeId} {pos : String} {after : Array Edge} {guard : Option (Nat × Bool)} {x : Operand} {h : List Res} {f : Operand → Option AV}
end
end Go.Ab
/- The walk of the reference's first. Conditions: none. -/
set_option linter.unusedVariables false
set_option linter.unusedSimpArgs false
set_option maxRecDepth 10000
namespace Go.Proofs
open Go Go.Ab
attribute [local irreducible] QR QV OE aops aw dsoup dsoupM dalloc dallocM thn inBlk
open Go.H
end Go.Proofs
/- The walks of the reference's Word and RightNames. Conditions: none. -/
set_option linter.unusedVariables false
set_option linter.unusedSimpArgs false
set_option maxRecDepth 10000
namespace Go.Proofs
open Go Go.Ab
attribute [local irreducible] QR QV OE aops aw dsoup dsoupM dalloc dallocM thn inBlk
open Go.H
end Go.Proofs
/- The walk of the reference's Shaped. Conditions: none. -/
set_option linter.unusedVariables false
set_option linter.unusedSimpArgs false
set_option maxRecDepth 10000
namespace Go.Proofs
open Go Go.Ab
attribute [local irreducible] QR QV OE aops aw dsoup dsoupM dalloc dallocM thn inBlk
open Go.H
end Go.Proofs
/- The walks of the reference's first and made. Conditions: none. -/
set_option linter.unusedVariables false
set_option linter.unusedSimpArgs false
set_option maxRecDepth 10000
namespace Go.Proofs
open Go Go.Ab
attribute [local irreducible] QR QV OE aops aw dsoup dsoupM dalloc dallocM thn inBlk
open Go.H
end Go.Proofs
/- The walk of the reference's Spoken. Conditions: none. -/
set_option linter.unusedVariables false
set_option linter.unusedSimpArgs false
set_option maxRecDepth 10000
namespace Go.Proofs
open Go Go.Ab
attribute [local irreducible] QR QV OE aops aw dsoup dsoupM dalloc dallocM thn inBlk
open Go.H
end Go.Proofs
/- The walk of the reference's Right. Conditions: none. -/
set_option linter.unusedVariables false
set_option linter.unusedSimpArgs false
set_option maxRecDepth 10000
namespace Go.Proofs
open Go Go.Ab
attribute [local irreducible] QR QV OE aops aw dsoup dsoupM dalloc dallocM thn inBlk
open Go.H
end Go.Proofs
/- The walks of the reference's Check, Final, Sees, Sights. Conditions: none. -/
set_option linter.unusedVariables false
set_option linter.unusedSimpArgs false
set_option maxRecDepth 10000
namespace Go.Proofs
open Go Go.Ab
attribute [local irreducible] QR QV OE aops aw dsoup dsoupM dalloc dallocM thn inBlk jsoup jch lsoup
open Go.H
theorem isI_eq (a b : Int) : (decide (a ≥ 0) && decide (a < b)) = decide (0 ≤ a ∧ a < b) := by
  rw [Bool.eq_iff_iff]; simp only [Bool.and_eq_true, decide_eq_true_eq, ge_iff_le]
end Go.Proofs
/- The walk of the index's Begun. Conditions: none. -/
set_option linter.unusedVariables false
set_option linter.unusedSimpArgs false
set_option maxRecDepth 10000
namespace Go.Proofs
open Go Go.Ab
attribute [local irreducible] QR QV OE aops aw dsoup dsoupM dalloc dallocM thn inBlk jsoup jch lsoup
open Go.H
end Go.Proofs
/- The walks of the reference's Committed, Begun, Line, Installed, Next, Rank. Conditions: none. -/
set_option linter.unusedVariables false
set_option linter.unusedSimpArgs false
set_option maxRecDepth 10000
namespace Go.Proofs
open Go Go.Ab
attribute [local irreducible] QR QV OE aops aw dsoup dsoupM dalloc dallocM thn inBlk jsoup jch lsoup
open Go.H
theorem insR_le {h : Hist} {N : Nat} (la : Lim N h) (x : Int) : (insR h x).length ≤ N := by
  unfold insR
  split
  · rename_i o ho; exact la.ordts o (List.mem_of_find?_eq_some ho)
  · exact Nat.le_trans (writersR_le _ _) la.ts
end Go.Proofs
/- The walks of the reference 17. Conditions: none. -/
set_option linter.unusedVariables false
set_option linter.unusedSimpArgs false
set_option maxRecDepth 10000
namespace Go.Proofs
open Go Go.Ab
attribute [local irreducible] QR QV OE aops aw dsoup dsoupM dalloc dallocM thn inBlk jsoup jch lsoup
open Go.H
end Go.Proofs
/- The walks of match's is, find. Conditions: none. -/
set_option linter.unusedVariables false
set_option linter.unusedSimpArgs false
set_option maxRecDepth 10000
namespace Go.Proofs
open Go Go.Ab
attribute [local irreducible] QR QV OE aops aw dsoup dsoupM dalloc dallocM thn inBlk jsoup jch lsoup
open Go.H
theorem nz_t {a : Int} (h : (a != 0) = true) : a ≠ 0 := by simpa using h
theorem nz_f {a : Int} (h : (a != 0) = false) : a = 0 := by simpa using h
theorem nd_t {p : Prop} [Decidable p] (h : (!decide p) = true) : ¬ p := by simpa using h
theorem nd_f {p : Prop} [Decidable p] (h : (!decide p) = false) : p := by simpa using h
theorem fx_hit {l : List Mat} {q : Mat → Bool} (hc : decide (fidx q 0 l < 0) = false) : ∃ k, ∃ hk : k < l.length, fidx q 0 l = (k : Int) ∧ l.find? q = some l[k] := by
  have := fidx_find q l 0
  cases hf : l.find? q with
  | none => rw [hf] at this; simp only at this; rw [this] at hc; exact absurd hc (by decide)
  | some o =>
    rw [hf] at this
    obtain ⟨k, hk, e, eo, _⟩ := this
    exact ⟨k, hk, by rw [e, Nat.zero_add], by rw [eo]⟩
theorem fx_no {l : List Mat} {q : Mat → Bool} (hc : decide (fidx q 0 l < 0) = true) : l.find? q = none := by
  have := fidx_find q l 0
  cases hf : l.find? q with
  | none => rfl
  | some o =>
    rw [hf] at this
    obtain ⟨k, hk, e, eo, _⟩ := this
    rw [e] at hc
    have := of_decide_eq_true hc
    omega
theorem matD_len {h : Hist} {N : Nat} (la : Lim N h) (p x : Int) : (matD h p x).ts.length ≤ N := by
  rw [matD, matF]
  cases hf : h.mats.find? (matQ p x) with
  | none => exact Nat.zero_le _
  | some m => exact la.matts m (List.mem_of_find?_eq_some hf)
def tabL (h : Hist) (p o : Int) : List Bool := if tabE h p o = 0 then tabP h p o else []
theorem matIs (a b : Int) : ACall Tryz.prog 113 [iv a, iv b] [] (fun r h' => h' = [] ∧ r = bv (decide (0 ≤ a ∧ a < b))) := by
  refine acall_of_aw Tryz.func113 rfl rfl rfl ?_
  refine rn ?_
  refine asplit (fun hg1_2 => ?_) (fun hg1_2 => ?_)
  · refine rn ?_
    refine rq 0 ?_
    exact ⟨rfl, by rw [← isI_eq, hg1_2]; rfl⟩
  · refine rn ?_
    refine rq 0 ?_
    exact ⟨rfl, by rw [← isI_eq, hg1_2]; rfl⟩
theorem matT1 (m : Mat) (p x : Int) (b2 b3 : Nat) (G : List Res) : ACall Tryz.prog 160 [.agg (matR m), .v (.pointer (some ⟨b2, 0, none⟩)), .v (.pointer (some ⟨b3, 0, none⟩))] (.box b2 3 [iv p] :: .box b3 3 [iv x] :: G) (fun r h' => h' = (.box b2 3 [iv p] :: .box b3 3 [iv x] :: G) ∧ r = bv (matQ p x m)) := by
  refine acall_of_aw Tryz.func160 rfl rfl rfl ?_
  refine rn ?_
  refine aops_e rfl (oe_box rfl rfl rfl fun b3 => ?_)
  refine rn ?_
  refine asplit (fun hg1_4 => ?_) (fun hg1_4 => ?_)
  · refine rn ?_
    refine rq 1 ?_
    exact ⟨rfl, congrArg bv (by unfold matQ; first | rfl | (simp_all; done))⟩
  · refine rn ?_
    refine rq 1 ?_
    exact ⟨rfl, congrArg bv (by unfold matQ; first | rfl | (simp_all; done))⟩
theorem matFind (l : List Mat) (fv : AV) (q : Mat → Bool) (G : List Res) (hp : ∀ a ∈ l, FCall Tryz.prog fv [.agg (matR a)] G (fun r h' => h' = G ∧ r = bv (q a))) (hl : l.length ≤ 4611686018427387904) : ACall Tryz.prog 159 [matsA l, fv] G (fun r h' => h' = G ∧ r = .tup [.agg (matR ((l.find? q).getD mat0)), bv (l.find? q).isSome]) := by
  refine acall_of_aw Tryz.func159 rfl rfl rfl ?_
  refine rn ?_
  refine aops_e rfl (oe_alloc rfl fun b4 => ?_)
  refine rn ?_
  refine qv rfl rfl (qv_call rfl rfl (FCall.qt (h2 := [_]) (FCall.of_fun (indexFuncMat l _ q G hp hl)) (perm_swap [_] _))) ?_
  refine rn ?_
  refine aw_cond rfl (fun hc11 => ?_) (fun hc11 => ?_)
  · have hn := fx_no hc11
    refine aw_seq (aw_region ?_)
    refine qq rfl rfl (qr_weak (fun w O v hr => Sb.rel (Sb.aggs (bs := matR mat0) (by exact ⟨.refl _, .refl _, .refl _, .nil _ _, trivial⟩)) hr) (qr_load_all rfl rfl)) ?_
    refine rn ?_
    exact retq (.cons _ _ _ _ (.agg _ _ _ _ _ _ _ rfl inferInstance inferInstance inferInstance rfl) (.cons _ _ _ _ (.tmp _ _ rfl) .nil)) (.drop [_] _ _) ⟨rfl, by rw [hn]; rfl⟩
  · obtain ⟨k, hk, ek, hx⟩ := fx_hit hc11
    have rk := atRow (f := matR) hk
    rw [ek]
    refine rn ?_
    exact retq (.cons _ _ _ _ (.agg _ _ _ _ _ _ _ rfl inferInstance inferInstance inferInstance rfl) (.cons _ _ _ _ (.tmp _ _ rfl) .nil)) (.drop [_] _ _) ⟨rfl, by rw [hx]; rfl⟩
end Go.Proofs
/- The walks of match's table, Matches. Conditions: none. -/
set_option linter.unusedVariables false
set_option linter.unusedSimpArgs false
set_option maxRecDepth 10000
namespace Go.Proofs
open Go Go.Ab
attribute [local irreducible] QR QV OE aops aw dsoup dsoupM dalloc dallocM thn inBlk jsoup jch lsoup
open Go.H
theorem tb_e {h : Hist} {p x : Int} (he : insE h x ≠ 0) : tabE h p x = insE h x ∧ tabE h p x ≠ 0 := by
  have : tabE h p x = insE h x := by rw [tabE, if_neg he]
  exact ⟨this, by rw [this]; exact he⟩
theorem tb_n {h : Hist} {p x : Int} (hi : insE h x = 0) (hp : ¬ (0 ≤ p ∧ p < ((h.ps.map strR).length : Int))) : tabE h p x = 2 ∧ tabE h p x ≠ 0 := by
  rw [List.length_map] at hp
  have : tabE h p x = 2 := by rw [tabE, if_pos hi, if_neg hp]
  exact ⟨this, by rw [this]; decide⟩
theorem tb_y {h : Hist} {p x : Int} (hi : insE h x = 0) (hp : 0 ≤ p ∧ p < ((h.ps.map strR).length : Int)) : tabE h p x = 0 := by
  rw [List.length_map] at hp
  rw [tabE, if_pos hi, if_pos hp]
theorem tab_next {b : Bool} {l : List Int} {q : Int → Bool} {k : Nat} (hk : k < l.length) : (b :: (l.take (k + 1)).map q).map boolR = (b :: (l.take k).map q).map boolR ++ [[bv (q l[k])]] := by
  rw [List.take_succ_eq_append_getElem hk, List.map_append, ← List.cons_append, List.map_append]; rfl
set_option maxHeartbeats 4000000 in
theorem matTabR (h : Hist) (la : Lim 4611686018427387904 h) (p x : Int) : ACall Tryz.prog 112 [.agg (histC h), iv p, iv x] (.glob 1 112 limitsC :: .glob 2 234 firstC :: .glob 3 237 acceptC :: .glob 0 102 asksC :: []) (fun r h' => ∃ s : SV, h' = .row s.v 1 4 ((tabL h p x).map boolR) :: .glob 1 112 limitsC :: .glob 2 234 firstC :: .glob 3 237 acceptC :: .glob 0 102 asksC :: [] ∧ r = .tup [.v s.v, iv (tabE h p x)]) := by
  refine acall_of_aw Tryz.func112 rfl rfl rfl ?_
  refine rn ?_
  refine aops_e rfl (oe_box rfl rfl rfl fun b3 => ?_)
  refine aops_e rfl (oe_box rfl rfl rfl fun b4 => ?_)
  refine aops_e rfl (oe_box rfl rfl rfl fun b5 => ?_)
  refine rn ?_
  refine qv rfl rfl (qv_call rfl rfl (FCall.qt (FCall.of_fun (ixInst h la x)) ((pt3 _ _ _ _ _).trans (.cons _ ((pt3 _ _ _ _ _).trans (.cons _ ((pt3 _ _ _ _ _).trans (.cons _ (pt3 _ _ _ _ _))))))))) ?_
  refine rn ?_
  refine aw_cond rfl (fun hc21 => ?_) (fun hc21 => ?_)
  · have he := tb_e (p := p) (nz_t hc21)
    refine rn ?_
    exact retq (.cons _ _ _ _ (.tmp _ _ rfl) (.cons _ _ _ _ (.tmp _ _ rfl) .nil)) (.trans (.drop [_, _, _] _ _) (vent_nilrow 1 4 _)) ⟨⟨none, 0, 0⟩, by rw [tabL, if_neg (he.2)]; rfl, by rw [he.1]; rfl⟩
  · have hi : insE h x = 0 := nz_f hc21
    refine rn ?_
    refine qv rfl rfl (qv_call rfl rfl (pcall (matIs p (h.ps.map strR).length) (Sbs.refl _))) ?_
    refine rn ?_
    refine aw_cond rfl (fun hc25 => ?_) (fun hc25 => ?_)
    · have he := tb_n (p := p) hi (nd_t hc25)
      refine rn ?_
      exact retq (.cons _ _ _ _ (.tmp _ _ rfl) (.cons _ _ _ _ (.tmp _ _ rfl) .nil)) (.trans (.drop [_, _, _] _ _) (vent_nilrow 1 4 _)) ⟨⟨none, 0, 0⟩, by rw [tabL, if_neg (he.2)]; rfl, by rw [he.1]; rfl⟩
    · have he : tabE h p x = 0 := tb_y hi (nd_f hc25)
      have lA := chk_lim (tab_0.1 he).1
      have lM := matD_len la p x
      have lI : (insP h x).length ≤ 3000 := by rw [tab_ins he]; exact insR_le lA x
      refine rn ?_
      refine qv rfl rfl (qv_call rfl rfl (FCall.of_fun (matFind h.mats _ (matQ p x) _ (fun a _ => FCall.qt (FCall.of_acall (fs := []) (cs := [.v (.pointer (some ⟨b4, 0, none⟩)), .v (.pointer (some ⟨b5, 0, none⟩))]) (matT1 a p x b4 b5 (.box b3 28 (histC h) :: .glob 1 112 limitsC :: .glob 2 234 firstC :: .glob 3 237 acceptC :: .glob 0 102 asksC :: []))) (pt1 _ _ _)) la.mats))) ?_
      refine rn ?_
      refine aops_e rfl (oe_alloc rfl fun b10 => ?_)
      refine rn ?_
      refine aops_e rfl (oe_buildRow (rows := (((matD h p x).first :: ((insP h x).take 0).map (fun t => (matD h p x).ts.contains t)).map boolR)) rfl rfl rfl fun s41 => ?_)
      refine aops_slice s41 fun sv0 hsv0 => ?_
      subst hsv0
      refine rn ?_
      have hii : onE (askE h x h.os.length) (insP h x) = insP h x := by rw [show askE h x h.os.length = 0 from hi]; rfl
      rw [hii]
      refine rn ?_
      refine aw_rng1 (insP h x).length (fun k s => ⟨[(44, iv k), (12, .v s.v), (10, .v (.pointer (some ⟨b10, 0, none⟩))), (42, intsA (insP h x)), (43, iv ((insP h x).map intR).length)], .row s.v 1 4 (((matD h p x).first :: ((insP h x).take k).map (fun t => (matD h p x).ts.contains t)).map boolR) :: .box b10 87 (matR (matD h p x)) :: .box b5 3 [iv x] :: .box b4 3 [iv p] :: .box b3 28 (histC h) :: .glob 1 112 limitsC :: .glob 2 234 firstC :: .glob 3 237 acceptC :: .glob 0 102 asksC :: [], []⟩) sv0 es ?_
      intro k s lk
      refine rn ?_
      refine aw_cond rfl (fun hc45 => ?_) (fun hc45 => ?_)
      · have hk := ltMap hc45
        have rk := atRow (f := intR) hk
        refine rn ?_
        refine qv rfl rfl (qv_call rfl rfl (pcall (containsI (matD h p x).ts (insP h x)[k] lM) (Sbs.refl _))) ?_
        refine qv rfl rfl (qv_buildSlice rfl rfl) ?_
        refine aops_e rfl (oe_append_row rfl rfl (by simp only [List.length_map, List.length_cons, List.length_nil]; have := List.length_take_le k (insP h x); omega) rfl (fun s54 => ?_) (one_bool [(matD h p x).ts.contains (insP h x)[k]]))
        refine aops_slice s54 fun sv hsv => ?_
        subst hsv
        refine rn ?_
        exact ⟨hk, sv, by rw [tab_next hk]; exact eA⟩
      · have qk := geMap hc45 lk
        refine rn ?_
        exact retq (.cons _ _ _ _ (.tmp _ _ rfl) (.cons _ _ _ _ (.tmp _ _ rfl) .nil)) (.trans (.perm ((pt1 _ _ _).trans (.cons _ ((pt1 _ _ _).trans (.cons _ ((pt1 _ _ _).trans (.cons _ (pt1 _ _ _))))))) _) (.drop [_, _, _, _] _ _)) ⟨s, by rw [tabL, if_pos he, tabP, tabQ, qk, List.take_length], by rw [he]; rfl⟩
theorem matTab (h : Hist) (la : Lim 4611686018427387904 h) (p x : Int) : ACall Tryz.prog 112 [.agg (histC h), iv p, iv x] (.glob 1 112 limitsC :: .glob 2 234 firstC :: .glob 3 237 acceptC :: .glob 0 102 asksC :: []) (fun r h' => h' = .glob 1 112 limitsC :: .glob 2 234 firstC :: .glob 3 237 acceptC :: .glob 0 102 asksC :: [] ∧ r = .tup [boolsA (tabL h p x), iv (tabE h p x)]) :=
  (matTabR h la p x).ventR (by rintro _ _ ⟨s, rfl, rfl⟩; exact ⟨_, _, vent_freeze_tup [] [_], rfl, rfl⟩)
theorem matMatches (h : Hist) (la : Lim 4611686018427387904 h) (p x n : Int) : ACall Tryz.prog 54 [.agg (histC h), iv p, iv x, iv n] (.glob 1 112 limitsC :: .glob 2 234 firstC :: .glob 3 237 acceptC :: .glob 0 102 asksC :: []) (fun r h' => h' = .glob 1 112 limitsC :: .glob 2 234 firstC :: .glob 3 237 acceptC :: .glob 0 102 asksC :: [] ∧ r = .tup [bv (mtB h p x n), iv (mtE h p x n)]) := by
  refine acall_of_aw Tryz.func54 rfl rfl rfl ?_
  refine rn ?_
  refine aops_e rfl (oe_box rfl rfl rfl fun b4 => ?_)
  refine rn ?_
  refine qv rfl rfl (qv_call rfl rfl (FCall.qt (FCall.of_fun (matTab h la p x)) ((pt1 _ _ _).trans (.cons _ ((pt1 _ _ _).trans (.cons _ ((pt1 _ _ _).trans (.cons _ (pt1 _ _ _))))))))) ?_
  refine rn ?_
  refine aw_cond rfl (fun hc19 => ?_) (fun hc19 => ?_)
  · obtain ⟨q1, q2, _⟩ := mt_e (h := h) (p := p) (x := x) (r := n) (nz_t hc19)
    refine rn ?_
    refine rq 1 ?_
    exact ⟨rfl, by rw [q1, q2]; rfl⟩
  · have he : tabE h p x = 0 := nz_f hc19
    have hl : tabL h p x = tabP h p x := by rw [tabL, if_pos he]
    rw [hl]
    refine rn ?_
    refine qv rfl rfl (qv_call rfl rfl (pcall (matIs n ((tabP h p x).map boolR).length) (Sbs.refl _))) ?_
    refine rn ?_
    refine aw_cond rfl (fun hc23 => ?_) (fun hc23 => ?_)
    · obtain ⟨q1, q2⟩ := mt_r (r := n) he (by have q := nd_t hc23; rw [List.length_map] at q; exact q)
      refine rn ?_
      refine rq 1 ?_
      exact ⟨rfl, by rw [q1, q2]; rfl⟩
    · have q := nd_f hc23
      rw [List.length_map] at q
      obtain ⟨a, rfl⟩ := Int.eq_ofNat_of_zero_le q.1
      have ha : a < (tabP h p x).length := by omega
      obtain ⟨q1, q2⟩ := mt_y he ha
      have ra := atRow (f := boolR) ha
      refine rn ?_
      refine rq 1 ?_
      exact ⟨rfl, by rw [q1, q2]; rfl⟩
end Go.Proofs
/- Structs of numbers that are the same. Conditions: none. -/
set_option linter.unusedVariables false
namespace Go.Ab
open Go
section
variable {P : Program} {h : List Res} {f : Operand → Option AV} {dst : Option Tmp} {ty : TypeId} {pos : String} {after : Array Edge} {guard : Option (Nat × Bool)} {x y : Operand}
end
end Go.Ab
/- The walks of law 15's cut and few. Conditions: none. -/
set_option linter.unusedVariables false
set_option linter.unusedSimpArgs false
set_option maxRecDepth 10000
namespace Go.Proofs
open Go Go.Ab
attribute [local irreducible] QR QV OE aops aw dsoup dsoupM dalloc dallocM thn inBlk jsoup jch lsoup
open Go.H
theorem cut {full : Bool} (l : List ByteArray) (most : Nat) (hm : most ≤ 1000) : ACall Tryz.prog 67 [.list full 1 (l.map strR), iv most] [] (fun r h' => h' = [] ∧ r = strsA (cutL most l)) := by
  refine acall_of_aw Tryz.func67 rfl rfl rfl ?_
  refine aw_seq (aw_region ?_)
  refine q1 ?_
  refine aops_nil (thn_n ?_)
  refine aw_seq (aw_region ?_)
  refine q1 ?_
  refine q1 ?_
  refine q1 ?_
  refine q1 ?_
  refine qq rfl rfl (qr_minN (l.map strR).length most rfl rfl) ?_
  refine qq rfl rfl (qr_slice_hE (rows' := (l.take most).map strR) rfl rfl (by omega) (by rw [List.length_map]; exact take_min strR l most)) ?_
  refine aops_e rfl (oe_call rfl rfl (FCall.rowS (FCall.of_fun (cloneRowStr _ (by simp; omega) (one_str _)))) rfl ?_)
  rintro _ _ ⟨s, rfl, rfl⟩
  refine rn ?_
  refine aw_loop' (fun k : Nat => k ≤ (l.take most).length) (fun k => ⟨[(17, iv k), (16, iv ((l.take most).map strR).length), (15, .v s.v), (5, .v s.v)], [.row s.v 1 9 ((((l.take most).take k).map cutS).map strR ++ ((l.take most).drop k).map strR)], []⟩) (fun k => (l.take most).length - k) 0 (by omega)
    (by simp only [List.take_zero, List.map_nil, List.nil_append, List.drop_zero]; exact (ent_sub (.cons _ _ _ rfl (.cons _ _ _ rfl (.cons _ _ _ rfl (.cons _ _ _ rfl (.nil))))))) ?_
  intro k hk
  refine rn ?_
  refine aw_cond rfl (fun hc18 => ?_) (fun hc18 => ?_)
  · have hk2 : k < (l.take most).length := by simpa using hc18
    obtain ⟨b, hb⟩ : ∃ b, b = (l.take most)[k] := ⟨_, rfl⟩
    have hd := List.drop_eq_getElem_cons hk2
    rw [← hb] at hd
    have hL := List.length_take_le most l
    have hkl : (((l.take most).take k).map cutS).length = k := by rw [List.length_map, List.length_take]; omega
    have hrow := mid_get (f := strR) (g := strR) (xs := ((l.take most).take k).map cutS) (k := k) hkl hd
    have hk3 : k < ((((l.take most).take k).map cutS).map strR ++ ((l.take most).drop k).map strR).length := by rw [mid_len hkl hk]; exact hk2
    refine aw_skip ?_
    refine thn_n ?_
    refine aw_seq ?_
    refine aw_block ?_
    refine aw_seq (aw_region ?_)
    refine q1 ?_
    refine q1 ?_
    refine qq rfl rfl (qr_load_rp_one rfl hrow rfl) ?_
    refine q1 ?_
    refine q1 ?_
    refine aops_nil (thn_n ?_)
    refine aw_region ?_
    refine q1 ?_
    refine q1 ?_
    refine q1 ?_
    refine q1 ?_
    refine q1 ?_
    refine qq rfl rfl (qr_minN b.size 40 rfl rfl) ?_
    refine qq rfl rfl (qr_slice_string_h rfl rfl (by omega)) ?_
    refine rn ?_
    refine aops_e rfl (oe_store_rp rfl rfl rfl hrow rfl (Nat.le_of_ble_eq_true rfl) ?_)
    refine rn ?_
    have hset := mid_set (f := strR) (g := strR) (l := (l.take most)) (xs := ((l.take most).take k).map cutS) (a := cutS b) (r := (strR b).take 0 ++ [sv (cutS b)] ++ (strR b).drop (0 + 1)) hkl hd rfl
    have hx : ((l.take most).take k).map cutS ++ [cutS b] = ((l.take most).take (k + 1)).map cutS := by rw [List.take_succ_eq_append_getElem hk2, hb]; simp
    rw [hx] at hset
    exact ⟨k + 1, by omega, (by rw [← hset]; exact (ent_sub (.cons _ _ _ rfl (.cons _ _ _ rfl (.cons _ _ _ rfl (.cons _ _ _ rfl (.nil))))))), by omega⟩
  · obtain rfl : k = (l.take most).length := by
      have : ¬ k < (l.take most).length := by simpa using hc18
      omega
    rw [List.take_length, List.drop_length, List.map_nil, List.append_nil]
    refine rn ?_
    exact retq (.cons _ _ _ _ (.tmp _ _ rfl) .nil) vent_freeze ⟨rfl, rfl⟩
end Go.Proofs
/- The walk of law 15's wakes. Conditions: none. -/
set_option linter.unusedVariables false
set_option linter.unusedSimpArgs false
set_option maxRecDepth 10000
namespace Go.Proofs
open Go Go.Ab
attribute [local irreducible] QR QV OE aops aw dsoup dsoupM dalloc dallocM thn inBlk jsoup jch lsoup
open Go.H
end Go.Proofs
/- The walk of the reference's Same. Conditions: none. -/
set_option linter.unusedVariables false
set_option linter.unusedSimpArgs false
set_option maxRecDepth 10000
namespace Go.Proofs
open Go Go.Ab
attribute [local irreducible] QR QV OE aops aw dsoup dsoupM dalloc dallocM thn inBlk
open Go.H
end Go.Proofs
/- The walk of RulesFirst. Conditions: none. -/
set_option linter.unusedVariables false
set_option linter.unusedSimpArgs false
set_option maxRecDepth 10000
namespace Go.Proofs
open Go Go.Ab
attribute [local irreducible] QR QV OE aops aw dsoup dsoupM dalloc dallocM thn inBlk jsoup jch lsoup
open Go.H
end Go.Proofs
/- The walk of RulesPlaces. Conditions: none. -/
set_option linter.unusedVariables false
set_option linter.unusedSimpArgs false
set_option maxRecDepth 10000
namespace Go.Proofs
open Go Go.Ab
attribute [local irreducible] QR QV OE aops aw dsoup dsoupM dalloc dallocM thn inBlk jsoup jch lsoup
open Go.H
theorem qr_isB {P : Program} {h : List Res} {f : Operand → Option AV} {o : Oper} {b c : Bool} (hq : QR P h f o (.v (.bool b))) (e : b = c) : QR P h f o (.v (.bool c)) := by subst e; exact hq
end Go.Proofs
/- The walks of the changes, slices.Collect, Changes. Conditions: none. -/
set_option linter.unusedVariables false
set_option linter.unusedSimpArgs false
set_option maxRecDepth 10000
namespace Go.Proofs
open Go Go.Ab
attribute [local irreducible] QR QV OE aops aw dsoup dsoupM dalloc dallocM thn inBlk jsoup jch lsoup
open Go.H
def gatD {α : Type} (d : Nat → Option α) : Nat → List α
  | 0 => []
  | k + 1 => gatD d k ++ (d k).toList
theorem gatD_n {α : Type} {d : Nat → Option α} {k : Nat} (h : d k = none) : gatD d (k + 1) = gatD d k := by rw [gatD, h]; simp
theorem gatD_y {α : Type} {d : Nat → Option α} {k : Nat} {a : α} (h : d k = some a) : gatD d (k + 1) = gatD d k ++ [a] := by rw [gatD, h]; rfl
theorem gatD_len {α : Type} (d : Nat → Option α) : ∀ n, (gatD d n).length ≤ n
  | 0 => by simp [gatD]
  | n + 1 => by
    have := gatD_len d n
    rw [gatD, List.length_append]
    cases d n <;> simp <;> omega
def chD (l : List Bool) (k : Nat) : Option Int := if 0 < k ∧ l[k]? ≠ l[k - 1]? then some (k : Int) else none
theorem chD_gat (l : List Bool) : ∀ n, gatD (chD l) n = chgK l n
  | 0 => rfl
  | n + 1 => by
    rw [gatD, chgK, chD_gat l n, chD]
    split <;> rfl
theorem chD_0 {l : List Bool} {k : Nat} (h : decide ((k : Int) > 0) = false) : chD l k = none := by
  have := of_decide_eq_false h
  rw [chD, if_neg (by omega)]
theorem chD_y {l : List Bool} {k : Nat} (h : decide ((k : Int) > 0) = true) (hk : k < l.length) (hb : (l[k] != l[k - 1]'(by omega)) = true) : chD l k = some (k : Int) := by
  have := of_decide_eq_true h
  rw [chD, if_pos ⟨by omega, by rw [List.getElem?_eq_getElem hk, List.getElem?_eq_getElem (by omega)]; intro e; injection e with e; rw [e] at hb; simp at hb⟩]
theorem chD_n {l : List Bool} {k : Nat} (hk : k < l.length) (hb : (l[k] != l[k - 1]'(by omega)) = false) : chD l k = none := by
  rw [chD, if_neg (by rintro ⟨_, q⟩; apply q; rw [List.getElem?_eq_getElem hk, List.getElem?_eq_getElem (by omega)]; congr 1; simpa using hb)]
theorem ch_pre {k : Nat} (h : decide ((k : Int) > 0) = true) : ((k : Int) - 1).toNat = k - 1 ∧ 0 ≤ (k : Int) - 1 := by
  have := of_decide_eq_true h
  omega
theorem row_pre {l : List Bool} {k : Nat} (h : decide ((k : Int) > 0) = true) (hk : k < l.length) : (l.map boolR)[((k : Int) - 1).toNat]? = some (boolR (l[k - 1]'(by omega))) := by
  rw [(ch_pre h).1, List.getElem?_map, List.getElem?_eq_getElem (by omega)]; rfl
set_option maxHeartbeats 4000000 in
theorem mxChg1 (l : List Bool) (hl : l.length ≤ 1000000) (b1 : Nat) (y : AV) (I : Nat → SV → List Res) (x0 : SV) (hy : ∀ k x a, k < l.length → chD l k = some a → FCall Tryz.prog y [iv a] (.box b1 153 [boolsA l] :: I k x) (fun r h' => ∃ x', r = bv true ∧ h' = .box b1 153 [boolsA l] :: I (k + 1) x')) (hs : ∀ k x, k < l.length → chD l k = none → I (k + 1) x = I k x) : ACall Tryz.prog 162 [y, .v (.pointer (some ⟨b1, 0, none⟩))] (.box b1 153 [boolsA l] :: I 0 x0) (fun r h' => ∃ x, h' = I l.length x) := by
  refine acall_of_aw Tryz.func162 rfl rfl rfl ?_
  refine rn ?_
  refine aw_rngX l.length (fun _ _ => True) (fun k (x : SV) => ⟨[(6, iv k), (0, y), (1, .v (.pointer (some ⟨b1, 0, none⟩))), (5, iv (l.map boolR).length)], .box b1 153 [boolsA l] :: I k x, []⟩) x0 trivial es ?_
  intro k x lk _
  refine rn ?_
  refine aw_cond rfl (fun hc7 => ?_) (fun hc7 => ?_)
  · have hk := ltMap hc7
    have rk := atRow (f := boolR) hk
    refine rn ?_
    refine aw_draw 17 rfl ?_
    refine rn ?_
    refine dsplit (fun hg3_2 => ?_) (fun hg3_2 => ?_)
    · refine dq rfl rfl qrA ?_
      refine dq rfl rfl qrA ?_
      refine dq rfl rfl qrA ?_
      refine dq rfl rfl qrA ?_
      refine dq rfl rfl qrA ?_
      refine dq rfl rfl qrA ?_
      refine dq rfl rfl (qr_ari rfl rfl rfl (by omega)) ?_
      refine dq rfl rfl (qr_index_int rfl rfl (ch_pre hg3_2).2 (row_pre hg3_2 hk)) ?_
      refine dq rfl rfl qrA ?_
      refine dq rfl rfl (qr_isB (c := l[k] != l[k - 1]'(by omega)) (qr_nebool rfl rfl) rfl) ?_
      refine rn ?_
      refine dsplit (fun hg3_14 => ?_) (fun hg3_14 => ?_)
      · refine rn ?_
        refine aops_e rfl (oe_call rfl rfl (hy k x _ hk (chD_y hg3_2 hk (by exact hg3_14))) rfl ?_)
        rintro _ _ ⟨x', rfl, rfl⟩
        refine rn ?_
        refine aw_cond rfl (fun hc28 => ?_) (fun hc28 => ?_)
        · refine rn ?_
          exact absurd hc28 (by simp)
        · refine rn ?_
          first | exact ⟨hk, x', trivial, eA⟩ | exact ⟨hk, x, trivial, by rw [hs k x hk (chD_n hk (by exact hg3_14))]; exact eA⟩ | exact ⟨hk, x, trivial, by rw [hs k x hk (chD_0 hg3_2)]; exact eA⟩
      · refine rn ?_
        refine aw_cf rfl ?_
        refine rn ?_
        first | exact ⟨hk, x', trivial, eA⟩ | exact ⟨hk, x, trivial, by rw [hs k x hk (chD_n hk (by exact hg3_14))]; exact eA⟩ | exact ⟨hk, x, trivial, by rw [hs k x hk (chD_0 hg3_2)]; exact eA⟩
    · refine rn ?_
      refine aw_cf rfl ?_
      refine rn ?_
      first | exact ⟨hk, x', trivial, eA⟩ | exact ⟨hk, x, trivial, by rw [hs k x hk (chD_n hk (by exact hg3_14))]; exact eA⟩ | exact ⟨hk, x, trivial, by rw [hs k x hk (chD_0 hg3_2)]; exact eA⟩
  · have qk := geMap hc7 lk
    subst qk
    refine rn ?_
    exact retq_n .nil (.drop [_] _ _) ⟨x, rfl⟩
theorem mxChg (l : List Bool) (W : List Res) : ACall Tryz.prog 115 [boolsA l] W (fun r h' => ∃ b1, h' = .box b1 153 [boolsA l] :: W ∧ r = .fn (.func 162) [] [.v (.pointer (some ⟨b1, 0, none⟩))]) := by
  refine acall_of_aw Tryz.func115 rfl rfl rfl ?_
  refine rn ?_
  refine aops_e rfl (oe_box rfl rfl rfl fun b1 => ?_)
  refine rn ?_
  exact retq (.cons _ _ _ _ (.tmp _ _ rfl) .nil) (.refl _ _) ⟨_, rfl, rfl⟩
set_option maxHeartbeats 4000000 in
theorem appSeqI (f : FuncId) [Go.Ab.Enters Tryz.prog f] (cs : List AV) (w1 : Res) (n : Nat) (hn : n ≤ 1000000) (d : Nat → Option (Int)) (W : List Res) (hseq : ∀ (y : AV) (I : Nat → SV → List Res) (x0 : SV), (∀ k x a, k < n → d k = some a → FCall Tryz.prog y [iv a] (w1 :: I k x) (fun r h' => ∃ x', r = bv true ∧ h' = w1 :: I (k + 1) x')) → (∀ k x, k < n → d k = none → I (k + 1) x = I k x) → ACall Tryz.prog f (y :: cs) (w1 :: I 0 x0) (fun _ h' => ∃ x, h' = I n x)) : ACall Tryz.prog 161 [.v (.slice none 0 0), .fn (.func f) [] cs] (w1 :: W) (fun r h' => ∃ s : SV, h' = .row s.v 1 3 ((gatD d n).map intR) :: W ∧ r = .v s.v) := by
  refine acall_of_aw Tryz.func161 rfl rfl rfl ?_
  refine rn ?_
  refine aops_e rfl (oe_box rfl rfl rfl fun b2 => ?_)
  refine rn ?_
  refine aw_ent (s' := ⟨[(6, .fn (.func f) [] cs), (2, .v (.pointer (some ⟨b2, 0, none⟩)))], w1 :: .box b2 40 [.v (⟨none, 0, 0⟩ : SV).v] :: .row (⟨none, 0, 0⟩ : SV).v 1 3 ((gatD d 0).map intR) :: W, []⟩) (ent_trans (ent_trans (ent_nilrow 1 3) (ent_perm ((pt2 _ _ _ _).trans (.cons _ (pt1 _ _ _))))) es) ?_
  refine aw_rf (fun pend h'' => pend = none ∧ ∃ s : SV, h'' = .box b2 40 [.v s.v] :: .row s.v 1 3 ((gatD d n).map intR) :: W) rfl (fun fn l q lp hlp => ?_) (fun q h'' hK => ?_) (fun q h'' c hK => ?_)
  · suffices hy : ∀ k (s : SV) a, k < n → d k = some a → FCall Tryz.prog (yv l) [iv a] (w1 :: lp .ready none :: .defs q :: .box b2 40 [.v s.v] :: .row s.v 1 3 ((gatD d k).map intR) :: W) (fun r h' => ∃ s' : SV, r = bv true ∧ h' = w1 :: lp .ready none :: .defs q :: .box b2 40 [.v s'.v] :: .row s'.v 1 3 ((gatD d (k + 1)).map intR) :: W) by
      refine ACall.mono (ACall.perm (pt2 _ _ _ _) (hseq (yv l) (fun k (s : SV) => lp .ready none :: .defs q :: .box b2 40 [.v s.v] :: .row s.v 1 3 ((gatD d k).map intR) :: W) ⟨none, 0, 0⟩ hy (fun k s hk hn => by rw [gatD_n hn]))) ?_
      rintro _ _ ⟨s, rfl⟩
      exact ⟨none, .ready, _, .refl _, by simp, rfl, s, rfl⟩
    intro k s a hk hd
    refine FCall.perm (pt1 _ _ _) (FCall.ventE ?_)
    refine fcall_yl2 hlp rfl rfl ?_
    refine rn ?_
    refine ⟨[(5, iv a), (2, .v (.pointer (some ⟨b2, 0, none⟩)))], w1 :: .defs q :: .box b2 40 [.v s.v] :: .row s.v 1 3 ((gatD d k).map intR) :: W, es, ?_⟩
    refine rn ?_
    refine qv rfl rfl (qv_buildSlice rfl rfl) ?_
    refine aops_e rfl (oe_append_row rfl rfl (by simp only [List.length_map, List.length_cons, List.length_nil]; have := gatD_len d k; omega) rfl (fun s11 => ?_) (one_int [a]))
    refine aops_slice s11 fun sv hsv => ?_
    subst hsv
    refine rn ?_
    exact round_n (.refl _) ⟨_, _, .perm (pt1 _ _ _) _, sv, rfl, by rw [gatD_y hd, List.map_append]; rfl⟩
  · obtain ⟨_, s, rfl⟩ := hK
    refine rn ?_
    exact retqd (.refl _) (.cons _ _ _ _ (.tmp _ _ rfl) .nil) (.drop1 _ _ _) ⟨s, rfl, rfl⟩
  · obtain ⟨hc, _⟩ := hK
    exact absurd hc (by simp)
theorem collectI (f : FuncId) [Go.Ab.Enters Tryz.prog f] (cs : List AV) (w1 : Res) (n : Nat) (hn : n ≤ 1000000) (d : Nat → Option (Int)) (W : List Res) (hseq : ∀ (y : AV) (I : Nat → SV → List Res) (x0 : SV), (∀ k x a, k < n → d k = some a → FCall Tryz.prog y [iv a] (w1 :: I k x) (fun r h' => ∃ x', r = bv true ∧ h' = w1 :: I (k + 1) x')) → (∀ k x, k < n → d k = none → I (k + 1) x = I k x) → ACall Tryz.prog f (y :: cs) (w1 :: I 0 x0) (fun _ h' => ∃ x, h' = I n x)) : ACall Tryz.prog 114 [.fn (.func f) [] cs] (w1 :: W) (fun r h' => ∃ s : SV, h' = .row s.v 1 3 ((gatD d n).map intR) :: W ∧ r = .v s.v) := by
  refine acall_of_aw Tryz.func114 rfl rfl rfl ?_
  refine rn ?_
  refine aops_e rfl (oe_call rfl rfl (FCall.of_fun (appSeqI f cs w1 n hn d W hseq)) rfl ?_)
  rintro _ _ ⟨s, rfl, rfl⟩
  refine rn ?_
  exact retq (.cons _ _ _ _ (.tmp _ _ rfl) .nil) (.refl _ _) ⟨s, rfl, rfl⟩
theorem tabP_le {h : Hist} {N : Nat} (la : Lim N h) {p x : Int} (he : tabE h p x = 0) : (tabP h p x).length ≤ 1000000 := by
  have lA := chk_lim (tab_0.1 he).1
  have := insR_le lA x
  rw [tab_len, tab_ins he]; omega
theorem matChgR (h : Hist) (la : Lim 4611686018427387904 h) (p x : Int) : ACall Tryz.prog 55 [.agg (histC h), iv p, iv x] (.glob 1 112 limitsC :: .glob 2 234 firstC :: .glob 3 237 acceptC :: .glob 0 102 asksC :: []) (fun r h' => ∃ s : SV, h' = .row s.v 1 3 ((chL h p x).map intR) :: .glob 1 112 limitsC :: .glob 2 234 firstC :: .glob 3 237 acceptC :: .glob 0 102 asksC :: [] ∧ r = .tup [.v s.v, iv (tabE h p x)]) := by
  refine acall_of_aw Tryz.func55 rfl rfl rfl ?_
  refine rn ?_
  refine aops_e rfl (oe_box rfl rfl rfl fun b3 => ?_)
  refine rn ?_
  refine qv rfl rfl (qv_call rfl rfl (FCall.qt (FCall.of_fun (matTab h la p x)) ((pt1 _ _ _).trans (.cons _ ((pt1 _ _ _).trans (.cons _ ((pt1 _ _ _).trans (.cons _ (pt1 _ _ _))))))))) ?_
  refine rn ?_
  refine aw_cond rfl (fun hc18 => ?_) (fun hc18 => ?_)
  · have he := mt_e (h := h) (p := p) (x := x) (r := 0) (nz_t hc18)
    refine rn ?_
    exact retq (.cons _ _ _ _ (.tmp _ _ rfl) (.cons _ _ _ _ (.tmp _ _ rfl) .nil)) (.trans (.drop [_] _ _) (vent_nilrow 1 3 _)) ⟨⟨none, 0, 0⟩, by rw [he.2.2]; rfl, rfl⟩
  · have he : tabE h p x = 0 := nz_f hc18
    have hl : tabL h p x = tabP h p x := by rw [tabL, if_pos he]
    have lt := tabP_le la he
    rw [hl]
    refine rn ?_
    refine aops_e rfl (oe_call rfl rfl (FCall.of_fun (mxChg (tabP h p x) _)) rfl ?_)
    rintro _ _ ⟨b1, rfl, rfl⟩
    refine aops_e rfl (oe_call rfl rfl (FCall.of_fun (collectI 162 [.v (.pointer (some ⟨b1, 0, none⟩))] _ (tabP h p x).length lt (chD (tabP h p x)) _ (fun y I x0 hy hs => mxChg1 (tabP h p x) lt b1 y I x0 hy hs))) rfl ?_)
    rintro _ _ ⟨s, rfl, rfl⟩
    refine rn ?_
    exact retq (.cons _ _ _ _ (.tmp _ _ rfl) (.cons _ _ _ _ (.tmp _ _ rfl) .nil)) (.trans (.perm (pt1 _ _ _) _) (.drop [_] _ _)) ⟨s, by rw [chL, if_pos he, chgP, chD_gat], by rw [he]; rfl⟩
theorem matChg (h : Hist) (la : Lim 4611686018427387904 h) (p x : Int) : ACall Tryz.prog 55 [.agg (histC h), iv p, iv x] (.glob 1 112 limitsC :: .glob 2 234 firstC :: .glob 3 237 acceptC :: .glob 0 102 asksC :: []) (fun r h' => h' = .glob 1 112 limitsC :: .glob 2 234 firstC :: .glob 3 237 acceptC :: .glob 0 102 asksC :: [] ∧ r = .tup [intsA (chL h p x), iv (tabE h p x)]) :=
  (matChgR h la p x).ventR (by rintro _ _ ⟨s, rfl, rfl⟩; exact ⟨_, _, vent_freeze_tup [] [_], rfl, rfl⟩)
end Go.Proofs
/- The walks of match's event, Set, Seen. Conditions: none. -/
set_option linter.unusedVariables false
set_option linter.unusedSimpArgs false
set_option maxRecDepth 10000
namespace Go.Proofs
open Go Go.Ab
attribute [local irreducible] QR QV OE aops aw dsoup dsoupM dalloc dallocM thn inBlk jsoup jch lsoup
open Go.H
def ev0 : Ev := ⟨0, 0, 0, 0, 0, ⟨0, 0⟩, 0, []⟩
def evA (h : Hist) (n : Int) : Ev := if askE h n h.evs.length = 0 then evD h.evs n else ev0
def setL (h : Hist) (n : Int) : List Seen := if sightE h n = 0 then setP h (evD h.evs n) n.toNat else []
theorem tri3c {p : Prop} (c d : Prop) [Decidable c] [Decidable d] (x : c → d → p) (y : c → ¬ d → p) (z : ¬ c → p) : p := if h : c then (if k : d then x h k else y h k) else z h
theorem ev_at {h : Hist} {n : Int} (he : askE h n h.evs.length = 0) : ∃ a : Nat, ∃ ha : a < h.evs.length, n = a ∧ evA h n = h.evs[a] ∧ checkI h = 0 := by
  obtain ⟨hs, n0, n1⟩ := ask_0 he
  obtain ⟨a, rfl⟩ := Int.eq_ofNat_of_zero_le n0
  exact ⟨a, by omega, rfl, by rw [evA, if_pos he, evD_at (by omega)], checkI_0.2 hs⟩
theorem ev_no {h : Hist} {n : Int} (he : askE h n h.evs.length ≠ 0) : evA h n = ev0 := by rw [evA, if_neg he]
theorem st_x {h : Hist} {a : Nat} (ha : a < h.evs.length) (hc : checkI h = 0) (h4 : h.evs[a].kind = 4) : sightE h a = 0 ∧ setL h a = setP h h.evs[a] a := by
  have := (sg_y hc ha h4).1
  exact ⟨this, by rw [setL, this, if_pos rfl, evD_at ha, Int.toNat_natCast]⟩
theorem st_n {h : Hist} {n : Int} (hc : checkI h = 0) (hn : ¬ (0 ≤ n ∧ n < h.evs.length ∧ (evD h.evs n).kind = 4)) : sightE h n = 2 ∧ setL h n = [] := by
  have := (sg_n hc hn).1
  exact ⟨this, by rw [setL, this]; rfl⟩
theorem st_z {h : Hist} {n : Int} (he : askE h n h.evs.length ≠ 0) : sightE h n = askE h n h.evs.length ∧ setL h n = [] := by
  by_cases hc : checkI h = 0
  · have hn : ¬ (0 ≤ n ∧ n < (h.evs.length : Int)) := fun q => he (ask_y hc q)
    obtain ⟨a, b⟩ := st_n (h := h) (n := n) hc (fun q => hn ⟨q.1, q.2.1⟩)
    exact ⟨by rw [a, ask_a hc hn], b⟩
  · have := (sg_c (n := n) hc).1
    exact ⟨by rw [this, ask_c hc], by rw [setL, this, if_neg hc]⟩
theorem ev_k {h : Hist} {n : Int} (he : askE h n h.evs.length = 0) : evA h n = evD h.evs n := by rw [evA, if_pos he]
theorem matEvent (h : Hist) (la : Lim 4611686018427387904 h) (n : Int) : ACall Tryz.prog 117 [.agg (histC h), iv n] (.glob 1 112 limitsC :: .glob 2 234 firstC :: .glob 3 237 acceptC :: .glob 0 102 asksC :: []) (fun r h' => h' = .glob 1 112 limitsC :: .glob 2 234 firstC :: .glob 3 237 acceptC :: .glob 0 102 asksC :: [] ∧ r = .tup [.agg (evR (evA h n)), iv (askE h n h.evs.length)]) := by
  refine acall_of_aw Tryz.func117 rfl rfl rfl ?_
  refine rn ?_
  refine aops_e rfl (oe_box rfl rfl rfl fun b2 => ?_)
  refine aops_e rfl (oe_alloc rfl fun b4 => ?_)
  refine rn ?_
  refine qv rfl rfl (qv_call rfl rfl (FCall.qt (FCall.of_fun (ixComm h la)) ((pt2 _ _ _ _).trans (.cons _ ((pt2 _ _ _ _).trans (.cons _ ((pt2 _ _ _ _).trans (.cons _ (pt2 _ _ _ _))))))))) ?_
  refine rn ?_
  refine aw_cond rfl (fun hc14 => ?_) (fun hc14 => ?_)
  · have he : askE h n h.evs.length = checkI h := ask_c (nz_t hc14)
    have hn : askE h n h.evs.length ≠ 0 := by rw [he]; exact nz_t hc14
    refine aw_seq (aw_region ?_)
    refine qq rfl rfl (qr_weak (fun w O v hr => Sb.rel (Sb.aggs (bs := evR ev0) (by exact ⟨.refl _, .refl _, .refl _, .refl _, .refl _, .refl _, .refl _, .refl _, .nil _ _, trivial⟩)) hr) (qr_build (out := [iv 0, iv 0, iv 0, iv 0, iv 0, iv 0, iv 0, iv 0, .v (.slice none 0 0)]) rfl (by rfl))) ?_
    refine rn ?_
    exact retq (.cons _ _ _ _ (.agg _ _ _ _ _ _ _ rfl inferInstance inferInstance inferInstance rfl) (.cons _ _ _ _ (.tmp _ _ rfl) .nil)) (.drop [_, _] _ _) ⟨rfl, by rw [ev_no hn, he]; rfl⟩
  · have hc := nz_f hc14
    refine rn ?_
    refine qv rfl rfl (qv_call rfl rfl (pcall (matIs n (h.evs.map evR).length) (Sbs.refl _))) ?_
    refine rn ?_
    refine aw_cond rfl (fun hc22 => ?_) (fun hc22 => ?_)
    · have he : askE h n h.evs.length = 2 := ask_a hc (by have q := nd_t hc22; rw [List.length_map] at q; exact q)
      have hn : askE h n h.evs.length ≠ 0 := by rw [he]; decide
      refine aw_seq (aw_region ?_)
      refine qq rfl rfl (qr_weak (fun w O v hr => Sb.rel (Sb.aggs (bs := evR ev0) (by exact ⟨.refl _, .refl _, .refl _, .refl _, .refl _, .refl _, .refl _, .refl _, .nil _ _, trivial⟩)) hr) (qr_build (out := [iv 0, iv 0, iv 0, iv 0, iv 0, iv 0, iv 0, iv 0, .v (.slice none 0 0)]) rfl (by rfl))) ?_
      refine rn ?_
      exact retq (.cons _ _ _ _ (.agg _ _ _ _ _ _ _ rfl inferInstance inferInstance inferInstance rfl) (.cons _ _ _ _ (.tmp _ _ rfl) .nil)) (.drop [_, _] _ _) ⟨rfl, by rw [ev_no hn, he]; rfl⟩
    · have q := nd_f hc22
      rw [List.length_map] at q
      have he := ask_y hc q
      obtain ⟨a, ha, rfl, ea, _⟩ := ev_at he
      have ra := atRow (f := evR) ha
      refine aw_skip ?_
      refine thn_n ?_
      refine aw_seq (aw_region ?_)
      refine q1 ?_
      refine q1 ?_
      refine q1 ?_
      refine qq rfl rfl (qr_index_int rfl rfl q.1 ra) ?_
      refine rn ?_
      exact retq (.cons _ _ _ _ (.agg _ _ _ _ _ _ _ rfl inferInstance inferInstance inferInstance rfl) (.cons _ _ _ _ (.tmp _ _ rfl) .nil)) (.drop [_, _] _ _) ⟨rfl, by rw [ea, he]; rfl⟩
set_option maxHeartbeats 4000000 in
theorem matSetR (h : Hist) (la : Lim 4611686018427387904 h) (n : Int) : ACall Tryz.prog 61 [.agg (histC h), iv n] (.glob 1 112 limitsC :: .glob 2 234 firstC :: .glob 3 237 acceptC :: .glob 0 102 asksC :: []) (fun r h' => ∃ s : SV, h' = .row s.v 3 76 ((setL h n).map seenR) :: .glob 1 112 limitsC :: .glob 2 234 firstC :: .glob 3 237 acceptC :: .glob 0 102 asksC :: [] ∧ r = .tup [.v s.v, iv (sightE h n)]) := by
  refine acall_of_aw Tryz.func61 rfl rfl rfl ?_
  refine rn ?_
  refine aops_e rfl (oe_box rfl rfl rfl fun b2 => ?_)
  refine rn ?_
  refine aw_scope ?_
  refine rn ?_
  refine qv rfl rfl (qv_call rfl rfl (FCall.qt (FCall.of_fun (matEvent h la n)) ((pt1 _ _ _).trans (.cons _ ((pt1 _ _ _).trans (.cons _ ((pt1 _ _ _).trans (.cons _ (pt1 _ _ _))))))))) ?_
  refine rn ?_
  refine aops_e rfl (oe_alloc rfl fun b6 => ?_)
  first | refine aops_e rfl (oe_store_all rfl rfl rfl ?_) | refine aops_e rfl (oe_store rfl rfl rfl rfl (Nat.le_of_ble_eq_true rfl) ?_)
  refine q1 ?_
  refine aops_nil (thn_n ?_)
  refine aw_seq ?_
  refine aw_seq (aw_region ?_)
  refine q1 ?_
  refine tri3c (askE h n h.evs.length = 0) ((evA h n).kind = 4) (fun hc h4 => qq rfl rfl (qr_cmp (c := true) rfl rfl (congrArg some (by rw [hc]; rfl))) ?_) (fun hc h4 => qq rfl rfl (qr_cmp (c := true) rfl rfl (congrArg some (by rw [hc]; rfl))) ?_) (fun hc => qq rfl rfl (qr_cmp (c := false) rfl rfl (congrArg some (by simpa using hc))) ?_)
  · refine q1 ?_
    refine q1 ?_
    refine q1 ?_
    refine qq rfl rfl (by first | exact qr_cmp (c := false) rfl rfl (congrArg some (by rw [h4]; rfl)) | exact qr_cmp (c := true) rfl rfl (congrArg some (by simpa using h4))) ?_
    refine rn ?_
    refine aw_cond rfl (fun hc29 => ?_) (fun hc29 => ?_)
    · first | cases hc29 | exact absurd hc29 (by decide) | (exfalso; simp_all; done)
    · refine aw_skip ?_
      refine thn_n ?_
      refine aw_seq ?_
      refine aw_seq (aw_region ?_)
      refine q1 ?_
      refine qq rfl rfl (by first | exact qr_cmp (c := false) rfl rfl (congrArg some (by rw [hc]; rfl)) | exact qr_cmp (c := true) rfl rfl rfl | exact qr_cmp (c := true) rfl rfl (congrArg some (by simpa using hc))) ?_
      refine rn ?_
      refine aw_cond rfl (fun hc31 => ?_) (fun hc31 => ?_)
      · first | cases hc31 | exact absurd hc31 (by decide) | (exfalso; simp_all; done)
      · refine aw_skip ?_
        refine rn0 ?_
        refine aw_seq ?_
        obtain ⟨a, ha, rfl, ea, hk0⟩ := ev_at hc
        rw [ea] at h4
        rw [ea]
        obtain ⟨hse, hsl⟩ := st_x ha hk0 h4
        have lA := chk_lim hk0
        have be := lA.evs
        have bs := lA.scans h.evs[a] (List.getElem_mem ha)
        refine rn ?_
        refine aops_e rfl (oe_makeMap (enc := intK) rfl fun rm => ?_)
        refine rn ?_
        refine aw_range h.evs.length (fun k => k ≤ a) (fun k => ⟨[(37, iv k), (1, iv (a : Int)), (2, .v (.pointer (some ⟨b2, 0, none⟩))), (6, .v (.pointer (some ⟨b6, 0, none⟩))), (8, mpv rm), (35, evsA h.evs), (36, iv (h.evs.map evR).length)], .map rm (encM intK (mapA verA (ownM (h.evs.take k) h.evs[a].t))) :: .box b6 72 (evR h.evs[a]) :: .box b2 28 (histC h) :: .glob 1 112 limitsC :: .glob 2 234 firstC :: .glob 3 237 acceptC :: .glob 0 102 asksC :: [], []⟩) (Nat.zero_le _) es ?_
        intro k lk ka
        refine rn ?_
        refine aw_cond rfl (fun hc38 => ?_) (fun hc38 => ?_)
        · have hk := ltMap hc38
          have rk := atRow (f := evR) hk
          refine rn ?_
          refine aops_e rfl (oe_alloc rfl fun b10 => ?_)
          refine rn ?_
          refine aw_cond rfl (fun hc42 => ?_) (fun hc42 => ?_)
          · obtain rfl : a = k := by have := eq_of_beq hc42; omega
            refine rn ?_
            refine aw_range h.evs[a].scan.length (fun _ => True) (fun j => ⟨[(66, iv j), (2, .v (.pointer (some ⟨b2, 0, none⟩))), (8, mpv rm), (64, seensA h.evs[a].scan), (65, iv (h.evs[a].scan.map seenR).length)], .map rm (encM intK (mapA verA (scnM (ownM (h.evs.take a) h.evs[a].t) (h.evs[a].scan.take j)))) :: .box b6 72 (evR h.evs[a]) :: .box b2 28 (histC h) :: .glob 1 112 limitsC :: .glob 2 234 firstC :: .glob 3 237 acceptC :: .glob 0 102 asksC :: [], []⟩) trivial eA ?_
            intro j lj _
            refine rn ?_
            refine aw_cond rfl (fun hc67 => ?_) (fun hc67 => ?_)
            · have hj := ltMap hc67
              have rj := atRow (f := seenR) hj
              refine rn ?_
              refine aops_e rfl (oe_alloc rfl fun b12 => ?_)
              refine rn ?_
              refine aops_e rfl (oe_mapUpdT (g := verA) (enc := intK) (k := h.evs[a].scan[j].o) (v := h.evs[a].scan[j].v) rfl rfl rfl ?_)
              refine rn ?_
              exact ⟨hj, trivial, by rw [scnM_s hj]; exact eA⟩
            · have qj := geMap hc67 lj
              subst qj
              rw [List.take_length]
              refine rn ?_
              refine aw_rng1 h.os.length (fun k s => ⟨[(79, iv k), (13, .v s.v), (8, mpv rm), (78, iv (h.os.map strR).length)], .row s.v 3 76 (((upR k).map fun x : Int => (⟨x, ownV h.evs h.evs[a].t a h.evs[a].scan x⟩ : Seen)).map seenR) :: .map rm (encM intK (mapA verA (scnM (ownM (h.evs.take a) h.evs[a].t) h.evs[a].scan))) :: .box b6 72 (evR h.evs[a]) :: .box b2 28 (histC h) :: .glob 1 112 limitsC :: .glob 2 234 firstC :: .glob 3 237 acceptC :: .glob 0 102 asksC :: [], []⟩) ⟨none, 0, 0⟩ (ent_trans (ent_nilrow 3 76) es) ?_
              intro k s lk
              refine rn ?_
              refine aw_cond rfl (fun hc80 => ?_) (fun hc80 => ?_)
              · have hk : k < h.os.length := by have q := of_decide_eq_true hc80; rw [List.length_map] at q; omega
                have bo := lA.os
                have hv := own_get (l := h.evs) (t := h.evs[a].t) (x := (k : Int)) h.evs[a].scan (Nat.le_of_lt ha)
                refine aw_skip ?_
                refine thn_n ?_
                refine aw_seq ?_
                refine aw_block ?_
                refine aw_seq (aw_region ?_)
                refine q1 ?_
                refine q1 ?_
                refine aops_nil (thn_n ?_)
                refine aw_seq (aw_region ?_)
                refine q1 ?_
                refine qq rfl rfl (qr_build (out := [iv (k : Int), iv 0, iv 0]) rfl (by rfl)) ?_
                refine aops_e rfl (oe_alloc rfl fun b15 => ?_)
                first | refine aops_e rfl (oe_store_all rfl rfl rfl ?_) | refine aops_e rfl (oe_store rfl rfl rfl rfl (Nat.le_of_ble_eq_true rfl) ?_)
                refine aops_nil (thn_n ?_)
                refine aw_seq ?_
                refine aw_seq (aw_region ?_)
                refine q1 ?_
                refine q1 ?_
                refine qq rfl rfl (qr_lookT (g := verA) (enc := intK) (k := (k : Int)) (⟨0, 0⟩ : Ver) rfl rfl) ?_
                rw [hv]
                generalize hV : ownV h.evs h.evs[a].t a h.evs[a].scan (k : Int) = V
                refine aops_e rfl (oe_alloc rfl fun b16 => ?_)
                first | refine aops_e rfl (oe_store_all rfl rfl rfl ?_) | refine aops_e rfl (oe_store rfl rfl rfl rfl (Nat.le_of_ble_eq_true rfl) ?_)
                refine aops_nil (thn_n ?_)
                refine aw_seq (aw_region ?_)
                refine q1 ?_
                refine qq rfl rfl (qr_build (out := [iv 0, iv 0]) rfl (by rfl)) ?_
                refine rn ?_
                refine aw_cond rfl (fun hc89 => ?_) (fun hc89 => ?_)
                · refine rn ?_
                  refine qv rfl rfl (qv_buildSlice rfl rfl) ?_
                  refine aops_e rfl (oe_append_row rfl rfl (by simp only [List.length_map, upR, List.length_range, List.length_cons, List.length_nil]; omega) rfl (fun s95 => ?_) (by first | exact one_seen [(⟨(k : Int), V⟩ : Seen)] | exact one_seen [(⟨(k : Int), ⟨0, 0⟩⟩ : Seen)]))
                  refine aops_slice s95 fun sv hsv => ?_
                  subst hsv
                  refine rn ?_
                  exact ⟨hk, sv, by rw [upR_s, List.map_append, List.map_append, List.map_singleton, List.map_singleton, hV]; exact eA⟩
                · have hv0 : V = ⟨0, 0⟩ := eq_of_beq (by rw [← ver_list]; simpa using hc89)
                  subst hv0
                  refine rn ?_
                  refine qv rfl rfl (qv_buildSlice rfl rfl) ?_
                  refine aops_e rfl (oe_append_row rfl rfl (by simp only [List.length_map, upR, List.length_range, List.length_cons, List.length_nil]; omega) rfl (fun s95 => ?_) (by first | exact one_seen [(⟨(k : Int), V⟩ : Seen)] | exact one_seen [(⟨(k : Int), ⟨0, 0⟩⟩ : Seen)]))
                  refine aops_slice s95 fun sv hsv => ?_
                  subst hsv
                  refine rn ?_
                  exact ⟨hk, sv, by rw [upR_s, List.map_append, List.map_append, List.map_singleton, List.map_singleton, hV]; exact eA⟩
              · have qk : k = h.os.length := by have q := of_decide_eq_false hc80; rw [List.length_map] at q; omega
                subst qk
                refine rn ?_
                refine ⟨fun l h => (by cases h), ?_⟩
                exact retq (.cons _ _ _ _ (.tmp _ _ rfl) (.cons _ _ _ _ (.tmp _ _ rfl) .nil)) (.trans (.perm ((pt1 _ _ _).trans (.cons _ ((pt1 _ _ _).trans (.cons _ (pt1 _ _ _))))) _) (.drop [_, _, _] _ _)) ⟨s, by rw [hsl]; rfl, by rw [hse]; rfl⟩
          · have hka : k < a := by have := beq_eq_false_iff_ne.1 hc42; omega
            refine rn ?_
            refine asplit (fun hg11_5 => ?_) (fun hg11_5 => ?_)
            · refine rn ?_
              refine aw_cond rfl (fun hc46 => ?_) (fun hc46 => ?_)
              · have hw : (h.evs[k].t == h.evs[a].t && h.evs[k].kind == 2) = true := by first | (rw [hg11_5]; exact hc46) | (rw [Bool.and_eq_true]; exact ⟨hg11_5, hc46⟩)
                refine rn ?_
                refine aops_e rfl (oe_mapUpdT (g := verA) (enc := intK) (k := h.evs[k].o) (v := h.evs[k].v) rfl rfl rfl ?_)
                refine rn ?_
                first | exact ⟨hk, hka, by rw [ownM_y hk hw]; exact eA⟩ | exact ⟨hk, hka, by rw [ownM_n hk hw]; exact eA⟩
              · have hw : (h.evs[k].t == h.evs[a].t && h.evs[k].kind == 2) = false := by first | (rw [hg11_5, hc46]; rfl) | (rw [hg11_5]; rfl)
                refine rn ?_
                first | exact ⟨hk, hka, by rw [ownM_y hk hw]; exact eA⟩ | exact ⟨hk, hka, by rw [ownM_n hk hw]; exact eA⟩
            · refine rn ?_
              refine aw_cond rfl (fun hc46 => ?_) (fun hc46 => ?_)
              · first | cases hc46 | exact absurd hc46 (by decide) | (exfalso; simp_all; done)
              · have hw : (h.evs[k].t == h.evs[a].t && h.evs[k].kind == 2) = false := by first | (rw [hg11_5, hc46]; rfl) | (rw [hg11_5]; rfl)
                refine rn ?_
                first | exact ⟨hk, hka, by rw [ownM_y hk hw]; exact eA⟩ | exact ⟨hk, hka, by rw [ownM_n hk hw]; exact eA⟩
        · exfalso; have qk := geMap hc38 lk; omega
  · refine q1 ?_
    refine q1 ?_
    refine q1 ?_
    refine qq rfl rfl (by first | exact qr_cmp (c := false) rfl rfl (congrArg some (by rw [h4]; rfl)) | exact qr_cmp (c := true) rfl rfl (congrArg some (by simpa using h4))) ?_
    refine rn ?_
    refine aw_cond rfl (fun hc29 => ?_) (fun hc29 => ?_)
    · refine aw_region ?_
      refine q1 ?_
      refine aops_nil (thn_n ?_)
      refine aw_seq ?_
      refine aw_seq (aw_region ?_)
      refine q1 ?_
      refine qq rfl rfl (by first | exact qr_cmp (c := false) rfl rfl (congrArg some (by rw [hc]; rfl)) | exact qr_cmp (c := true) rfl rfl rfl | exact qr_cmp (c := true) rfl rfl (congrArg some (by simpa using hc))) ?_
      refine rn ?_
      refine aw_cond rfl (fun hc31 => ?_) (fun hc31 => ?_)
      · refine rn ?_
        refine ⟨fun l h => (by cases h), ?_⟩
        exact retq (.cons _ _ _ _ (.tmp _ _ rfl) (.cons _ _ _ _ (.tmp _ _ rfl) .nil)) (.trans (.drop [_, _] _ _) (vent_nilrow 3 76 _)) ⟨⟨none, 0, 0⟩, by first | (rw [(st_z hc).2]; rfl) | (obtain ⟨a, ha, rfl, ea, hk0⟩ := ev_at hc; rw [(st_n hk0 (by rw [← ev_k hc]; exact fun q => h4 q.2.2)).2]; rfl), by first | (rw [(st_z hc).1]; rfl) | (obtain ⟨a, ha, rfl, ea, hk0⟩ := ev_at hc; rw [(st_n hk0 (by rw [← ev_k hc]; exact fun q => h4 q.2.2)).1]; rfl)⟩
      · first | cases hc31 | exact absurd hc31 (by decide) | (exfalso; simp_all; done)
    · first | cases hc29 | exact absurd hc29 (by decide) | (exfalso; simp_all; done)
  · refine rn ?_
    refine aw_cond rfl (fun hc29 => ?_) (fun hc29 => ?_)
    · first | cases hc29 | exact absurd hc29 (by decide) | (exfalso; simp_all; done)
    · refine aw_skip ?_
      refine thn_n ?_
      refine aw_seq ?_
      refine aw_seq (aw_region ?_)
      refine q1 ?_
      refine qq rfl rfl (by first | exact qr_cmp (c := false) rfl rfl (congrArg some (by rw [hc]; rfl)) | exact qr_cmp (c := true) rfl rfl rfl | exact qr_cmp (c := true) rfl rfl (congrArg some (by simpa using hc))) ?_
      refine rn ?_
      refine aw_cond rfl (fun hc31 => ?_) (fun hc31 => ?_)
      · refine rn ?_
        refine ⟨fun l h => (by cases h), ?_⟩
        exact retq (.cons _ _ _ _ (.tmp _ _ rfl) (.cons _ _ _ _ (.tmp _ _ rfl) .nil)) (.trans (.drop [_, _] _ _) (vent_nilrow 3 76 _)) ⟨⟨none, 0, 0⟩, by first | (rw [(st_z hc).2]; rfl) | (obtain ⟨a, ha, rfl, ea, hk0⟩ := ev_at hc; rw [(st_n hk0 (by rw [← ev_k hc]; exact fun q => h4 q.2.2)).2]; rfl), by first | (rw [(st_z hc).1]; rfl) | (obtain ⟨a, ha, rfl, ea, hk0⟩ := ev_at hc; rw [(st_n hk0 (by rw [← ev_k hc]; exact fun q => h4 q.2.2)).1]; rfl)⟩
      · first | cases hc31 | exact absurd hc31 (by decide) | (exfalso; simp_all; done)
theorem matSet (h : Hist) (la : Lim 4611686018427387904 h) (n : Int) : ACall Tryz.prog 61 [.agg (histC h), iv n] (.glob 1 112 limitsC :: .glob 2 234 firstC :: .glob 3 237 acceptC :: .glob 0 102 asksC :: []) (fun r h' => h' = .glob 1 112 limitsC :: .glob 2 234 firstC :: .glob 3 237 acceptC :: .glob 0 102 asksC :: [] ∧ r = .tup [seensA (setL h n), iv (sightE h n)]) :=
  (matSetR h la n).ventR (by rintro _ _ ⟨s, rfl, rfl⟩; exact ⟨_, _, vent_freeze_tup [] [_], rfl, rfl⟩)
end Go.Proofs
/- The walks of the index's Rank, Next. Conditions: none. -/
set_option linter.unusedVariables false
set_option linter.unusedSimpArgs false
set_option maxRecDepth 10000
namespace Go.Proofs
open Go Go.Ab
attribute [local irreducible] QR QV OE aops aw dsoup dsoupM dalloc dallocM thn inBlk jsoup jch lsoup
open Go.H
end Go.Proofs
/- The walk of history.own. Conditions: none. -/
set_option linter.unusedVariables false
set_option linter.unusedSimpArgs false
set_option maxRecDepth 10000
namespace Go.Proofs
open Go Go.Ab
attribute [local irreducible] QR QV OE aops aw dsoup dsoupM dalloc dallocM thn inBlk
open Go.H
end Go.Proofs
/- The walk of law 16's own. Conditions: none. -/
set_option linter.unusedVariables false
set_option linter.unusedSimpArgs false
set_option maxRecDepth 10000
namespace Go.Proofs
open Go Go.Ab
attribute [local irreducible] QR QV OE aops aw dsoup dsoupM dalloc dallocM thn inBlk jsoup jch lsoup
open Go.H
end Go.Proofs
/- The walk of law 16's wakes. Conditions: none. -/
set_option linter.unusedVariables false
set_option linter.unusedSimpArgs false
set_option maxRecDepth 10000
namespace Go.Proofs
open Go Go.Ab
attribute [local irreducible] QR QV OE aops aw dsoup dsoupM dalloc dallocM thn inBlk jsoup jch lsoup
open Go.H
theorem eqA (l : List Int) (hl : l.length ≤ 4611686018427387904) : ACall Tryz.prog 25 [.list false 1 (l.map intR), .list true 1 (l.map intR)] [] (fun r h' => h' = [] ∧ r = bv true) := (equalInt l l hl hl).mono fun _ _ q => ⟨q.1, by rw [q.2, eqF_eq intEq_eq]; simp⟩
end Go.Proofs
/- The walk of IndexSees. Conditions: none. -/
set_option linter.unusedVariables false
set_option linter.unusedSimpArgs false
set_option maxRecDepth 10000
namespace Go.Proofs
open Go Go.Ab
attribute [local irreducible] QR QV OE aops aw dsoup dsoupM dalloc dallocM thn inBlk jsoup jch lsoup
open Go.H
end Go.Proofs
/- The walks of law 17's small, wakes. Conditions: none. -/
set_option linter.unusedVariables false
set_option linter.unusedSimpArgs false
set_option maxRecDepth 10000
namespace Go.Proofs
open Go Go.Ab
attribute [local irreducible] QR QV OE aops aw dsoup dsoupM dalloc dallocM thn inBlk jsoup jch lsoup
open Go.H
theorem mxE_y {k : Nat} (h : k = 2) : mxE (k + 1) = mxE k ++ [mxB k] ++ [mxS k] ++ [mxW k, mxC k] := by rw [mxE, if_pos h]; simp
theorem mxE_n {k : Nat} (h : k ≠ 2) : mxE (k + 1) = mxE k ++ [mxB k] ++ [mxW k, mxC k] := by rw [mxE, if_neg h]; simp
theorem mxE_len : ∀ k, (mxE k).length ≤ 4 * k
  | 0 => by simp [mxE]
  | k + 1 => by
    have := mxE_len k
    by_cases h : k = 2
    · rw [mxE_y h]; simp; omega
    · rw [mxE_n h]; simp; omega
theorem limM : Lim 4611686018427387904 mxH := ⟨by decide, by decide, by decide, by decide, by decide, by decide, by decide, by decide, by decide, by decide, by decide⟩
theorem mxS7 : setL mxH 7 = [⟨0, ⟨0, 1⟩⟩] ∧ sightE mxH 7 = 0 := by
  obtain ⟨a, b⟩ := st_x (h := mxH) (a := 7) (by decide) mx_check (by decide)
  exact ⟨b.trans mx_set, a⟩
set_option maxHeartbeats 4000000 in
theorem smallM  : ACall Tryz.prog 110 [] [] (fun r h' => h' = [] ∧ r = .agg (histC mxH)) := by
  refine acall_of_aw Tryz.func110 rfl rfl rfl ?_
  refine rn ?_
  refine aops_e rfl (oe_alloc rfl fun b0 => ?_)
  refine rn ?_
  refine qv rfl rfl (qv_buildSlice rfl rfl) ?_
  refine qv rfl rfl (qv_buildSlice rfl rfl) ?_
  refine qv rfl rfl (qv_buildSlice rfl rfl) ?_
  refine qv rfl rfl (qv_buildSlice rfl rfl) ?_
  refine rn ?_
  refine aops_e rfl (oe_alloc rfl fun b1 => ?_)
  refine rn ?_
  refine aw_rng1 3 (fun k s => ⟨[(8, iv k), (0, .v (.pointer (some ⟨b0, 0, none⟩))), (1, .v (.pointer (some ⟨b1, 0, none⟩)))], .row s.v 9 72 ((mxE k).map evR) :: .box b1 28 [.list true 1 ([bt1, bt2, bt3].map strR), .list true 1 ([bS].map strR), .list true 1 ([bX].map strR), .list true 1 ([bP].map strR), .v s.v, .v (.slice none 0 0), .v (.slice none 0 0), .v (.slice none 0 0)] :: .box b0 28 histZ :: [], []⟩) ⟨none, 0, 0⟩ (ent_trans (ent_nilrow 9 72) es) ?_
  intro k s lk
  refine rn ?_
  refine aw_cond rfl (fun hc9 => ?_) (fun hc9 => ?_)
  · have hk : k < 3 := by have q := of_decide_eq_true hc9; omega
    refine aw_skip ?_
    refine thn_n ?_
    refine aw_seq ?_
    refine aw_block ?_
    refine aw_seq (aw_region ?_)
    refine q1 ?_
    refine q1 ?_
    refine aops_nil (thn_n ?_)
    refine aw_seq (aw_region ?_)
    refine q1 ?_
    refine q1 ?_
    refine q1 ?_
    refine qq rfl rfl (qr_weak (fun w O v hr => Sb.rel (Sb.aggs (bs := evR (mxB k)) (by exact ⟨.refl _, .refl _, .refl _, .refl _, .refl _, .refl _, .refl _, .refl _, .nil _ _, trivial⟩)) hr) (qr_build (out := [iv 1, iv k, iv 0, iv 4, iv 0, iv 0, iv 0, iv 0, .v (.slice none 0 0)]) rfl (by rfl))) ?_
    refine qv rfl rfl (qv_buildSlice rfl rfl) ?_
    refine aops_e rfl (oe_append_row rfl rfl (by simp only [List.length_map, List.length_append, List.length_cons, List.length_nil]; have := mxE_len k; omega) rfl (fun s16 => ?_) (one_ev [mxB k]))
    refine aops_slice s16 fun s16v hs16 => ?_
    subst hs16
    refine rn ?_
    refine aw_cond rfl (fun hc19 => ?_) (fun hc19 => ?_)
    · have k2 : k = 2 := by have := eq_of_beq hc19; omega
      refine aw_region ?_
      refine q1 ?_
      refine q1 ?_
      refine q1 ?_
      refine qq rfl rfl (qr_build (out := [iv 0, iv 1]) rfl (by rfl)) ?_
      refine qq rfl rfl (qr_build (out := [iv 0, iv 0, iv 1]) rfl (by rfl)) ?_
      refine qv rfl rfl (qv_buildSlice rfl rfl) ?_
      refine qq rfl rfl (qr_weak (fun w O v hr => Sb.rel (Sb.aggs (bs := evR (mxS k)) (by exact ⟨.refl _, .refl _, .refl _, .refl _, .refl _, .refl _, .refl _, .refl _, .unfull, trivial⟩)) hr) (qr_build (out := [iv 4, iv k, iv 0, iv 0, iv 0, iv 0, iv 0, iv 0, .list true 3 [[iv 0, iv 0, iv 1]]]) rfl (by rfl))) ?_
      refine qv rfl rfl (qv_buildSlice rfl rfl) ?_
      refine aops_e rfl (oe_append_row rfl rfl (by simp only [List.length_map, List.length_append, List.length_cons, List.length_nil]; have := mxE_len k; omega) rfl (fun s28 => ?_) (one_ev [mxS k]))
      refine aops_slice s28 fun s28v hs28 => ?_
      subst hs28
      refine q1 ?_
      first | refine aops_e rfl (oe_store_all rfl rfl rfl ?_) | refine aops_e rfl (oe_store rfl rfl rfl rfl (Nat.le_of_ble_eq_true rfl) ?_)
      refine aops_nil (thn_n ?_)
      refine aw_region ?_
      refine q1 ?_
      refine q1 ?_
      refine q1 ?_
      refine q1 ?_
      refine qq rfl rfl (qr_build (out := [iv k, iv 1]) rfl (by rfl)) ?_
      refine qq rfl rfl (qr_weak (fun w O v hr => Sb.rel (Sb.aggs (bs := evR (mxW k)) (by exact ⟨.refl _, .refl _, .refl _, .refl _, .refl _, .refl _, .refl _, .refl _, .nil _ _, trivial⟩)) hr) (qr_build (out := [iv 2, iv k, iv 0, iv 0, iv 0, iv k, iv 1, iv 0, .v (.slice none 0 0)]) rfl (by rfl))) ?_
      refine q1 ?_
      refine qq rfl rfl (qr_weak (fun w O v hr => Sb.rel (Sb.aggs (bs := evR (mxC k)) (by exact ⟨.refl _, .refl _, .refl _, .refl _, .refl _, .refl _, .refl _, .refl _, .nil _ _, trivial⟩)) hr) (qr_build (out := [iv 5, iv k, iv 0, iv 0, iv 0, iv 0, iv 0, iv 0, .v (.slice none 0 0)]) rfl (by rfl))) ?_
      refine qv rfl rfl (qv_buildSlice rfl rfl) ?_
      refine aops_e rfl (oe_append_row rfl rfl (by simp only [List.length_map, List.length_append, List.length_cons, List.length_nil]; have := mxE_len k; omega) rfl (fun s39 => ?_) (one_ev [mxW k, mxC k]))
      refine aops_slice s39 fun s39v hs39 => ?_
      subst hs39
      refine rn ?_
      first | exact ⟨hk, _, by rw [mxE_y k2, List.map_append, List.map_append, List.map_append]; exact eA⟩ | exact ⟨hk, _, by rw [mxE_n k2, List.map_append, List.map_append]; exact eA⟩
    · have k2 : k ≠ 2 := by have := beq_eq_false_iff_ne.1 hc19; omega
      refine aw_skip ?_
      refine thn_n ?_
      refine aw_region ?_
      refine q1 ?_
      refine q1 ?_
      refine q1 ?_
      refine q1 ?_
      refine qq rfl rfl (qr_build (out := [iv k, iv 1]) rfl (by rfl)) ?_
      refine qq rfl rfl (qr_weak (fun w O v hr => Sb.rel (Sb.aggs (bs := evR (mxW k)) (by exact ⟨.refl _, .refl _, .refl _, .refl _, .refl _, .refl _, .refl _, .refl _, .nil _ _, trivial⟩)) hr) (qr_build (out := [iv 2, iv k, iv 0, iv 0, iv 0, iv k, iv 1, iv 0, .v (.slice none 0 0)]) rfl (by rfl))) ?_
      refine q1 ?_
      refine qq rfl rfl (qr_weak (fun w O v hr => Sb.rel (Sb.aggs (bs := evR (mxC k)) (by exact ⟨.refl _, .refl _, .refl _, .refl _, .refl _, .refl _, .refl _, .refl _, .nil _ _, trivial⟩)) hr) (qr_build (out := [iv 5, iv k, iv 0, iv 0, iv 0, iv 0, iv 0, iv 0, .v (.slice none 0 0)]) rfl (by rfl))) ?_
      refine qv rfl rfl (qv_buildSlice rfl rfl) ?_
      refine aops_e rfl (oe_append_row rfl rfl (by simp only [List.length_map, List.length_append, List.length_cons, List.length_nil]; have := mxE_len k; omega) rfl (fun s39 => ?_) (one_ev [mxW k, mxC k]))
      refine aops_slice s39 fun s39v hs39 => ?_
      subst hs39
      refine rn ?_
      first | exact ⟨hk, _, by rw [mxE_y k2, List.map_append, List.map_append, List.map_append]; exact eA⟩ | exact ⟨hk, _, by rw [mxE_n k2, List.map_append, List.map_append]; exact eA⟩
  · have qk : k = 3 := by have q := of_decide_eq_false hc9; omega
    subst qk
    refine aw_exit ?_
    refine rn0 ?_
    refine aw_seq ?_
    refine aw_ent (s' := ⟨[(0, .v (.pointer (some ⟨b0, 0, none⟩))), (1, .v (.pointer (some ⟨b1, 0, none⟩)))], .box b1 28 [.list true 1 ([bt1, bt2, bt3].map strR), .list true 1 ([bS].map strR), .list true 1 ([bX].map strR), .list true 1 ([bP].map strR), .list false 9 ((mxE 3).map evR), .v (.slice none 0 0), .v (.slice none 0 0), .v (.slice none 0 0)] :: .box b0 28 histZ :: [], []⟩) (ent_freezeB [.list true 1 ([bt1, bt2, bt3].map strR), .list true 1 ([bS].map strR), .list true 1 ([bX].map strR), .list true 1 ([bP].map strR)] [.v (.slice none 0 0), .v (.slice none 0 0), .v (.slice none 0 0)]) ?_
    refine rn ?_
    refine qv rfl rfl (qv_buildSlice rfl rfl) ?_
    refine qq rfl rfl (qr_build (out := [iv 0, .list true 1 ([0, 1, 2].map intR)]) rfl (by rfl)) ?_
    refine qv rfl rfl (qv_buildSlice rfl rfl) ?_
    refine rn ?_
    refine qv rfl rfl (qv_buildSlice rfl rfl) ?_
    refine qq rfl rfl (qr_build (out := [iv 0, iv 0, bv true, .list true 1 ([0, 2].map intR)]) rfl (by rfl)) ?_
    refine qv rfl rfl (qv_buildSlice rfl rfl) ?_
    refine rn ?_
    exact retq (.cons _ _ _ _ (.agg _ _ _ _ _ _ _ rfl inferInstance inferInstance inferInstance rfl) .nil) (.trans (.drop [_, _] _ _) (.le (Sb.aggs (bs := histC mxH) (by exact ⟨.unfull, .unfull, .unfull, .unfull, .refl _, .lists (by simp) ⟨⟨.refl _, .unfull, trivial⟩, trivial⟩, .lists (by simp) ⟨⟨.refl _, .refl _, .refl _, .unfull, trivial⟩, trivial⟩, .nil _ _, trivial⟩)).le)) ⟨rfl, rfl⟩
theorem mxA1 : ACall Tryz.prog 55 [.agg (histC mxH), iv 0, iv 0] (.glob 1 112 limitsC :: .glob 2 234 firstC :: .glob 3 237 acceptC :: .glob 0 102 asksC :: []) (fun r h' => h' = .glob 1 112 limitsC :: .glob 2 234 firstC :: .glob 3 237 acceptC :: .glob 0 102 asksC :: [] ∧ r = .tup [intsA [2, 3], iv 0]) := (matChg mxH limM 0 0).mono fun _ _ q => ⟨q.1, by rw [q.2, mx_ch, mx_tab]⟩
theorem mxA2 : ACall Tryz.prog 54 [.agg (histC mxH), iv 0, iv 0, iv 1] (.glob 1 112 limitsC :: .glob 2 234 firstC :: .glob 3 237 acceptC :: .glob 0 102 asksC :: []) (fun r h' => h' = .glob 1 112 limitsC :: .glob 2 234 firstC :: .glob 3 237 acceptC :: .glob 0 102 asksC :: [] ∧ r = .tup [bv true, iv 0]) := (matMatches mxH limM 0 0 1).mono fun _ _ q => ⟨q.1, by rw [q.2, mx_m1.1, mx_m1.2]⟩
theorem mxA3 : ACall Tryz.prog 54 [.agg (histC mxH), iv 0, iv 0, iv 4] (.glob 1 112 limitsC :: .glob 2 234 firstC :: .glob 3 237 acceptC :: .glob 0 102 asksC :: []) (fun r h' => h' = .glob 1 112 limitsC :: .glob 2 234 firstC :: .glob 3 237 acceptC :: .glob 0 102 asksC :: [] ∧ r = .tup [bv false, iv 2]) := (matMatches mxH limM 0 0 4).mono fun _ _ q => ⟨q.1, by rw [q.2, mx_m4.1, mx_m4.2]⟩
theorem mxA4 : ACall Tryz.prog 61 [.agg (histC mxH), iv 7] (.glob 1 112 limitsC :: .glob 2 234 firstC :: .glob 3 237 acceptC :: .glob 0 102 asksC :: []) (fun r h' => h' = .glob 1 112 limitsC :: .glob 2 234 firstC :: .glob 3 237 acceptC :: .glob 0 102 asksC :: [] ∧ r = .tup [seensA [⟨0, ⟨0, 1⟩⟩], iv 0]) := (matSet mxH limM 7).mono fun _ _ q => ⟨q.1, by rw [q.2, mxS7.1, mxS7.2]⟩
theorem eqSA (l : List Seen) (hl : l.length ≤ 4611686018427387904) : ACall Tryz.prog 47 [.list false 3 (l.map seenR), .list true 3 (l.map seenR)] [] (fun r h' => h' = [] ∧ r = bv true) := (equalSeen l l hl hl).mono fun _ _ q => ⟨q.1, by rw [q.2, eqF_eq seenEq_eq]; simp⟩
theorem wakes17  : ACall Tryz.prog 51 [] (.glob 1 112 limitsC :: .glob 2 234 firstC :: .glob 3 237 acceptC :: .glob 0 102 asksC :: []) (fun r h' => h' = .glob 1 112 limitsC :: .glob 2 234 firstC :: .glob 3 237 acceptC :: .glob 0 102 asksC :: [] ∧ r = bv true) := by
  refine acall_of_aw Tryz.func51 rfl rfl rfl ?_
  refine rn ?_
  refine qv rfl rfl (qv_call rfl rfl (pcall smallM (Sbs.refl _))) ?_
  refine qv rfl rfl (qv_call rfl rfl (FCall.of_fun mxA1)) ?_
  refine rn ?_
  refine qv rfl rfl (qv_call rfl rfl (pcall smallM (Sbs.refl _))) ?_
  refine qv rfl rfl (qv_call rfl rfl (FCall.of_fun mxA2)) ?_
  refine rn ?_
  refine qv rfl rfl (qv_call rfl rfl (pcall smallM (Sbs.refl _))) ?_
  refine qv rfl rfl (qv_call rfl rfl (FCall.of_fun mxA4)) ?_
  refine rn ?_
  refine qv rfl rfl (qv_call rfl rfl (pcall smallM (Sbs.refl _))) ?_
  refine qv rfl rfl (qv_call rfl rfl (FCall.of_fun mxA3)) ?_
  refine rn ?_
  refine qv rfl rfl (qv_buildSlice rfl rfl) ?_
  refine qv rfl rfl (qv_call rfl rfl (pcall (eqA [2, 3] (by decide)) (Sbs.refl _))) ?_
  refine q1 ?_
  refine q1 ?_
  refine q1 ?_
  refine qq rfl rfl (qr_build (out := [iv 0, iv 1]) rfl (by rfl)) ?_
  refine qq rfl rfl (qr_build (out := [iv 0, iv 0, iv 1]) rfl (by rfl)) ?_
  refine qv rfl rfl (qv_buildSlice rfl rfl) ?_
  refine qv rfl rfl (qv_call rfl rfl (pcall (eqSA [⟨0, ⟨0, 1⟩⟩] (by decide)) (Sbs.refl _))) ?_
  refine rn ?_
  refine rq 0 ?_
  exact ⟨rfl, rfl⟩
end Go.Proofs
/- The walks of law 17's cut and few. Conditions: none. -/
set_option linter.unusedVariables false
set_option linter.unusedSimpArgs false
set_option maxRecDepth 10000
namespace Go.Proofs
open Go Go.Ab
attribute [local irreducible] QR QV OE aops aw dsoup dsoupM dalloc dallocM thn inBlk jsoup jch lsoup
open Go.H
theorem cut17 {full : Bool} (l : List ByteArray) (most : Nat) (hm : most ≤ 1000) : ACall Tryz.prog 111 [.list full 1 (l.map strR), iv most] [] (fun r h' => h' = [] ∧ r = strsA (cutL most l)) := by
  refine acall_of_aw Tryz.func111 rfl rfl rfl ?_
  refine aw_seq (aw_region ?_)
  refine q1 ?_
  refine aops_nil (thn_n ?_)
  refine aw_seq (aw_region ?_)
  refine q1 ?_
  refine q1 ?_
  refine q1 ?_
  refine q1 ?_
  refine qq rfl rfl (qr_minN (l.map strR).length most rfl rfl) ?_
  refine qq rfl rfl (qr_slice_hE (rows' := (l.take most).map strR) rfl rfl (by omega) (by rw [List.length_map]; exact take_min strR l most)) ?_
  refine aops_e rfl (oe_call rfl rfl (FCall.rowS (FCall.of_fun (cloneRowStr _ (by simp; omega) (one_str _)))) rfl ?_)
  rintro _ _ ⟨s, rfl, rfl⟩
  refine rn ?_
  refine aw_loop' (fun k : Nat => k ≤ (l.take most).length) (fun k => ⟨[(17, iv k), (16, iv ((l.take most).map strR).length), (15, .v s.v), (5, .v s.v)], [.row s.v 1 9 ((((l.take most).take k).map cutS).map strR ++ ((l.take most).drop k).map strR)], []⟩) (fun k => (l.take most).length - k) 0 (by omega)
    (by simp only [List.take_zero, List.map_nil, List.nil_append, List.drop_zero]; exact (ent_sub (.cons _ _ _ rfl (.cons _ _ _ rfl (.cons _ _ _ rfl (.cons _ _ _ rfl (.nil))))))) ?_
  intro k hk
  refine rn ?_
  refine aw_cond rfl (fun hc18 => ?_) (fun hc18 => ?_)
  · have hk2 : k < (l.take most).length := by simpa using hc18
    obtain ⟨b, hb⟩ : ∃ b, b = (l.take most)[k] := ⟨_, rfl⟩
    have hd := List.drop_eq_getElem_cons hk2
    rw [← hb] at hd
    have hL := List.length_take_le most l
    have hkl : (((l.take most).take k).map cutS).length = k := by rw [List.length_map, List.length_take]; omega
    have hrow := mid_get (f := strR) (g := strR) (xs := ((l.take most).take k).map cutS) (k := k) hkl hd
    have hk3 : k < ((((l.take most).take k).map cutS).map strR ++ ((l.take most).drop k).map strR).length := by rw [mid_len hkl hk]; exact hk2
    refine aw_skip ?_
    refine thn_n ?_
    refine aw_seq ?_
    refine aw_block ?_
    refine aw_seq (aw_region ?_)
    refine q1 ?_
    refine q1 ?_
    refine qq rfl rfl (qr_load_rp_one rfl hrow rfl) ?_
    refine q1 ?_
    refine q1 ?_
    refine aops_nil (thn_n ?_)
    refine aw_region ?_
    refine q1 ?_
    refine q1 ?_
    refine q1 ?_
    refine q1 ?_
    refine q1 ?_
    refine qq rfl rfl (qr_minN b.size 40 rfl rfl) ?_
    refine qq rfl rfl (qr_slice_string_h rfl rfl (by omega)) ?_
    refine rn ?_
    refine aops_e rfl (oe_store_rp rfl rfl rfl hrow rfl (Nat.le_of_ble_eq_true rfl) ?_)
    refine rn ?_
    have hset := mid_set (f := strR) (g := strR) (l := (l.take most)) (xs := ((l.take most).take k).map cutS) (a := cutS b) (r := (strR b).take 0 ++ [sv (cutS b)] ++ (strR b).drop (0 + 1)) hkl hd rfl
    have hx : ((l.take most).take k).map cutS ++ [cutS b] = ((l.take most).take (k + 1)).map cutS := by rw [List.take_succ_eq_append_getElem hk2, hb]; simp
    rw [hx] at hset
    exact ⟨k + 1, by omega, (by rw [← hset]; exact (ent_sub (.cons _ _ _ rfl (.cons _ _ _ rfl (.cons _ _ _ rfl (.cons _ _ _ rfl (.nil))))))), by omega⟩
  · obtain rfl : k = (l.take most).length := by
      have : ¬ k < (l.take most).length := by simpa using hc18
      omega
    rw [List.take_length, List.drop_length, List.map_nil, List.append_nil]
    refine rn ?_
    exact retq (.cons _ _ _ _ (.tmp _ _ rfl) .nil) vent_freeze ⟨rfl, rfl⟩
set_option maxHeartbeats 4000000 in
theorem few17 (h : Hist) (la : Lim 4611686018427387904 h) : ACall Tryz.prog 52 [.agg (histC h)] [] (fun r h' => h' = [] ∧ r = .agg (histC (fewA h))) := by
  refine acall_of_aw Tryz.func52 rfl rfl rfl ?_
  refine rn ?_
  refine aops_e rfl (oe_box rfl rfl rfl fun b1 => ?_)
  refine aops_e rfl (oe_alloc rfl fun b2 => ?_)
  refine rn0 ?_
  refine aw_cutE (fun _ : Nat => True) (fun b3 => ⟨[(1, .v (.pointer (some ⟨b1, 0, none⟩))), (2, .v (.pointer (some ⟨b2, 0, none⟩))), (3, .v (.pointer (some ⟨b3, 0, none⟩)))], [.box b3 28 [strsA (cutL 12 h.ts), strsA (cutL 8 h.ss), strsA (cutL 10 h.os), strsA (cutL 6 h.ps), nilA, nilA, nilA, nilA], .box b2 28 histZ, .box b1 28 (histC h)], []⟩) ?_ ?_
  · refine aw_draw 14 rfl ?_
    refine rn ?_
    refine dv rfl rfl (by exact qv_call rfl rfl (pcall (cut17 h.ts 12 (by decide)) (Sbs.refl _))) ?_
    refine rn ?_
    refine dv rfl rfl (by exact qv_call rfl rfl (pcall (cut17 h.ss 8 (by decide)) (Sbs.refl _))) ?_
    refine rn ?_
    refine dv rfl rfl (by exact qv_call rfl rfl (pcall (cut17 h.os 10 (by decide)) (Sbs.refl _))) ?_
    refine rn ?_
    refine dv rfl rfl (by exact qv_call rfl rfl (pcall (cut17 h.ps 6 (by decide)) (Sbs.refl _))) ?_
    refine rn ?_
    refine dalloc_a rfl fun b3 => ?_
    refine rn ?_
    exact ⟨b3, trivial, (ent_sub (.cons _ _ _ rfl (.cons _ _ _ rfl (.cons _ _ _ rfl (.nil)))))⟩
  · intro b3 _
    refine rn ?_
    refine aw_loop' (fun x : Nat × SV => x.1 ≤ h.evs.length) (fun x => ⟨[(26, iv x.1), (25, iv (h.evs.map evR).length), (24, evsA h.evs), (1, .v (.pointer (some ⟨b1, 0, none⟩))), (2, .v (.pointer (some ⟨b2, 0, none⟩))), (3, .v (.pointer (some ⟨b3, 0, none⟩)))], [.row x.2.v 9 72 (((h.evs.take (min x.1 70)).map cutE2).map evR), .box b3 28 [strsA (cutL 12 h.ts), strsA (cutL 8 h.ss), strsA (cutL 10 h.os), strsA (cutL 6 h.ps), .v x.2.v, nilA, nilA, nilA], .box b2 28 histZ, .box b1 28 (histC h)], []⟩) (fun x => h.evs.length - x.1) (0, nilS) (by simp)
      (ent_trans (ent_nilrow 9 72) (ent_sub (.cons _ _ _ rfl (.cons _ _ _ rfl (.cons _ _ _ rfl (.cons _ _ _ rfl (.cons _ _ _ rfl (.cons _ _ _ rfl (.nil))))))))) ?_
    rintro ⟨k, s⟩ hk
    simp only at hk
    refine rn ?_
    refine aw_cond rfl (fun hc27 => ?_) (fun hc27 => ?_)
    · have hk2 : k < h.evs.length := by simpa using hc27
      obtain ⟨e, he⟩ : ∃ e, e = h.evs[k] := ⟨_, rfl⟩
      have hrow : (h.evs.map evR)[k]? = some (evR e) := by rw [he]; simp [hk2]
      have hle := la.evs
      refine rn ?_
      refine aops_e rfl (oe_alloc rfl fun b5 => ?_)
      refine rn ?_
      refine aw_cond rfl (fun hc32 => ?_) (fun hc32 => ?_)
      · have hlt : k < 70 := by have := hc32; simp at this; omega
        refine aw_seq (aw_region ?_)
        refine q1 ?_
        refine q1 ?_
        refine q1 ?_
        refine q1 ?_
        refine q1 ?_
        refine qq rfl rfl (qr_minN (e.scan.map seenR).length 12 rfl rfl) ?_
        refine qq rfl rfl (qr_slice_hE (rows' := (e.scan.take 12).map seenR) rfl rfl (by omega) (by rw [List.length_map]; exact take_min seenR e.scan 12)) ?_
        refine qv rfl rfl (qv_call rfl rfl (pcall (cloneSeen ((e.scan.take 12).map seenR) (by simp; omega)) (Sbs.refl _))) ?_
        refine rn ?_
        refine qv rfl rfl (qv_buildSlice rfl rfl) ?_
        refine aops_e rfl (oe_append_row rfl rfl (by have := tk_len h.evs k 70; simp at this ⊢; omega) rfl (fun s46 => ?_) (fun r hr => by simp at hr; subst hr; rfl))
        refine aops_slice s46 fun sv hsv => ?_
        subst hsv
        refine rn ?_
        have hx : ((h.evs.take (min (k + 1) 70)).map cutE2).map evR = ((h.evs.take (min k 70)).map cutE2).map evR ++ [evR (cutE2 e)] := by rw [tk_go hk2 hlt he]; simp
        exact ⟨(k + 1, sv), by simp only; omega, (by rw [hx]; exact (ent_trans (ent_drop (h1 := [_])) (ent_sub (.cons _ _ _ rfl (.cons _ _ _ rfl (.cons _ _ _ rfl (.cons _ _ _ rfl (.cons _ _ _ rfl (.cons _ _ _ rfl (.nil)))))))))), by simp only; omega⟩
      · have hlt : ¬ k < 70 := by have := hc32; simp at this; omega
        refine rn ?_
        exact ⟨(k + 1, s), by simp only; omega, (by rw [tk_no hlt]; exact (ent_trans (ent_drop (h1 := [_])) (ent_sub (.cons _ _ _ rfl (.cons _ _ _ rfl (.cons _ _ _ rfl (.cons _ _ _ rfl (.cons _ _ _ rfl (.cons _ _ _ rfl (.nil)))))))))), by simp only; omega⟩
    · obtain rfl : k = h.evs.length := by
        have : ¬ k < h.evs.length := by simpa using hc27
        omega
      obtain ⟨sE, hsE⟩ : ∃ sE : SV, sE = s := ⟨_, rfl⟩
      simp only [tk_end, ← hsE]
      refine rn ?_
      refine aw_loop' (fun x : Nat × SV => x.1 ≤ h.ords.length) (fun x => ⟨[(52, iv x.1), (51, iv (h.ords.map ordR).length), (50, ordsA h.ords), (1, .v (.pointer (some ⟨b1, 0, none⟩))), (2, .v (.pointer (some ⟨b2, 0, none⟩))), (3, .v (.pointer (some ⟨b3, 0, none⟩)))], [.row x.2.v 2 96 (((h.ords.take (min x.1 14)).map cutO2).map ordR), .row sE.v 9 72 (((h.evs.take 70).map cutE2).map evR), .box b3 28 [strsA (cutL 12 h.ts), strsA (cutL 8 h.ss), strsA (cutL 10 h.os), strsA (cutL 6 h.ps), .v sE.v, .v x.2.v, nilA, nilA], .box b2 28 histZ, .box b1 28 (histC h)], []⟩) (fun x => h.ords.length - x.1) (0, nilS) (by simp)
        (ent_trans (ent_nilrow 2 96) (ent_sub (.cons _ _ _ rfl (.cons _ _ _ rfl (.cons _ _ _ rfl (.cons _ _ _ rfl (.cons _ _ _ rfl (.cons _ _ _ rfl (.nil))))))))) ?_
      rintro ⟨k, s⟩ hk
      simp only at hk
      refine rn ?_
      refine aw_cond rfl (fun hc53 => ?_) (fun hc53 => ?_)
      · have hk2 : k < h.ords.length := by simpa using hc53
        obtain ⟨e, he⟩ : ∃ e, e = h.ords[k] := ⟨_, rfl⟩
        have hrow : (h.ords.map ordR)[k]? = some (ordR e) := by rw [he]; simp [hk2]
        have hle := la.ords
        refine rn ?_
        refine aops_e rfl (oe_alloc rfl fun b7 => ?_)
        refine rn ?_
        refine aw_cond rfl (fun hc58 => ?_) (fun hc58 => ?_)
        · have hlt : k < 14 := by have := hc58; simp at this; omega
          refine aw_draw 14 rfl ?_
          refine dq rfl rfl qrA ?_
          refine dq rfl rfl qrA ?_
          refine dq rfl rfl qrA ?_
          refine dq rfl rfl qrA ?_
          refine dq rfl rfl qrA ?_
          refine dq rfl rfl qrA ?_
          refine dq rfl rfl qrA ?_
          refine dq rfl rfl qrA ?_
          refine dq rfl rfl qrA ?_
          refine dq rfl rfl (qr_minN (e.ts.map intR).length 14 rfl rfl) ?_
          refine dq rfl rfl (qr_slice_hE (rows' := (e.ts.take 14).map intR) rfl rfl (by omega) (by rw [List.length_map]; exact take_min intR e.ts 14)) ?_
          refine dv rfl rfl (by exact qv_call rfl rfl (pcall (cloneInt ((e.ts.take 14).map intR) (by simp; omega)) (Sbs.refl _))) ?_
          refine rn ?_
          refine dv rfl rfl (qv_buildSlice rfl rfl) ?_
          refine rn ?_
          refine aops_e rfl (oe_append_row rfl rfl (by have := tk_len h.ords k 14; simp at this ⊢; omega) rfl (fun s73 => ?_) (fun r hr => by simp at hr; subst hr; rfl))
          refine aops_slice s73 fun sv hsv => ?_
          subst hsv
          refine rn ?_
          have hx : ((h.ords.take (min (k + 1) 14)).map cutO2).map ordR = ((h.ords.take (min k 14)).map cutO2).map ordR ++ [ordR (cutO2 e)] := by rw [tk_go hk2 hlt he]; simp
          exact ⟨(k + 1, sv), by simp only; omega, (by rw [hx]; exact (ent_trans (ent_drop (h1 := [_])) (ent_sub (.cons _ _ _ rfl (.cons _ _ _ rfl (.cons _ _ _ rfl (.cons _ _ _ rfl (.cons _ _ _ rfl (.cons _ _ _ rfl (.nil)))))))))), by simp only; omega⟩
        · have hlt : ¬ k < 14 := by have := hc58; simp at this; omega
          refine rn ?_
          exact ⟨(k + 1, s), by simp only; omega, (by rw [tk_no hlt]; exact (ent_trans (ent_drop (h1 := [_])) (ent_sub (.cons _ _ _ rfl (.cons _ _ _ rfl (.cons _ _ _ rfl (.cons _ _ _ rfl (.cons _ _ _ rfl (.cons _ _ _ rfl (.nil)))))))))), by simp only; omega⟩
      · obtain rfl : k = h.ords.length := by
          have : ¬ k < h.ords.length := by simpa using hc53
          omega
        obtain ⟨sO, hsO⟩ : ∃ sO : SV, sO = s := ⟨_, rfl⟩
        simp only [tk_end, ← hsO]
        refine rn ?_
        refine aw_loop' (fun x : Nat × SV => x.1 ≤ h.mats.length) (fun x => ⟨[(79, iv x.1), (78, iv (h.mats.map matR).length), (77, matsA h.mats), (1, .v (.pointer (some ⟨b1, 0, none⟩))), (2, .v (.pointer (some ⟨b2, 0, none⟩))), (3, .v (.pointer (some ⟨b3, 0, none⟩)))], [.row x.2.v 4 87 (((h.mats.take (min x.1 20)).map cutM2).map matR), .row sO.v 2 96 (((h.ords.take 14).map cutO2).map ordR), .row sE.v 9 72 (((h.evs.take 70).map cutE2).map evR), .box b3 28 [strsA (cutL 12 h.ts), strsA (cutL 8 h.ss), strsA (cutL 10 h.os), strsA (cutL 6 h.ps), .v sE.v, .v sO.v, .v x.2.v, nilA], .box b2 28 histZ, .box b1 28 (histC h)], []⟩) (fun x => h.mats.length - x.1) (0, nilS) (by simp)
          (ent_trans (ent_nilrow 4 87) (ent_sub (.cons _ _ _ rfl (.cons _ _ _ rfl (.cons _ _ _ rfl (.cons _ _ _ rfl (.cons _ _ _ rfl (.cons _ _ _ rfl (.nil))))))))) ?_
        rintro ⟨k, s⟩ hk
        simp only at hk
        refine rn ?_
        refine aw_cond rfl (fun hc80 => ?_) (fun hc80 => ?_)
        · have hk2 : k < h.mats.length := by simpa using hc80
          obtain ⟨e, he⟩ : ∃ e, e = h.mats[k] := ⟨_, rfl⟩
          have hrow : (h.mats.map matR)[k]? = some (matR e) := by rw [he]; simp [hk2]
          have hle := la.mats
          refine rn ?_
          refine aops_e rfl (oe_alloc rfl fun b9 => ?_)
          refine rn ?_
          refine aw_cond rfl (fun hc85 => ?_) (fun hc85 => ?_)
          · have hlt : k < 20 := by have := hc85; simp at this; omega
            refine aw_seq (aw_region ?_)
            refine q1 ?_
            refine q1 ?_
            refine q1 ?_
            refine q1 ?_
            refine q1 ?_
            refine qq rfl rfl (qr_minN (e.ts.map intR).length 14 rfl rfl) ?_
            refine qq rfl rfl (qr_slice_hE (rows' := (e.ts.take 14).map intR) rfl rfl (by omega) (by rw [List.length_map]; exact take_min intR e.ts 14)) ?_
            refine qv rfl rfl (qv_call rfl rfl (pcall (cloneInt ((e.ts.take 14).map intR) (by simp; omega)) (Sbs.refl _))) ?_
            refine rn ?_
            refine qv rfl rfl (qv_buildSlice rfl rfl) ?_
            refine aops_e rfl (oe_append_row rfl rfl (by have := tk_len h.mats k 20; simp at this ⊢; omega) rfl (fun s99 => ?_) (fun r hr => by simp at hr; subst hr; rfl))
            refine aops_slice s99 fun sv hsv => ?_
            subst hsv
            refine rn ?_
            have hx : ((h.mats.take (min (k + 1) 20)).map cutM2).map matR = ((h.mats.take (min k 20)).map cutM2).map matR ++ [matR (cutM2 e)] := by rw [tk_go hk2 hlt he]; simp
            exact ⟨(k + 1, sv), by simp only; omega, (by rw [hx]; exact (ent_trans (ent_drop (h1 := [_])) (ent_sub (.cons _ _ _ rfl (.cons _ _ _ rfl (.cons _ _ _ rfl (.cons _ _ _ rfl (.cons _ _ _ rfl (.cons _ _ _ rfl (.nil)))))))))), by simp only; omega⟩
          · have hlt : ¬ k < 20 := by have := hc85; simp at this; omega
            refine rn ?_
            exact ⟨(k + 1, s), by simp only; omega, (by rw [tk_no hlt]; exact (ent_trans (ent_drop (h1 := [_])) (ent_sub (.cons _ _ _ rfl (.cons _ _ _ rfl (.cons _ _ _ rfl (.cons _ _ _ rfl (.cons _ _ _ rfl (.cons _ _ _ rfl (.nil)))))))))), by simp only; omega⟩
        · obtain rfl : k = h.mats.length := by
            have : ¬ k < h.mats.length := by simpa using hc80
            omega
          obtain ⟨sM, hsM⟩ : ∃ sM : SV, sM = s := ⟨_, rfl⟩
          simp only [tk_end, ← hsM]
          refine aw_exit ?_
          refine thn_e ?_
          refine thn_e ?_
          refine inBlk_hit ?_
          refine thn_n ?_
          refine aw_seq (aw_region ?_)
          refine q1 ?_
          refine q1 ?_
          refine q1 ?_
          refine q1 ?_
          refine q1 ?_
          refine qq rfl rfl (qr_minN (h.wants.map wanR).length 12 rfl rfl) ?_
          refine qq rfl rfl (qr_slice_hE (rows' := (h.wants.take 12).map wanR) rfl rfl (by omega) (by rw [List.length_map]; exact take_min wanR h.wants 12)) ?_
          refine qv rfl rfl (qv_call rfl rfl (pcall (cloneWan ((h.wants.take 12).map wanR) (by simp; omega)) (Sbs.refl _))) ?_
          refine rn ?_
          exact retq (.cons _ _ _ _ (.agg _ _ _ _ _ _ _ rfl inferInstance inferInstance inferInstance rfl) .nil) (.trans (vent_freeze_cell [_, _, _, _, _, _] _) (.trans (vent_freeze_cell [_, _, _, _, _] _) (.trans (vent_freeze_cell [_, _, _, _] _) (.drop [_, _, _] _ _)))) ⟨rfl, rfl⟩
end Go.Proofs
/- Rows of three numbers, rows of versions; what law 16 asks of them. Conditions: as each lemma states. -/
set_option linter.unusedVariables false
namespace Go.H
open Go Go.Ab
end Go.H
/- The walk of MatchRanks. Conditions: none. -/
set_option linter.unusedVariables false
set_option linter.unusedSimpArgs false
set_option maxRecDepth 10000
namespace Go.Proofs
open Go Go.Ab
attribute [local irreducible] QR QV OE aops aw dsoup dsoupM dalloc dallocM thn inBlk jsoup jch lsoup
open Go.H
end Go.Proofs
/- The walk of slices.IsSorted. Conditions: none. -/
set_option linter.unusedVariables false
set_option linter.unusedSimpArgs false
set_option maxRecDepth 10000
namespace Go.Proofs
open Go Go.Ab
attribute [local irreducible] QR QV OE aops aw dsoup dsoupM dalloc dallocM thn inBlk
open Go.H
theorem cmpNaN (a : Int) : ACall Tryz.prog 158 [iv a] [] (fun r h' => h' = [] ∧ r = bv false) := by
  refine acall_of_aw Tryz.func158 rfl rfl rfl ?_
  refine rn ?_
  refine rq 0 ?_
  exact ⟨rfl, congrArg bv (by simp)⟩
theorem cmpLess (a b : Int) : ACall Tryz.prog 109 [iv a, iv b] [] (fun r h' => h' = [] ∧ r = bv (decide (a < b))) := by
  refine acall_of_aw Tryz.func109 rfl rfl rfl ?_
  refine rn ?_
  refine qv rfl rfl (qv_call rfl rfl (pcall (cmpNaN _) (Sbs.refl _))) ?_
  refine rn ?_
  refine rq 0 ?_
  exact ⟨rfl, rfl⟩
theorem isSorted {f : Bool} (l : List Int) (hp : l.Pairwise (· ≤ ·)) (hl : l.length ≤ 4611686018427387904) : ACall Tryz.prog 50 [.list f 1 (l.map intR)] [] (fun r h' => h' = [] ∧ r = bv true) := by
  refine acall_of_aw Tryz.func50 rfl rfl rfl ?_
  have hl2 : (l.map intR).length ≤ 4611686018427387904 := by simpa using hl
  refine rn ?_
  refine aw_while (fun i : Int => i < l.length) (fun i => ⟨[(3, iv i), (0, .list f 1 (l.map intR))], [], []⟩) (fun i => i.toNat) (((l.map intR).length : Int) - 1) (by simp; omega) es ?_
  intro i hi
  refine rn ?_
  refine aw_cond rfl (fun hc8 => ?_) (fun hc8 => ?_)
  · have h0 : 0 < i := by simpa using hc8
    have h1 : i.toNat < l.length := by omega
    have h2 : (i - 1).toNat < l.length := by omega
    have r1 := atRow (f := intR) h1
    have r2 := atRow (f := intR) h2
    refine rn ?_
    refine aw_draw 9 rfl ?_
    refine dq rfl rfl qrA ?_
    refine dq rfl rfl qrA ?_
    refine dq rfl rfl (qr_index_int rfl rfl (by omega) r1) ?_
    refine dq rfl rfl qrA ?_
    refine dq rfl rfl qrA ?_
    refine dq rfl rfl qrA ?_
    refine dq rfl rfl qrA ?_
    refine dq rfl rfl (qr_index_int rfl rfl (by omega) r2) ?_
    refine rn ?_
    refine qv rfl rfl (qv_call rfl rfl (pcall (cmpLess _ _) (Sbs.refl _))) ?_
    refine rn ?_
    refine aw_cond rfl (fun hc20 => ?_) (fun hc20 => ?_)
    · exact absurd (of_decide_eq_true hc20) (Int.not_lt.2 (List.pairwise_iff_getElem.1 hp _ _ h2 h1 (by omega)))
    · refine rn ?_
      exact ⟨i - 1, by omega, eA, by omega⟩
  · refine rn ?_
    refine rq 0 ?_
    exact ⟨rfl, rfl⟩
end Go.Proofs
