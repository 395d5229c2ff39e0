/- The walk of history.spoken, reading. Conditions: none. -/
import Derived.Test.YtkoaoaogmlpocaaGreatDoorDTelG
set_option linter.unusedSectionVars false
set_option linter.unusedSimpArgs false
set_option linter.unusedVariables false
set_option linter.unusedVariables false
set_option linter.unusedSimpArgs false
set_option maxRecDepth 10000
namespace Go.Proofs
open Go Go.Ab
attribute [local irreducible] QR QV OE aops aw dsoup dsoupM dalloc dallocM thn inBlk
open Go.H
theorem sayR {σ : Type} (step : σ → Nat × Int → Option σ) (ok : Nat × Int → Prop) (IJ : Option σ → List Res → Prop) (y : AV) (hy : ∀ (s : σ) (L : List Res) (sort : Nat) (n : Int) (cells : List AV), ok (sort, n) → IJ (some s) L → FCall Tryz.prog y [iv sort, .pp (iv n :: cells)] L (fun r h' => r = bv (step s (sort, n)).isSome ∧ IJ (step s (sort, n)) h')) (sort : Nat) (n : Int) (hs : ok (sort, n)) (cells : List AV) (bm by_ : Nat) (st : Option σ) (L : List Res) (hI : IJ st L) : ACall Tryz.prog 187 [iv sort, .pp (iv n :: cells), .v (.pointer (some ⟨bm, 0, none⟩)), .v (.pointer (some ⟨by_, 0, none⟩))] (.box bm 4 [bv (st).isSome] :: .box by_ 243 [y] :: L) (fun r h' => ∃ L', IJ (goes step st [(sort, n)]) L' ∧ h' = .box bm 4 [bv (goes step st [(sort, n)]).isSome] :: .box by_ 243 [y] :: L') := by
  refine acall_of_aw Tryz.func187 rfl rfl rfl ?_
  refine rn ?_
  refine asplit (fun hg0_1 => ?_) (fun hg0_1 => ?_)
  · refine rn ?_
    obtain ⟨s, rfl⟩ := Option.isSome_iff_exists.1 hg0_1
    refine aops_e rfl (oe_call rfl rfl (FCall.fr2 (hy s L sort n cells hs hI)) rfl ?_)
    rintro _ _ ⟨L2, rfl, rfl, hI2⟩
    refine rn ?_
    first
      | exact retq_n .nil (.refl _ _) ⟨L2, hI2, rfl⟩
      | (obtain rfl := Option.not_isSome_iff_eq_none.1 (show ¬ st.isSome = true by simp [hg0_1])
         exact retq_n .nil (.refl _ _) ⟨L, hI, rfl⟩)
  · refine rn ?_
    first
      | exact retq_n .nil (.refl _ _) ⟨L2, hI2, rfl⟩
      | (obtain rfl := Option.not_isSome_iff_eq_none.1 (show ¬ st.isSome = true by simp [hg0_1])
         exact retq_n .nil (.refl _ _) ⟨L, hI, rfl⟩)
theorem madeR {σ : Type} (step : σ → Nat × Int → Option σ) (ok : Nat × Int → Prop) (IJ : Option σ → List Res → Prop) (y : AV) (hy : ∀ (s : σ) (L : List Res) (sort : Nat) (n : Int) (cells : List AV), ok (sort, n) → IJ (some s) L → FCall Tryz.prog y [iv sort, .pp (iv n :: cells)] L (fun r h' => r = bv (step s (sort, n)).isSome ∧ IJ (step s (sort, n)) h')) (v : Ver) (hv : ∀ x ∈ madeL v, ok x) (cells : List AV) (bs bm by_ : Nat) (st : Option σ) (L : List Res) (hI : IJ st L) : ACall Tryz.prog 188 [.pp (iv v.t :: iv v.k :: cells), .v (.pointer (some ⟨bs, 0, none⟩))] (.box bs 244 [.fn (.func 187) [] [.v (.pointer (some ⟨bm, 0, none⟩)), .v (.pointer (some ⟨by_, 0, none⟩))]] :: .box bm 4 [bv (st).isSome] :: .box by_ 243 [y] :: L) (fun r h' => ∃ L', IJ (goes step st (madeL v)) L' ∧ h' = .box bs 244 [.fn (.func 187) [] [.v (.pointer (some ⟨bm, 0, none⟩)), .v (.pointer (some ⟨by_, 0, none⟩))]] :: .box bm 4 [bv (goes step st (madeL v)).isSome] :: .box by_ 243 [y] :: L') := by
  refine acall_of_aw Tryz.func188 rfl rfl rfl ?_
  refine rn ?_
  refine aw_cond rfl (fun hc7 => ?_) (fun hc7 => ?_)
  · refine aw_draw 4 rfl ?_
    refine rn ?_
    refine aops_e rfl (oe_call rfl rfl (FCall.fr1 (FCall.of_acall (fs := []) (cs := [.v (.pointer (some ⟨bm, 0, none⟩)), .v (.pointer (some ⟨by_, 0, none⟩))]) (sayR step ok IJ y hy 0 v.t (hv _ (by rw [madeL, if_pos hc7]; simp)) (iv v.k :: cells) bm by_ _ _ hI))) rfl ?_)
    rintro _ _ ⟨_, rfl, L2, hI2, rfl⟩
    refine rn ?_
    first
      | (have hm : madeL v = [(0, v.t)] := by rw [madeL, if_pos hc7]
         rw [hm]; exact retq_n .nil (.refl _ _) ⟨L2, hI2, rfl⟩)
      | (have hm : madeL v = [] := by rw [madeL, if_neg (by rw [hc7]; decide)]
         rw [hm]; exact retq_n .nil (.refl _ _) ⟨L, hI, rfl⟩)
  · refine rn ?_
    first
      | (have hm : madeL v = [(0, v.t)] := by rw [madeL, if_pos hc7]
         rw [hm]; exact retq_n .nil (.refl _ _) ⟨L2, hI2, rfl⟩)
      | (have hm : madeL v = [] := by rw [madeL, if_neg (by rw [hc7]; decide)]
         rw [hm]; exact retq_n .nil (.refl _ _) ⟨L, hI, rfl⟩)
theorem spokenR {σ : Type} (step : σ → Nat × Int → Option σ) (ok : Nat × Int → Prop) (IJ : Option σ → List Res → Prop) (y : AV) (hone : y.cellsOf = some [y]) (hy : ∀ (s : σ) (L : List Res) (sort : Nat) (n : Int) (cells : List AV), ok (sort, n) → IJ (some s) L → FCall Tryz.prog y [iv sort, .pp (iv n :: cells)] L (fun r h' => r = bv (step s (sort, n)).isSome ∧ IJ (step s (sort, n)) h')) (h : Hist) (la : Lim 4611686018427387904 h) (b1 bh : Nat) (hok : ∀ x ∈ spokenL h, ok x) (s0 : σ) (L0 : List Res) (h0 : IJ (some s0) L0) : ACall Tryz.prog 186 [y, .v (.pointer (some ⟨b1, 0, none⟩))] (.box b1 198 [.v (.pointer (some ⟨bh, 0, none⟩))] :: .box bh 28 (histC h) :: L0) (fun r h' => ∃ L', IJ (goes step (some s0) (spokenL h)) L' ∧ h' = .box b1 198 [.v (.pointer (some ⟨bh, 0, none⟩))] :: .box bh 28 (histC h) :: L') := by
  refine acall_of_aw Tryz.func186 rfl rfl rfl ?_
  refine rn ?_
  refine aops_e rfl (oe_box rfl hone rfl fun by_ => ?_)
  refine rn ?_
  refine aops_e rfl (oe_alloc rfl fun bm => ?_)
  refine rn ?_
  refine aops_e rfl (oe_alloc rfl fun bs => ?_)
  refine rn ?_
  refine aw_loop' (fun x : Nat × Option σ × List Res => x.1 ≤ h.evs.length ∧ IJ x.2.1 x.2.2 ∧ Rem step ok x.2.1 (((h.evs.drop x.1).flatMap evL) ++ (h.ords.flatMap ordL ++ (h.mats.flatMap matL ++ h.wants.flatMap wanL))) (goes step (some s0) (spokenL h))) (fun x => ⟨[(22, iv x.1), (21, iv (h.evs.map evR).length), (1, .v (.pointer (some ⟨b1, 0, none⟩))), (4, .v (.pointer (some ⟨bs, 0, none⟩))), (5, .fn (.func 188) [] [.v (.pointer (some ⟨bs, 0, none⟩))])], .box b1 198 [.v (.pointer (some ⟨bh, 0, none⟩))] :: .box bh 28 (histC h) :: .box bs 244 [.fn (.func 187) [] [.v (.pointer (some ⟨bm, 0, none⟩)), .v (.pointer (some ⟨by_, 0, none⟩))]] :: .box bm 4 [bv (x.2.1).isSome] :: .box by_ 243 [y] :: x.2.2, []⟩) (fun x => h.evs.length - x.1) (0, some s0, L0) ⟨by omega, h0, rfl, hok⟩
    (ent_trans (ent_perm ((pt3 _ _ _ _ _).trans (.cons _ (pt3 _ _ _ _ _)))) (ent_sub (.cons _ _ _ rfl (.cons _ _ _ rfl (.cons _ _ _ rfl (.cons _ _ _ rfl (.cons _ _ _ rfl (.nil)))))))) ?_
  rintro ⟨k, st, L⟩ ⟨hk, hI, hF⟩
  simp only at hk hI hF
  refine rn ?_
  refine aw_cond rfl (fun hc23 => ?_) (fun hc23 => ?_)
  · have k2 : k < h.evs.length := by simpa using hc23
    obtain ⟨e, he⟩ : ∃ e, e = h.evs[k] := ⟨_, rfl⟩
    have hrowe : (h.evs.map evR)[k]? = some (evR e) := by rw [he]; simp [k2]
    have hde := List.drop_eq_getElem_cons k2
    rw [hde, ← he] at hF
    simp only [List.flatMap_cons, evL, List.cons_append, List.append_assoc] at hF
    obtain ⟨hx, hF⟩ := hF.cons
    obtain ⟨hkx, hF⟩ := hF.app
    have hle := la.evs
    have hls := la.scans e (by rw [he]; simp)
    refine rn ?_
    refine aw_draw 4 rfl ?_
    refine rn ?_
    refine aops_e rfl (oe_call rfl rfl (FCall.fr3 (FCall.of_acall (fs := []) (cs := [.v (.pointer (some ⟨bm, 0, none⟩)), .v (.pointer (some ⟨by_, 0, none⟩))]) (sayR step ok IJ y hy 0 e.t hx _ bm by_ _ _ hI))) rfl ?_)
    rintro _ _ ⟨_, rfl, L, hI, rfl⟩
    refine rn0 ?_
    refine aw_cutE (fun L => IJ (goes step (goes step st [(0, e.t)]) (kindL e)) L) (fun L => ⟨[(7, .pp (evR e)), (22, iv k), (21, iv (h.evs.map evR).length), (1, .v (.pointer (some ⟨b1, 0, none⟩))), (4, .v (.pointer (some ⟨bs, 0, none⟩))), (5, .fn (.func 188) [] [.v (.pointer (some ⟨bs, 0, none⟩))])], .box b1 198 [.v (.pointer (some ⟨bh, 0, none⟩))] :: .box bh 28 (histC h) :: .box bs 244 [.fn (.func 187) [] [.v (.pointer (some ⟨bm, 0, none⟩)), .v (.pointer (some ⟨by_, 0, none⟩))]] :: .box bm 4 [bv (goes step (goes step st [(0, e.t)]) (kindL e)).isSome] :: .box by_ 243 [y] :: L, []⟩) ?_ ?_
    · refine rn ?_
      refine aw_cond rfl (fun hc40 => ?_) (fun hc40 => ?_)
      · have hkl := kindL_1 (e := e) (by simpa using hc40)
        refine aw_draw 4 rfl ?_
        refine rn ?_
        refine aops_e rfl (oe_call rfl rfl (FCall.fr3 (FCall.of_acall (fs := []) (cs := [.v (.pointer (some ⟨bm, 0, none⟩)), .v (.pointer (some ⟨by_, 0, none⟩))]) (sayR step ok IJ y hy 1 e.s (hkx _ (by rw [hkl]; simp)) _ bm by_ _ _ hI))) rfl ?_)
        rintro _ _ ⟨_, rfl, L, hI, rfl⟩
        refine rn ?_
        refine ⟨L, ?_, ?_⟩
        · show IJ (goes step _ (kindL e)) L
          rw [hkl]; exact hI
        · rw [hkl]; exact (ent_sub (.cons _ _ _ rfl (.cons _ _ _ rfl (.cons _ _ _ rfl (.cons _ _ _ rfl (.cons _ _ _ rfl (.cons _ _ _ rfl (.nil))))))))
      · have hn1 : e.kind ≠ 1 := by simpa using hc40
        refine rn ?_
        refine aw_cond rfl (fun hc47 => ?_) (fun hc47 => ?_)
        · have hk23 : e.kind = 2 ∨ e.kind = 3 := by simp at hc47; omega
          have hkl := kindL_2 hk23
          refine rn ?_
          refine aw_cond rfl (fun hc47 => ?_) (fun hc47 => ?_)
          · have hk23 : e.kind = 2 ∨ e.kind = 3 := by simp at hc47; omega
            have hkl := kindL_2 hk23
            refine rn ?_
            refine aw_draw 4 rfl ?_
            refine rn ?_
            refine aops_e rfl (oe_call rfl rfl (FCall.fr3 (FCall.of_acall (fs := []) (cs := [.v (.pointer (some ⟨bm, 0, none⟩)), .v (.pointer (some ⟨by_, 0, none⟩))]) (sayR step ok IJ y hy 2 e.o (hkx _ (by rw [hkl]; simp)) _ bm by_ _ _ hI))) rfl ?_)
            rintro _ _ ⟨_, rfl, L, hI, rfl⟩
            refine rn ?_
            refine aops_e rfl (oe_call rfl rfl (FCall.fr2 (FCall.of_acall (fs := []) (cs := [.v (.pointer (some ⟨bs, 0, none⟩))]) (madeR step ok IJ y hy e.v (fun x hx => hkx x (by rw [hkl]; simp [hx])) _ bs bm by_ _ _ hI))) rfl ?_)
            rintro _ _ ⟨_, rfl, L, hI, rfl⟩
            refine rn ?_
            refine ⟨L, ?_, ?_⟩
            · show IJ (goes step _ (kindL e)) L
              rw [hkl]; exact hI
            · rw [hkl]; exact (ent_sub (.cons _ _ _ rfl (.cons _ _ _ rfl (.cons _ _ _ rfl (.cons _ _ _ rfl (.cons _ _ _ rfl (.cons _ _ _ rfl (.nil))))))))
          · first | cases hc47 | exact absurd hc47 (by decide) | (exfalso; simp_all; done)
        · have hn23 := hc47
          simp at hn23
          refine rn ?_
          refine aw_cond rfl (fun hc47 => ?_) (fun hc47 => ?_)
          · have hk23 : e.kind = 2 ∨ e.kind = 3 := by simp at hc47; omega
            have hkl := kindL_2 hk23
            refine rn ?_
            refine aw_draw 4 rfl ?_
            refine rn ?_
            refine aops_e rfl (oe_call rfl rfl (FCall.fr3 (FCall.of_acall (fs := []) (cs := [.v (.pointer (some ⟨bm, 0, none⟩)), .v (.pointer (some ⟨by_, 0, none⟩))]) (sayR step ok IJ y hy 2 e.o (hkx _ (by rw [hkl]; simp)) _ bm by_ _ _ hI))) rfl ?_)
            rintro _ _ ⟨_, rfl, L, hI, rfl⟩
            refine rn ?_
            refine aops_e rfl (oe_call rfl rfl (FCall.fr2 (FCall.of_acall (fs := []) (cs := [.v (.pointer (some ⟨bs, 0, none⟩))]) (madeR step ok IJ y hy e.v (fun x hx => hkx x (by rw [hkl]; simp [hx])) _ bs bm by_ _ _ hI))) rfl ?_)
            rintro _ _ ⟨_, rfl, L, hI, rfl⟩
            refine rn ?_
            refine ⟨L, ?_, ?_⟩
            · show IJ (goes step _ (kindL e)) L
              rw [hkl]; exact hI
            · rw [hkl]; exact (ent_sub (.cons _ _ _ rfl (.cons _ _ _ rfl (.cons _ _ _ rfl (.cons _ _ _ rfl (.cons _ _ _ rfl (.cons _ _ _ rfl (.nil))))))))
          · have hn23 := hc47
            simp at hn23
            refine rn ?_
            refine aw_cond rfl (fun hc60 => ?_) (fun hc60 => ?_)
            · have hkl := kindL_4 (e := e) (by simpa using hc60)
              refine aw_draw 4 rfl ?_
              refine rn ?_
              refine aops_e rfl (oe_call rfl rfl (FCall.fr3 (FCall.of_acall (fs := []) (cs := [.v (.pointer (some ⟨bm, 0, none⟩)), .v (.pointer (some ⟨by_, 0, none⟩))]) (sayR step ok IJ y hy 3 e.p (hkx _ (by rw [hkl]; simp)) _ bm by_ _ _ hI))) rfl ?_)
              rintro _ _ ⟨_, rfl, L, hI, rfl⟩
              refine rn ?_
              refine ⟨L, ?_, ?_⟩
              · show IJ (goes step _ (kindL e)) L
                rw [hkl]; exact hI
              · rw [hkl]; exact (ent_sub (.cons _ _ _ rfl (.cons _ _ _ rfl (.cons _ _ _ rfl (.cons _ _ _ rfl (.cons _ _ _ rfl (.cons _ _ _ rfl (.nil))))))))
            · have hn4 : e.kind ≠ 4 := by simpa using hc60
              have hkl := kindL_0 (e := e) hn1 (by omega) (by omega) hn4
              refine rn ?_
              refine ⟨L, ?_, ?_⟩
              · show IJ (goes step _ (kindL e)) L
                rw [hkl]; exact hI
              · rw [hkl]; exact (ent_sub (.cons _ _ _ rfl (.cons _ _ _ rfl (.cons _ _ _ rfl (.cons _ _ _ rfl (.cons _ _ _ rfl (.cons _ _ _ rfl (.nil))))))))
    · rintro L hI
      revert hI hF
      generalize goes step (goes step st [(0, e.t)]) (kindL e) = st2
      intro hF hI
      refine rn ?_
      refine aw_loop' (fun x : Nat × Option σ × List Res => x.1 ≤ e.scan.length ∧ IJ x.2.1 x.2.2 ∧ Rem step ok x.2.1 (((e.scan.drop x.1).flatMap seenL) ++ (((h.evs.drop (k + 1)).flatMap evL) ++ (h.ords.flatMap ordL ++ (h.mats.flatMap matL ++ h.wants.flatMap wanL)))) (goes step (some s0) (spokenL h))) (fun x => ⟨[(72, iv x.1), (71, iv (e.scan.map seenR).length), (7, .pp (evR e)), (22, iv k), (21, iv (h.evs.map evR).length), (1, .v (.pointer (some ⟨b1, 0, none⟩))), (4, .v (.pointer (some ⟨bs, 0, none⟩))), (5, .fn (.func 188) [] [.v (.pointer (some ⟨bs, 0, none⟩))])], .box b1 198 [.v (.pointer (some ⟨bh, 0, none⟩))] :: .box bh 28 (histC h) :: .box bs 244 [.fn (.func 187) [] [.v (.pointer (some ⟨bm, 0, none⟩)), .v (.pointer (some ⟨by_, 0, none⟩))]] :: .box bm 4 [bv (x.2.1).isSome] :: .box by_ 243 [y] :: x.2.2, []⟩) (fun x => e.scan.length - x.1) (0, st2, L) ⟨by omega, hI, hF⟩
        (ent_sub (.cons _ _ _ rfl (.cons _ _ _ rfl (.cons _ _ _ rfl (.cons _ _ _ rfl (.cons _ _ _ rfl (.cons _ _ _ rfl (.cons _ _ _ rfl (.cons _ _ _ rfl (.nil)))))))))) ?_
      rintro ⟨j, st, L⟩ ⟨hj, hI, hF⟩
      simp only at hj hI hF
      refine rn ?_
      refine aw_cond rfl (fun hc73 => ?_) (fun hc73 => ?_)
      · have j2 : j < e.scan.length := by simpa using hc73
        obtain ⟨x, hx⟩ : ∃ x, x = e.scan[j] := ⟨_, rfl⟩
        have hrowx : (e.scan.map seenR)[j]? = some (seenR x) := by rw [hx]; simp [j2]
        have hdx := List.drop_eq_getElem_cons j2
        rw [hdx, ← hx] at hF
        simp only [List.flatMap_cons, seenL, List.cons_append, List.append_assoc] at hF
        obtain ⟨hx, hF⟩ := hF.cons
        obtain ⟨hkx, hF⟩ := hF.app
        refine rn ?_
        refine aw_draw 8 rfl ?_
        refine rn ?_
        refine aops_e rfl (oe_call rfl rfl (FCall.fr3 (FCall.of_acall (fs := []) (cs := [.v (.pointer (some ⟨bm, 0, none⟩)), .v (.pointer (some ⟨by_, 0, none⟩))]) (sayR step ok IJ y hy 2 x.o hx _ bm by_ _ _ hI))) rfl ?_)
        rintro _ _ ⟨_, rfl, L, hI, rfl⟩
        refine rn ?_
        refine aops_e rfl (oe_call rfl rfl (FCall.fr2 (FCall.of_acall (fs := []) (cs := [.v (.pointer (some ⟨bs, 0, none⟩))]) (madeR step ok IJ y hy x.v hkx _ bs bm by_ _ _ hI))) rfl ?_)
        rintro _ _ ⟨_, rfl, L, hI, rfl⟩
        refine rn ?_
        exact ⟨(j + 1, _, L), ⟨by omega, hI, hF⟩, (ent_sub (.cons _ _ _ rfl (.cons _ _ _ rfl (.cons _ _ _ rfl (.cons _ _ _ rfl (.cons _ _ _ rfl (.cons _ _ _ rfl (.cons _ _ _ rfl (.cons _ _ _ rfl (.nil)))))))))), by simp only; omega⟩
      · obtain rfl : j = e.scan.length := by
          have : e.scan.length ≤ j := by simpa using hc73
          omega
        rw [List.drop_length, List.flatMap_nil, List.nil_append] at hF
        refine rn ?_
        exact ⟨(k + 1, _, L), ⟨by omega, hI, hF⟩, (ent_sub (.cons _ _ _ rfl (.cons _ _ _ rfl (.cons _ _ _ rfl (.cons _ _ _ rfl (.cons _ _ _ rfl (.nil))))))), by simp only; omega⟩
  · obtain rfl : k = h.evs.length := by
      have : h.evs.length ≤ k := by simpa using hc23
      omega
    rw [List.drop_length, List.flatMap_nil, List.nil_append] at hF
    refine rn ?_
    refine aw_loop' (fun x : Nat × Option σ × List Res => x.1 ≤ h.ords.length ∧ IJ x.2.1 x.2.2 ∧ Rem step ok x.2.1 (((h.ords.drop x.1).flatMap ordL) ++ (h.mats.flatMap matL ++ h.wants.flatMap wanL)) (goes step (some s0) (spokenL h))) (fun x => ⟨[(100, iv x.1), (99, iv (h.ords.map ordR).length), (1, .v (.pointer (some ⟨b1, 0, none⟩))), (4, .v (.pointer (some ⟨bs, 0, none⟩))), (5, .fn (.func 188) [] [.v (.pointer (some ⟨bs, 0, none⟩))])], .box b1 198 [.v (.pointer (some ⟨bh, 0, none⟩))] :: .box bh 28 (histC h) :: .box bs 244 [.fn (.func 187) [] [.v (.pointer (some ⟨bm, 0, none⟩)), .v (.pointer (some ⟨by_, 0, none⟩))]] :: .box bm 4 [bv (x.2.1).isSome] :: .box by_ 243 [y] :: x.2.2, []⟩) (fun x => h.ords.length - x.1) (0, st, L) ⟨by omega, hI, hF⟩
      (ent_sub (.cons _ _ _ rfl (.cons _ _ _ rfl (.cons _ _ _ rfl (.cons _ _ _ rfl (.cons _ _ _ rfl (.nil))))))) ?_
    rintro ⟨k, st, L⟩ ⟨hk, hI, hF⟩
    simp only at hk hI hF
    refine rn ?_
    refine aw_cond rfl (fun hc101 => ?_) (fun hc101 => ?_)
    · have k2 : k < h.ords.length := by simpa using hc101
      obtain ⟨r, hr⟩ : ∃ r, r = h.ords[k] := ⟨_, rfl⟩
      have hrowr : (h.ords.map ordR)[k]? = some (ordR r) := by rw [hr]; simp [k2]
      have hdr := List.drop_eq_getElem_cons k2
      rw [hdr, ← hr] at hF
      simp only [List.flatMap_cons, ordL, List.cons_append, List.append_assoc] at hF
      obtain ⟨hx, hF⟩ := hF.cons
      have hle := la.ords
      have hls := la.ordts r (by rw [hr]; simp)
      refine rn ?_
      refine aw_draw 8 rfl ?_
      refine rn ?_
      refine aops_e rfl (oe_call rfl rfl (FCall.fr3 (FCall.of_acall (fs := []) (cs := [.v (.pointer (some ⟨bm, 0, none⟩)), .v (.pointer (some ⟨by_, 0, none⟩))]) (sayR step ok IJ y hy 2 r.o hx _ bm by_ _ _ hI))) rfl ?_)
      rintro _ _ ⟨_, rfl, L, hI, rfl⟩
      refine rn ?_
      refine aw_loop' (fun x : Nat × Option σ × List Res => x.1 ≤ r.ts.length ∧ IJ x.2.1 x.2.2 ∧ Rem step ok x.2.1 (((r.ts.drop x.1).map fun t => ((0 : Nat), t)) ++ (((h.ords.drop (k + 1)).flatMap ordL) ++ (h.mats.flatMap matL ++ h.wants.flatMap wanL))) (goes step (some s0) (spokenL h))) (fun x => ⟨[(121, iv x.1), (120, iv (r.ts.map intR).length), (9, iv k), (100, iv k), (99, iv (h.ords.map ordR).length), (1, .v (.pointer (some ⟨b1, 0, none⟩))), (4, .v (.pointer (some ⟨bs, 0, none⟩))), (5, .fn (.func 188) [] [.v (.pointer (some ⟨bs, 0, none⟩))])], .box b1 198 [.v (.pointer (some ⟨bh, 0, none⟩))] :: .box bh 28 (histC h) :: .box bs 244 [.fn (.func 187) [] [.v (.pointer (some ⟨bm, 0, none⟩)), .v (.pointer (some ⟨by_, 0, none⟩))]] :: .box bm 4 [bv (x.2.1).isSome] :: .box by_ 243 [y] :: x.2.2, []⟩) (fun x => r.ts.length - x.1) (0, _, L) ⟨by omega, hI, hF⟩
        (ent_sub (.cons _ _ _ rfl (.cons _ _ _ rfl (.cons _ _ _ rfl (.cons _ _ _ rfl (.cons _ _ _ rfl (.cons _ _ _ rfl (.cons _ _ _ rfl (.cons _ _ _ rfl (.nil)))))))))) ?_
      rintro ⟨j, st, L⟩ ⟨hj, hI, hF⟩
      simp only at hj hI hF
      refine rn ?_
      refine aw_cond rfl (fun hc122 => ?_) (fun hc122 => ?_)
      · have j2 : j < r.ts.length := by simpa using hc122
        obtain ⟨t, ht⟩ : ∃ t, t = r.ts[j] := ⟨_, rfl⟩
        have hrowt : (r.ts.map intR)[j]? = some (intR t) := by rw [ht]; simp [j2]
        have hdt := List.drop_eq_getElem_cons j2
        rw [hdt, ← ht] at hF
        simp only [List.map_cons, List.cons_append] at hF
        obtain ⟨hx, hF⟩ := hF.cons
        refine rn ?_
        refine aw_draw 11 rfl ?_
        refine rn ?_
        refine aops_e rfl (oe_call rfl rfl (FCall.fr3 (FCall.of_acall (fs := []) (cs := [.v (.pointer (some ⟨bm, 0, none⟩)), .v (.pointer (some ⟨by_, 0, none⟩))]) (sayR step ok IJ y hy 0 t hx _ bm by_ _ _ hI))) rfl ?_)
        rintro _ _ ⟨_, rfl, L, hI, rfl⟩
        refine rn ?_
        exact ⟨(j + 1, _, L), ⟨by omega, hI, hF⟩, (ent_sub (.cons _ _ _ rfl (.cons _ _ _ rfl (.cons _ _ _ rfl (.cons _ _ _ rfl (.cons _ _ _ rfl (.cons _ _ _ rfl (.cons _ _ _ rfl (.cons _ _ _ rfl (.nil)))))))))), by simp only; omega⟩
      · obtain rfl : j = r.ts.length := by
          have : r.ts.length ≤ j := by simpa using hc122
          omega
        rw [List.drop_length, List.map_nil, List.nil_append] at hF
        refine rn ?_
        exact ⟨(k + 1, _, L), ⟨by omega, hI, hF⟩, (ent_sub (.cons _ _ _ rfl (.cons _ _ _ rfl (.cons _ _ _ rfl (.cons _ _ _ rfl (.cons _ _ _ rfl (.nil))))))), by simp only; omega⟩
    · obtain rfl : k = h.ords.length := by
        have : h.ords.length ≤ k := by simpa using hc101
        omega
      rw [List.drop_length, List.flatMap_nil, List.nil_append] at hF
      refine rn ?_
      refine aw_loop' (fun x : Nat × Option σ × List Res => x.1 ≤ h.mats.length ∧ IJ x.2.1 x.2.2 ∧ Rem step ok x.2.1 (((h.mats.drop x.1).flatMap matL) ++ h.wants.flatMap wanL) (goes step (some s0) (spokenL h))) (fun x => ⟨[(143, iv x.1), (142, iv (h.mats.map matR).length), (1, .v (.pointer (some ⟨b1, 0, none⟩))), (4, .v (.pointer (some ⟨bs, 0, none⟩))), (5, .fn (.func 188) [] [.v (.pointer (some ⟨bs, 0, none⟩))])], .box b1 198 [.v (.pointer (some ⟨bh, 0, none⟩))] :: .box bh 28 (histC h) :: .box bs 244 [.fn (.func 187) [] [.v (.pointer (some ⟨bm, 0, none⟩)), .v (.pointer (some ⟨by_, 0, none⟩))]] :: .box bm 4 [bv (x.2.1).isSome] :: .box by_ 243 [y] :: x.2.2, []⟩) (fun x => h.mats.length - x.1) (0, st, L) ⟨by omega, hI, hF⟩
        (ent_sub (.cons _ _ _ rfl (.cons _ _ _ rfl (.cons _ _ _ rfl (.cons _ _ _ rfl (.cons _ _ _ rfl (.nil))))))) ?_
      rintro ⟨k, st, L⟩ ⟨hk, hI, hF⟩
      simp only at hk hI hF
      refine rn ?_
      refine aw_cond rfl (fun hc144 => ?_) (fun hc144 => ?_)
      · have k2 : k < h.mats.length := by simpa using hc144
        obtain ⟨r, hr⟩ : ∃ r, r = h.mats[k] := ⟨_, rfl⟩
        have hrowr : (h.mats.map matR)[k]? = some (matR r) := by rw [hr]; simp [k2]
        have hdr := List.drop_eq_getElem_cons k2
        rw [hdr, ← hr] at hF
        simp only [List.flatMap_cons, matL, List.cons_append, List.append_assoc] at hF
        obtain ⟨hx, hF⟩ := hF.cons
        obtain ⟨hx2, hF⟩ := hF.cons
        have hle := la.mats
        have hls := la.matts r (by rw [hr]; simp)
        refine rn ?_
        refine aw_draw 4 rfl ?_
        refine rn ?_
        refine aops_e rfl (oe_call rfl rfl (FCall.fr3 (FCall.of_acall (fs := []) (cs := [.v (.pointer (some ⟨bm, 0, none⟩)), .v (.pointer (some ⟨by_, 0, none⟩))]) (sayR step ok IJ y hy 3 r.p hx _ bm by_ _ _ hI))) rfl ?_)
        rintro _ _ ⟨_, rfl, L, hI, rfl⟩
        refine rn ?_
        refine aw_draw 4 rfl ?_
        refine rn ?_
        refine aops_e rfl (oe_call rfl rfl (FCall.fr3 (FCall.of_acall (fs := []) (cs := [.v (.pointer (some ⟨bm, 0, none⟩)), .v (.pointer (some ⟨by_, 0, none⟩))]) (sayR step ok IJ y hy 2 r.o hx2 _ bm by_ _ _ hI))) rfl ?_)
        rintro _ _ ⟨_, rfl, L, hI, rfl⟩
        refine rn ?_
        refine aw_loop' (fun x : Nat × Option σ × List Res => x.1 ≤ r.ts.length ∧ IJ x.2.1 x.2.2 ∧ Rem step ok x.2.1 (((r.ts.drop x.1).map fun t => ((0 : Nat), t)) ++ (((h.mats.drop (k + 1)).flatMap matL) ++ h.wants.flatMap wanL)) (goes step (some s0) (spokenL h))) (fun x => ⟨[(167, iv x.1), (166, iv (r.ts.map intR).length), (12, .pp (matR r)), (143, iv k), (142, iv (h.mats.map matR).length), (1, .v (.pointer (some ⟨b1, 0, none⟩))), (4, .v (.pointer (some ⟨bs, 0, none⟩))), (5, .fn (.func 188) [] [.v (.pointer (some ⟨bs, 0, none⟩))])], .box b1 198 [.v (.pointer (some ⟨bh, 0, none⟩))] :: .box bh 28 (histC h) :: .box bs 244 [.fn (.func 187) [] [.v (.pointer (some ⟨bm, 0, none⟩)), .v (.pointer (some ⟨by_, 0, none⟩))]] :: .box bm 4 [bv (x.2.1).isSome] :: .box by_ 243 [y] :: x.2.2, []⟩) (fun x => r.ts.length - x.1) (0, _, L) ⟨by omega, hI, hF⟩
          (ent_sub (.cons _ _ _ rfl (.cons _ _ _ rfl (.cons _ _ _ rfl (.cons _ _ _ rfl (.cons _ _ _ rfl (.cons _ _ _ rfl (.cons _ _ _ rfl (.cons _ _ _ rfl (.nil)))))))))) ?_
        rintro ⟨j, st, L⟩ ⟨hj, hI, hF⟩
        simp only at hj hI hF
        refine rn ?_
        refine aw_cond rfl (fun hc168 => ?_) (fun hc168 => ?_)
        · have j2 : j < r.ts.length := by simpa using hc168
          obtain ⟨t, ht⟩ : ∃ t, t = r.ts[j] := ⟨_, rfl⟩
          have hrowt : (r.ts.map intR)[j]? = some (intR t) := by rw [ht]; simp [j2]
          have hdt := List.drop_eq_getElem_cons j2
          rw [hdt, ← ht] at hF
          simp only [List.map_cons, List.cons_append] at hF
          obtain ⟨hx, hF⟩ := hF.cons
          refine rn ?_
          refine aw_draw 7 rfl ?_
          refine rn ?_
          refine aops_e rfl (oe_call rfl rfl (FCall.fr3 (FCall.of_acall (fs := []) (cs := [.v (.pointer (some ⟨bm, 0, none⟩)), .v (.pointer (some ⟨by_, 0, none⟩))]) (sayR step ok IJ y hy 0 t hx _ bm by_ _ _ hI))) rfl ?_)
          rintro _ _ ⟨_, rfl, L, hI, rfl⟩
          refine rn ?_
          exact ⟨(j + 1, _, L), ⟨by omega, hI, hF⟩, (ent_sub (.cons _ _ _ rfl (.cons _ _ _ rfl (.cons _ _ _ rfl (.cons _ _ _ rfl (.cons _ _ _ rfl (.cons _ _ _ rfl (.cons _ _ _ rfl (.cons _ _ _ rfl (.nil)))))))))), by simp only; omega⟩
        · obtain rfl : j = r.ts.length := by
            have : r.ts.length ≤ j := by simpa using hc168
            omega
          rw [List.drop_length, List.map_nil, List.nil_append] at hF
          refine rn ?_
          exact ⟨(k + 1, _, L), ⟨by omega, hI, hF⟩, (ent_sub (.cons _ _ _ rfl (.cons _ _ _ rfl (.cons _ _ _ rfl (.cons _ _ _ rfl (.cons _ _ _ rfl (.nil))))))), by simp only; omega⟩
      · obtain rfl : k = h.mats.length := by
          have : h.mats.length ≤ k := by simpa using hc144
          omega
        rw [List.drop_length, List.flatMap_nil, List.nil_append] at hF
        refine rn ?_
        refine aw_loop' (fun x : Nat × Option σ × List Res => x.1 ≤ h.wants.length ∧ IJ x.2.1 x.2.2 ∧ Rem step ok x.2.1 (((h.wants.drop x.1).flatMap wanL) ++ []) (goes step (some s0) (spokenL h))) (fun x => ⟨[(185, iv x.1), (184, iv (h.wants.map wanR).length), (1, .v (.pointer (some ⟨b1, 0, none⟩))), (4, .v (.pointer (some ⟨bs, 0, none⟩))), (5, .fn (.func 188) [] [.v (.pointer (some ⟨bs, 0, none⟩))])], .box b1 198 [.v (.pointer (some ⟨bh, 0, none⟩))] :: .box bh 28 (histC h) :: .box bs 244 [.fn (.func 187) [] [.v (.pointer (some ⟨bm, 0, none⟩)), .v (.pointer (some ⟨by_, 0, none⟩))]] :: .box bm 4 [bv (x.2.1).isSome] :: .box by_ 243 [y] :: x.2.2, []⟩) (fun x => h.wants.length - x.1) (0, st, L) ⟨by omega, hI, by rw [List.append_nil]; exact hF⟩
          (ent_sub (.cons _ _ _ rfl (.cons _ _ _ rfl (.cons _ _ _ rfl (.cons _ _ _ rfl (.cons _ _ _ rfl (.nil))))))) ?_
        rintro ⟨k, st, L⟩ ⟨hk, hI, hF⟩
        simp only at hk hI hF
        refine rn ?_
        refine aw_cond rfl (fun hc186 => ?_) (fun hc186 => ?_)
        · have k2 : k < h.wants.length := by simpa using hc186
          obtain ⟨r, hr⟩ : ∃ r, r = h.wants[k] := ⟨_, rfl⟩
          have hrowr : (h.wants.map wanR)[k]? = some (wanR r) := by rw [hr]; simp [k2]
          have hdr := List.drop_eq_getElem_cons k2
          rw [hdr, ← hr] at hF
          simp only [List.flatMap_cons, wanL, List.cons_append, List.append_assoc, List.nil_append] at hF
          obtain ⟨hx, hF⟩ := hF.cons
          have hle := la.wants
          refine rn ?_
          refine aw_draw 8 rfl ?_
          refine rn ?_
          refine aops_e rfl (oe_call rfl rfl (FCall.fr3 (FCall.of_acall (fs := []) (cs := [.v (.pointer (some ⟨bm, 0, none⟩)), .v (.pointer (some ⟨by_, 0, none⟩))]) (sayR step ok IJ y hy 1 r.s hx _ bm by_ _ _ hI))) rfl ?_)
          rintro _ _ ⟨_, rfl, L, hI, rfl⟩
          refine rn ?_
          exact ⟨(k + 1, _, L), ⟨by omega, hI, hF⟩, (ent_sub (.cons _ _ _ rfl (.cons _ _ _ rfl (.cons _ _ _ rfl (.cons _ _ _ rfl (.cons _ _ _ rfl (.nil))))))), by simp only; omega⟩
        · obtain rfl : k = h.wants.length := by
            have : h.wants.length ≤ k := by simpa using hc186
            omega
          rw [List.drop_length, List.flatMap_nil, List.nil_append] at hF
          refine rn ?_
          have hF' : st = goes step (some s0) (spokenL h) := hF.fin
          exact retq_n .nil (.trans (.perm ((pt2 _ _ _ _).trans (.cons _ ((pt2 _ _ _ _).trans (.cons _ (pt2 _ _ _ _))))) _) (.drop [_, _, _] _ _)) ⟨L, hF' ▸ hI, rfl⟩
theorem spoken (bh : Nat) (h : List Res) : ACall Tryz.prog 138 [.v (.pointer (some ⟨bh, 0, none⟩))] h (fun r h' => ∃ b1, h' = .box b1 198 [.v (.pointer (some ⟨bh, 0, none⟩))] :: h ∧ r = .fn (.func 186) [] [.v (.pointer (some ⟨b1, 0, none⟩))]) := by
  refine acall_of_aw Tryz.func138 rfl rfl rfl ?_
  refine rn ?_
  refine aops_e rfl (oe_box rfl rfl rfl fun b1 => ?_)
  refine rn ?_
  exact retq (.cons _ _ _ _ (.tmp _ _ rfl) .nil) (.refl _ _) ⟨_, rfl, rfl⟩
end Go.Proofs
/- The walk of history.Check. Conditions: none. -/
set_option linter.unusedVariables false
set_option linter.unusedSimpArgs false
set_option maxRecDepth 10000
namespace Go.Proofs
open Go Go.Ab
attribute [local irreducible] QR QV OE aops aw dsoup dsoupM dalloc dallocM thn inBlk
open Go.H
def IJC (lp : LP) (q b2 b3 : Nat) : Option (List Int) → List Res → Prop
  | some m, L => L = lp .ready none :: .defs q :: .box b3 186 ((m).map iv) :: .box b2 34 [iv 0] :: [.glob 0 186 limitsC, .glob 2 287 firstC, .glob 3 290 acceptC] ∧ m.length = 4
  | none, L => ∃ m : List Int, L = lp .done (some .ret) :: .defs q :: .box b3 186 ((m).map iv) :: .box b2 34 [iv 210] :: [.glob 0 186 limitsC, .glob 2 287 firstC, .glob 3 290 acceptC]
theorem check (h : Hist) (la : Lim 4611686018427387904 h) : ACall Tryz.prog 107 [.agg (histC h)] [.glob 0 186 limitsC, .glob 2 287 firstC, .glob 3 290 acceptC] (fun r h' => h' = [.glob 0 186 limitsC, .glob 2 287 firstC, .glob 3 290 acceptC] ∧ r = iv (checkE h)) := by
  refine acall_of_aw Tryz.func107 rfl rfl rfl ?_
  refine rn ?_
  refine aops_e rfl (oe_box rfl rfl rfl fun b1 => ?_)
  refine aops_e rfl (oe_alloc rfl fun b2 => ?_)
  refine rn ?_
  refine qv rfl rfl (qv_call rfl rfl (FCall.qt (FCall.of_fun (shaped h la)) ((pt2 _ _ _ _).trans (.cons _ ((pt2 _ _ _ _).trans (.cons _ (pt2 _ _ _ _))))))) ?_
  refine rn ?_
  refine aw_cond rfl (fun hc10 => ?_) (fun hc10 => ?_)
  · have hs : shapedB h = false := not_t hc10
    refine rn ?_
    exact retq (.cons _ _ _ _ (.one _ _ _ _ _ _ _ rfl inferInstance inferInstance rfl) .nil) (.drop [_, _] _ _) ⟨rfl, congrArg iv (check_no hs).symm⟩
  · have hs : shapedB h = true := not_f hc10
    refine rn ?_
    refine aops_e rfl (oe_alloc rfl fun b3 => ?_)
    refine rn ?_
    refine aops_e rfl (oe_call rfl rfl (FCall.of_fun (spoken b1 _)) rfl ?_)
    rintro _ _ ⟨b1', rfl, rfl⟩
    refine rn ?_
    refine aw_rf (fun pend h'' => (pend = none ∧ ∃ m : List Int, manyL h = some m ∧ m.length = 4 ∧ h'' = .box b1' 198 [.v (.pointer (some ⟨b1, 0, none⟩))] :: .box b1 28 (histC h) :: .box b3 186 ((m).map iv) :: .box b2 34 [iv 0] :: [.glob 0 186 limitsC, .glob 2 287 firstC, .glob 3 290 acceptC]) ∨ (pend = some .ret ∧ manyL h = none ∧ ∃ m : List Int, h'' = .box b1' 198 [.v (.pointer (some ⟨b1, 0, none⟩))] :: .box b1 28 (histC h) :: .box b3 186 ((m).map iv) :: .box b2 34 [iv 210] :: [.glob 0 186 limitsC, .glob 2 287 firstC, .glob 3 290 acceptC])) rfl (fun fn l q lp hlp => ?_) (fun q h'' hK => ?_) (fun q h'' c hK => ?_)
    · suffices hy : ∀ (s : List Int) (L : List Res) (sort : Nat) (n : Int) (cells : List AV), OkN h (sort, n) → IJC lp q b2 b3 (some s) L → FCall Tryz.prog (yv l) [iv sort, .pp (iv n :: cells)] L (fun r h' => r = bv (manyStep s (sort, n)).isSome ∧ IJC lp q b2 b3 (manyStep s (sort, n)) h') by
        refine ACall.mono (ACall.perm ((pt2 _ _ _ _).trans (.cons _ (pt4 _ _ _ _ _ _))) (spokenR manyStep (OkN h) (IJC lp q b2 b3) (yv l) rfl hy h la b1' b1 (shaped_ok hs) [0, 0, 0, 0] _ ⟨rfl, rfl⟩)) ?_
        rintro _ _ ⟨L', hI, rfl⟩
        cases hm : goes manyStep (some [0, 0, 0, 0]) (spokenL h) with
        | some m =>
          rw [hm] at hI
          obtain ⟨rfl, hl⟩ := hI
          exact ⟨_, _, _, ((pt2 _ _ _ _).trans (.cons _ (pt2 _ _ _ _))), by simp, .inl ⟨rfl, m, hm, hl, rfl⟩⟩
        | none =>
          rw [hm] at hI
          obtain ⟨m, rfl⟩ := hI
          exact ⟨_, _, _, ((pt2 _ _ _ _).trans (.cons _ (pt2 _ _ _ _))), by simp, .inr ⟨rfl, hm, m, rfl⟩⟩
      rintro m _ sort n cells ⟨hs4, hn0, hn1⟩ ⟨rfl, hl⟩
      simp only at hs4 hn0 hn1
      have hnm := la.nm sort
      refine fcall_yl hlp rfl rfl ?_
      refine rn ?_
      refine ⟨[(4, iv sort), (5, .pp (iv n :: cells)), (3, .v (.pointer (some ⟨b3, 0, none⟩))), (2, .v (.pointer (some ⟨b2, 0, none⟩)))], (ent_sub (.cons _ _ _ rfl (.cons _ _ _ rfl (.cons _ _ _ rfl (.cons _ _ _ rfl (.nil)))))), ?_⟩
      refine rn ?_
      refine aw_draw 6 rfl ?_
      refine dq rfl rfl qrA ?_
      refine dq rfl rfl qrA ?_
      refine dq rfl rfl qrA ?_
      refine dq rfl rfl qrA ?_
      refine dq rfl rfl (qr_indexAddr_arr rfl rfl hs4) ?_
      refine dq rfl rfl (qr_load_one rfl (get4 hl hs4)) ?_
      refine rn ?_
      refine aw_cond rfl (fun hc20 => ?_) (fun hc20 => ?_)
      · refine rn ?_
        have hst : manyStep m (sort, n) = none := by rw [manyStep]; exact if_pos (by simpa using hc20)
        exact round_r (.refl _) (by rw [hst]; exact ⟨rfl, _, rfl⟩)
      · refine rn ?_
        refine aw_draw 9 rfl ?_
        refine dq rfl rfl qrA ?_
        refine dq rfl rfl qrA ?_
        refine dq rfl rfl (qr_indexAddr_arr rfl rfl hs4) ?_
        refine dq rfl rfl (qr_load_one rfl (get4 hl hs4)) ?_
        refine rn2 ?_
        refine qq rfl rfl (qr_indexAddr_arr rfl rfl hs4) ?_
        refine aops_e rfl (oe_store rfl rfl rfl rfl (by simp [hl]; omega) ?_)
        refine rn ?_
        have hst : manyStep m (sort, n) = some (m.set sort (max (m.getD sort 0) (n + 1))) := by rw [manyStep]; exact if_neg (by simpa using hc20)
        exact round_n (.refl _) (by rw [hst]; exact ⟨rfl, by rw [← set4 hl hs4]; rfl, by simpa using hl⟩)
    · obtain ⟨_, m, hm, hl, rfl⟩ | ⟨hc, _⟩ := hK
      rotate_left
      · cases hc
      refine rn ?_
      refine qv rfl rfl (qv_call rfl rfl (pcall (names _) (Sbs.refl _))) ?_
      refine rn ?_
      refine aw_loop' (fun k : Nat => k ≤ 4 ∧ ∀ j, j < k → m.getD j 0 = (nmK h j).length) (fun k => ⟨[(33, iv k), (32, .agg (namesC h)), (3, .v (.pointer (some ⟨b3, 0, none⟩))), (2, .v (.pointer (some ⟨b2, 0, none⟩)))], .defs q :: .box b1' 198 [.v (.pointer (some ⟨b1, 0, none⟩))] :: .box b1 28 (histC h) :: .box b3 186 ((m).map iv) :: .box b2 34 [iv 0] :: [.glob 0 186 limitsC, .glob 2 287 firstC, .glob 3 290 acceptC], [q]⟩) (fun k => 4 - k) 0 ⟨by omega, fun j hj => absurd hj (Nat.not_lt_zero j)⟩
        (ent_sub (.cons _ _ _ rfl (.cons _ _ _ rfl (.cons _ _ _ rfl (.cons _ _ _ rfl (.nil)))))) ?_
      rintro k ⟨hk, hz⟩
      refine rn ?_
      refine aw_cond rfl (fun hc34 => ?_) (fun hc34 => ?_)
      · have hk4 : k < 4 := by simp at hc34; omega
        refine aw_skip ?_
        refine thn_n ?_
        refine aw_seq ?_
        refine aw_block ?_
        refine aw_seq (aw_region ?_)
        refine q1 ?_
        refine qq rfl rfl (qr_index_arr_one rfl rfl (by omega) (by have := nmK_get h hk4; simpa using this)) ?_
        refine q1 ?_
        refine q1 ?_
        refine aops_nil (thn_n ?_)
        refine aw_seq (aw_region ?_)
        refine q1 ?_
        refine qq rfl rfl (qr_indexAddr_arr rfl rfl hk4) ?_
        refine qq rfl rfl (qr_load_one rfl (get4 hl hk4)) ?_
        refine rn ?_
        refine aw_cond rfl (fun hc42 => ?_) (fun hc42 => ?_)
        · refine rn ?_
          exact retqd (.refl _) (.cons _ _ _ _ (.one _ _ _ _ _ _ _ rfl inferInstance inferInstance rfl) .nil) (.drop [_, _, _, _] _ _) ⟨rfl, congrArg iv (check_ne hm hk4 (by simpa using hc42)).symm⟩
        · refine rn ?_
          exact ⟨k + 1, ⟨by omega, fun j hj => by
            by_cases hjk : j = k
            · subst hjk; simpa using hc42
            · exact hz j (by omega)⟩, (ent_sub (.cons _ _ _ rfl (.cons _ _ _ rfl (.cons _ _ _ rfl (.cons _ _ _ rfl (.nil)))))), by omega⟩
      · have hk4 : k = 4 := by simp at hc34; omega
        subst hk4
        refine rn ?_
        exact retqd (.refl _) (.cons _ _ _ _ (.one _ _ _ _ _ _ _ rfl inferInstance inferInstance rfl) .nil) (.drop [_, _, _, _] _ _) ⟨rfl, congrArg iv (check_eq hs hm hl hz).symm⟩
    · obtain ⟨hc, _⟩ | ⟨hc, hm, m, rfl⟩ := hK
      · cases hc
      obtain rfl : c = .ret := by simpa using hc
      refine rn ?_
      exact retqd (.refl _) (.cons _ _ _ _ (.one _ _ _ _ _ _ _ rfl inferInstance inferInstance rfl) .nil) (.drop [_, _, _, _] _ _) ⟨rfl, congrArg iv (check_none hm).symm⟩
end Go.Proofs
/- The walks of rules.First, Place, Sound, Writers. Conditions: none. -/
set_option linter.unusedVariables false
set_option linter.unusedSimpArgs false
set_option maxRecDepth 10000
namespace Go.Proofs
open Go Go.Ab
attribute [local irreducible] QR QV OE aops aw dsoup dsoupM dalloc dallocM thn inBlk jsoup jch lsoup
open Go.H
/-- What the rules ask: the functions, as they are laid. -/
def asksC : List AV := [.any, .fn (.func 259) [] [], .fn (.func 261) [] [], .fn (.func 262) [] [], .fn (.func 263) [] [], .fn (.func 264) [] [], .fn (.func 265) [] [], .fn (.func 266) [] [], .fn (.func 267) [] [], .fn (.func 268) [] [], .fn (.func 269) [] []]
def askF (k : Nat) : AV := asksC.getD k .any
theorem ask_get {k : Nat} (h2 : k ≤ 10) : asksC[k]? = some (askF k) := by
  have : k < asksC.length := by show k < 11; omega
  rw [askF, List.getD_eq_getElem?_getD, List.getElem?_eq_getElem this]; rfl
theorem ask_call (h : Hist) (la : Lim 3000 h) (b : Nat) (G : List Res) {k : Nat} (h1 : 1 ≤ k) (h2 : k ≤ 10) : FCall Tryz.prog (askF k) [.v (.pointer (some ⟨b, 0, none⟩))] (.box b 256 (lookN h) :: G) (fun r h' => h' = G ∧ r = placeV (placeP h k)) := by
  match k, h1, h2 with
  | 1, _, _ => exact FCall.of_acall (fs := []) (cs := []) (rBegin h la b G)
  | 2, _, _ => exact FCall.of_acall (fs := []) (cs := []) (rEnd h la b G)
  | 3, _, _ => exact FCall.of_acall (fs := []) (cs := []) (rCount h la b G)
  | 4, _, _ => exact FCall.of_acall (fs := []) (cs := []) (rWritten h la b G)
  | 5, _, _ => exact FCall.of_acall (fs := []) (cs := []) (rOwn h la b G)
  | 6, _, _ => exact FCall.of_acall (fs := []) (cs := []) (rScan h la b G)
  | 7, _, _ => exact FCall.of_acall (fs := []) (cs := []) (rOrder h la b G)
  | 8, _, _ => exact FCall.of_acall (fs := []) (cs := []) (rMissing h la b G)
  | 9, _, _ => exact FCall.of_acall (fs := []) (cs := []) (rMatch h la b G)
  | 10, _, _ => exact FCall.of_acall (fs := []) (cs := []) (rWant h la b G)
  | k + 11, _, h2 => omega
theorem place_t {o : Option Nat} {i : Int} {b : Bool} (h : placeV o = .tup [iv i, bv b]) : i = natI o ∧ b = o.isSome := by
  cases o with
  | none => simp only [placeV, AV.tup.injEq, List.cons.injEq, AV.v.injEq, Value.int.injEq, Value.bool.injEq, true_and, and_true] at h; exact ⟨h.1.symm, h.2.symm⟩
  | some n => simp only [placeV, AV.tup.injEq, List.cons.injEq, AV.v.injEq, Value.int.injEq, Value.bool.injEq, true_and, and_true] at h; exact ⟨h.1.symm, h.2.symm⟩
theorem may3000 {h : Hist} (hm : mayB h = true) : Lim 3000 h := by
  unfold mayB at hm; simp only [Bool.and_eq_true] at hm; exact shaped_lim hm.1
theorem rFirst (h : Hist) (la : Lim 4611686018427387904 h) : ACall Tryz.prog 140 [.agg (histC h)] [.glob 0 186 limitsC, .glob 2 287 firstC, .glob 3 290 acceptC, .glob 1 250 asksC] (fun r h' => h' = [.glob 0 186 limitsC, .glob 2 287 firstC, .glob 3 290 acceptC, .glob 1 250 asksC] ∧ r = firstAns h) := by
  refine acall_of_aw Tryz.func140 rfl rfl rfl ?_
  refine rn ?_
  refine aops_e rfl (oe_box rfl rfl rfl fun b1 => ?_)
  refine aops_e rfl (oe_alloc rfl fun b2 => ?_)
  refine rn ?_
  refine qv rfl rfl (qv_call rfl rfl (FCall.qt (FCall.of_fun (check h la)) ((pt2 _ _ _ _).trans (.cons _ ((pt2 _ _ _ _).trans (.cons _ (pt2 _ _ _ _))))))) ?_
  refine rn ?_
  refine aw_cond rfl (fun hc12 => ?_) (fun hc12 => ?_)
  · have hm : ¬ mayB h = true := by intro q; rw [checkE, if_pos q] at hc12; cases hc12
    have he : checkE h = 210 := by rw [checkE, if_neg hm]
    refine rn ?_
    exact retq (.cons _ _ _ _ (.agg _ _ _ _ _ _ _ rfl inferInstance inferInstance inferInstance rfl) (.cons _ _ _ _ (.tmp _ _ rfl) (.cons _ _ _ _ (.tmp _ _ rfl) .nil))) (.drop [_, _] _ _) ⟨rfl, by rw [firstAns, if_neg hm, he]; rfl⟩
  · have hm : mayB h = true := check_0.1 (by simpa using hc12)
    have la3 := may3000 hm
    refine rn ?_
    refine aw_while (fun k : Nat => (1 ≤ k ∧ k ≤ 11) ∧ firstIn (placeP h) rules10 = firstIn (placeP h) (rules10.drop (k - 1))) (fun k => ⟨[(6, iv k), (1, .v (.pointer (some ⟨b1, 0, none⟩))), (2, .v (.pointer (some ⟨b2, 0, none⟩)))], (.box b2 188 [iv 0, iv 0] :: .box b1 28 (histC h) :: .glob 0 186 limitsC :: .glob 2 287 firstC :: .glob 3 290 acceptC :: .glob 1 250 asksC :: []), []⟩) (fun k => 11 - k) 1 ⟨by omega, rfl⟩ es ?_
    rintro k ⟨⟨k1, k3⟩, zk⟩
    obtain ⟨pi, pb, hpv⟩ : ∃ i b, placeV (placeP h k) = .tup [iv i, bv b] := place_ib _
    obtain ⟨ei, eb⟩ := place_t hpv
    refine rn ?_
    refine aw_cond rfl (fun hc16 => ?_) (fun hc16 => ?_)
    · have k2 : k ≤ 10 := by have := of_decide_eq_true hc16; omega
      refine aw_skip ?_
      refine rn0 ?_
      refine aw_seq ?_
      refine aw_block ?_
      refine aw_seq ?_
      refine aw_drawX 11 [5, 6] [7, 8, 9, 10] (fun he => he = (.box b2 188 [iv 0, iv 0] :: .box b1 28 (histC h) :: .glob 0 186 limitsC :: .glob 2 287 firstC :: .glob 3 290 acceptC :: .glob 1 250 asksC :: []) ∨ ∃ b, he = .box b 256 (lookN h) :: (.box b2 188 [iv 0, iv 0] :: .box b1 28 (histC h) :: .glob 0 186 limitsC :: .glob 2 287 firstC :: .glob 3 290 acceptC :: .glob 1 250 asksC :: [])) rfl rfl (.inl rfl) ?_
      refine jq rfl (fun he hC => by rcases hC with rfl | ⟨b, rfl⟩ <;> exact qrA) ?_
      refine jq rfl (fun he hC => by rcases hC with rfl | ⟨b, rfl⟩ <;> exact (by exact qr_indexAddr_arr rfl rfl (by show k < 11; omega))) ?_
      refine jq rfl (fun he hC => by rcases hC with rfl | ⟨b, rfl⟩ <;> exact (by exact qr_load_one rfl (show asksC[0 + k * 1]? = some (askF k) by rw [Nat.zero_add, Nat.mul_one]; exact ask_get k2))) ?_
      refine jq rfl (fun he hC => by rcases hC with rfl | ⟨b, rfl⟩ <;> exact qrA) ?_
      refine jq rfl (fun he hC => by rcases hC with rfl | ⟨b, rfl⟩ <;> exact (by exact qr_build (out := lookN h) rfl (by rfl))) ?_
      refine je rfl ?_
      refine je rfl ?_
      refine je rfl ?_
      refine je rfl ?_
      refine je rfl ?_
      refine je rfl ?_
      refine jnil ?_
      refine jce rfl fun u => ?_
      refine oe_box rfl rfl rfl fun b5 => ⟨_, _, rfl, .inr ⟨_, rfl⟩, ?_⟩
      refine jce rfl fun u => ?_
      refine oe_call rfl rfl (ask_call h la3 b5 _ k1 k2) rfl ?_
      rintro _ _ ⟨rfl, rfl⟩
      rw [hpv]
      refine ⟨_, _, rfl, .inl rfl, ?_⟩
      refine jcn ?_
      refine lq rfl rfl (by exact qrA) ?_
      refine lq rfl rfl (by exact qrA) ?_
      refine lq rfl rfl (by exact qrA) ?_
      refine lq rfl rfl (by exact qrA) ?_
      refine ln ?_
      refine rn ?_
      refine aw_cond rfl (fun hc29 => ?_) (fun hc29 => ?_)
      · refine rn ?_
        exact retq (.cons _ _ _ _ (.agg _ _ _ _ _ _ _ rfl inferInstance inferInstance inferInstance rfl) (.cons _ _ _ _ (.tmp _ _ rfl) (.cons _ _ _ _ (.tmp _ _ rfl) .nil))) (.drop [_, _] _ _) ⟨rfl, by
          cases hp : placeP h k with
          | none => rw [hp] at eb; rw [eb] at hc29; cases hc29
          | some n => rw [hp] at ei; subst ei; rw [firstAns, if_pos hm, firstH, first_hit k1 k2 zk hp]; rfl⟩
      · refine rn ?_
        exact ⟨k + 1, ⟨by omega, first_step k1 k2 zk (by cases hp : placeP h k with | none => rfl | some n => rw [hp] at eb; rw [eb] at hc29; cases hc29)⟩, eA, by omega⟩
    · have k2 : 11 ≤ k := by have := of_decide_eq_false hc16; omega
      refine rn ?_
      exact retq (.cons _ _ _ _ (.agg _ _ _ _ _ _ _ rfl inferInstance inferInstance inferInstance rfl) (.cons _ _ _ _ (.tmp _ _ rfl) (.cons _ _ _ _ (.tmp _ _ rfl) .nil))) (.drop [_, _] _ _) ⟨rfl, by rw [firstAns, if_pos hm, firstH, first_over k2 k3 zk]; rfl⟩
theorem rSound (h : Hist) (la : Lim 4611686018427387904 h) : ACall Tryz.prog 108 [.agg (histC h)] [.glob 0 186 limitsC, .glob 2 287 firstC, .glob 3 290 acceptC, .glob 1 250 asksC] (fun r h' => h' = [.glob 0 186 limitsC, .glob 2 287 firstC, .glob 3 290 acceptC, .glob 1 250 asksC] ∧ r = bv (soundB h)) := by
  refine acall_of_aw Tryz.func108 rfl rfl rfl ?_
  refine rn ?_
  refine aops_e rfl (oe_box rfl rfl rfl fun b1 => ?_)
  refine q1 ?_
  refine aops_nil (thn_n ?_)
  refine aw_seq (aw_region ?_)
  obtain ⟨fi, fj, fb, fe, hf, hfb⟩ := firstAns_tup h
  refine rn ?_
  refine qv rfl rfl (qv_call rfl rfl (FCall.qt (FCall.of_fun (rFirst h la)) ((pt1 _ _ _).trans (.cons _ ((pt1 _ _ _).trans (.cons _ ((pt1 _ _ _).trans (.cons _ (pt1 _ _ _))))))))) ?_
  rw [hf]
  refine rn ?_
  refine aops_e rfl (oe_alloc rfl fun b3 => ?_)
  refine rn ?_
  refine asplit (fun hg2_2 => ?_) (fun hg2_2 => ?_)
  · refine rn ?_
    refine rq 2 ?_
    exact ⟨rfl, congrArg bv (by rw [hfb]; simp_all)⟩
  · refine rn ?_
    refine rq 2 ?_
    exact ⟨rfl, congrArg bv (by rw [hfb]; simp_all)⟩
end Go.Proofs
/- The listed table of functions, as the walk looks at it. Conditions: none. -/
set_option linter.unusedVariables false
set_option maxRecDepth 100000
namespace Go.Proofs.YtkoaoaogmlpocaaGreatDoor
open Go Go.Ab Go.H
def asksD : DataW Unit := match (Rows.laid_yardarm_rules_asks : DataW Unit) with | .iface _ d => d | d => d
def namesA : List (List UInt8) := match asksD with | .agg ds => ds.map (fun d => match d with | .iface _ (.lit (.string b)) => b | _ => []) | _ => []
def nm (k : Nat) : List UInt8 := namesA.getD (k + 1) []
theorem asksD_out : asksD.funcsOut = .agg (.nil :: (namesA.drop 1).map .held) := by kernel_rfl
theorem glob_any {w : World} {c : Array Value} {T0 : TypeId} {fr : Nat × Nat} {g : Nat} {T : TypeId} {vs : List AV} (hh : w.heap[g]? = some (.cells c T0 fr)) (hl : vs.length = c.size) (h : ∀ j (h1 : j < vs.length) (h2 : j < c.size), Rel w noX vs[j] c[j]) : (Res.glob g T vs).holds w noX :=
  ⟨fun h => h, (Array.getElem?_eq_some_iff.1 hh).1, c, T0, fr, hh, hl, fun j h1 h2 => h j h1 h2⟩
theorem fn_rel (w : World) (f : Nat) : Rel w noX (.fn (.func f) [] []) (.func (.func f) #[] #[]) := .fn _ _ _ _ _ rfl rfl (fun j h => absurd h (Nat.not_lt_zero _)) (fun j h => absurd h (Nat.not_lt_zero _))
def fnA : List Nat := [259, 261, 262, 263, 264, 265, 266, 267, 268, 269]
theorem asks_one (k : Nat) (hk : k < 10) : ∃ b r, namesA[k + 1]? = some (b :: r) ∧ ((List.range Tryz.prog.funcs.size).filter fun f => (Tryz.prog.funcs[f]?).any (·.name.toUTF8.data.toList == b :: r)) = [fnA.getD k 0] ∧ asksC[k + 1]? = some (.fn (.func (fnA.getD k 0)) [] []) := by
  match k, hk with
  | 0, _ => exact ⟨(nm 0).headD 0, (nm 0).tail, by kernel_rfl, by kernel_rfl, by kernel_rfl⟩
  | 1, _ => exact ⟨(nm 1).headD 0, (nm 1).tail, by kernel_rfl, by kernel_rfl, by kernel_rfl⟩
  | 2, _ => exact ⟨(nm 2).headD 0, (nm 2).tail, by kernel_rfl, by kernel_rfl, by kernel_rfl⟩
  | 3, _ => exact ⟨(nm 3).headD 0, (nm 3).tail, by kernel_rfl, by kernel_rfl, by kernel_rfl⟩
  | 4, _ => exact ⟨(nm 4).headD 0, (nm 4).tail, by kernel_rfl, by kernel_rfl, by kernel_rfl⟩
  | 5, _ => exact ⟨(nm 5).headD 0, (nm 5).tail, by kernel_rfl, by kernel_rfl, by kernel_rfl⟩
  | 6, _ => exact ⟨(nm 6).headD 0, (nm 6).tail, by kernel_rfl, by kernel_rfl, by kernel_rfl⟩
  | 7, _ => exact ⟨(nm 7).headD 0, (nm 7).tail, by kernel_rfl, by kernel_rfl, by kernel_rfl⟩
  | 8, _ => exact ⟨(nm 8).headD 0, (nm 8).tail, by kernel_rfl, by kernel_rfl, by kernel_rfl⟩
  | 9, _ => exact ⟨(nm 9).headD 0, (nm 9).tail, by kernel_rfl, by kernel_rfl, by kernel_rfl⟩
theorem glob3 {w : World} (h : laidMetH Tryz.prog laid4 w) : (Res.glob 1 250 asksC).holds w noX := by
  obtain ⟨g, t, cs, fuel, p, hg, ht, hv, hd⟩ := h.funcs (n := "yardarm/rules.asks") (d := asksD) (.tail _ (.tail _ (.head _)))
  obtain rfl := Option.some.inj ((show Tryz.prog.globalNamed "yardarm/rules.asks" = some 1 by kernel_rfl).symm.trans hg)
  obtain rfl := Option.some.inj ((show (Tryz.prog.globals[1]?).map (·.type) = some 250 by kernel_rfl).symm.trans ht)
  rw [asksD_out] at hd
  have c1 : Tryz.prog.cellsOf 249 = 1 := by kernel_rfl
  have c11 : Tryz.prog.cellsOf 250 = 11 := by kernel_rfl
  have hlen : cs.toList.length = 11 := by
    obtain ⟨_, _, _, _, hl, _⟩ := DataW.trod_array Tryz.underlying250 hd
    rw [hl, c11]
  unfold World.var? at hv
  rw [hg] at hv
  simp only [Option.bind_some] at hv
  split at hv
  · rename_i c T0 fr hh
    cases hv
    refine glob_any hh (by rw [show asksC.length = 11 from rfl]; simpa using hlen.symm) fun j h1 h2 => ?_
    cases j with
    | zero => exact .any _
    | succ k =>
      have hk : k < 10 := by have : asksC.length = 11 := rfl; omega
      obtain ⟨b, r, hn, hone, ha⟩ := asks_one k hk
      obtain ⟨f', d, q, e1, e2⟩ := Lib.array_elem Tryz.underlying250 hd (k + 1) (by omega)
      have e1' : d = .held (b :: r) := by
        rw [List.getElem?_cons_succ, List.getElem?_map, List.getElem?_drop, Nat.add_comm 1 k, hn] at e1
        exact (Option.some.inj e1).symm
      subst e1'
      rw [c1, Nat.mul_one, List.drop_eq_getElem_cons (by simpa using h2), List.take_succ_cons, List.take_zero] at e2
      have := func_of_trod (f0 := fnA.getD k 0) Tryz.underlying249 hone e2
      rw [Array.getElem_toList] at this
      rw [this, show asksC[k + 1] = .fn (.func (fnA.getD k 0)) [] [] from Option.some.inj ((List.getElem?_eq_getElem h1).symm.trans ha)]
      exact fn_rel _ _
  · cases hv
theorem laid_hrel4 {W : World} (h : laidMetH Tryz.prog laid4 W) : HRel noX W [.glob 0 186 limitsC, .glob 2 287 firstC, .glob 3 290 acceptC, .glob 1 250 asksC] := by
  obtain ⟨a, b, c, d⟩ := laid_hrel h
  have hO : OO [.glob 0 186 limitsC, .glob 2 287 firstC, .glob 3 290 acceptC] noX = noX := OO_G3
  have hO' : OO [.glob 0 186 limitsC, .glob 2 287 firstC, .glob 3 290 acceptC, .glob 1 250 asksC] noX = noX := by funext b; simp [OO, owns, noX, Res.own]
  refine ⟨by simp [owns, Res.own], fun b hb => by simp [owns, Res.own] at hb, fun b hb => hb.elim, fun r hr => ?_⟩
  rw [hO']
  rw [hO] at d
  simp only [List.mem_cons, List.not_mem_nil, or_false] at hr
  rcases hr with rfl | rfl | rfl | rfl
  · exact d _ (by simp)
  · exact d _ (by simp)
  · exact d _ (by simp)
  · exact glob3 h
theorem OO_G4 : OO [.glob 0 186 limitsC, .glob 2 287 firstC, .glob 3 290 acceptC, .glob 1 250 asksC] noX = noX := by funext b; simp [OO, owns, noX, Res.own]
end Go.Proofs.YtkoaoaogmlpocaaGreatDoor
/- The walks of the references' small functions. Conditions: none. -/
set_option linter.unusedVariables false
set_option linter.unusedSimpArgs false
set_option maxRecDepth 10000
namespace Go.Proofs
open Go Go.Ab
attribute [local irreducible] QR QV OE aops aw dsoup dsoupM dalloc dallocM thn inBlk
open Go.H
theorem refScan {f g : Bool} (l m : List Seen) (hl : l.length ≤ 4611686018427387904) (hm : m.length ≤ 4611686018427387904) : ACall Tryz.prog 118 [.list f 3 (l.map seenR), .list g 3 (m.map seenR)] [] (fun r h' => h' = [] ∧ r = bv (eqF seenEq l m)) := by
  refine acall_of_aw Tryz.func118 rfl rfl rfl ?_
  refine rn ?_
  refine aw_cond rfl (fun hc10 => ?_) (fun hc10 => ?_)
  · refine rn ?_
    have hne : (l.length == m.length) = false := beq_eq_false_iff_ne.2 fun q => by simp [q] at hc10
    exact retq (.cons _ _ _ _ (.tmp _ _ rfl) .nil) (.refl _ _) ⟨rfl, by rw [eqF, hne, Bool.false_and]; rfl⟩
  · have hlm : l.length = m.length := by simp at hc10; omega
    refine rn ?_
    refine aw_loop' (fun k : Nat => k ≤ l.length ∧ zall seenEq l m = zall seenEq (l.drop k) (m.drop k)) (fun k => ⟨[(13, iv k), (12, iv (l.map seenR).length), (0, .list f 3 (l.map seenR)), (1, .list g 3 (m.map seenR))], [], []⟩) (fun k => l.length - k) 0 ⟨Nat.zero_le _, by simp⟩
      (ent_sub (.cons _ _ _ rfl (.cons _ _ _ rfl (.cons _ _ _ rfl (.cons _ _ _ rfl (.nil)))))) ?_
    rintro k ⟨hk, hz⟩
    refine rn ?_
    refine aw_cond rfl (fun hc14 => ?_) (fun hc14 => ?_)
    · have hk2 : k < l.length := by simpa using hc14
      have hk3 : k < m.length := by omega
      have hrow1 : (l.map seenR)[k]? = some (seenR l[k]) := by simp [hk2]
      have hrow2 : (m.map seenR)[k]? = some (seenR m[k]) := by simp [hk3]
      have hd1 := List.drop_eq_getElem_cons hk2
      have hd2 := List.drop_eq_getElem_cons hk3
      refine rn ?_
      refine aw_draw 8 rfl ?_
      refine rn ?_
      refine aw_cond rfl (fun hc24 => ?_) (fun hc24 => ?_)
      · refine rn ?_
        exact retq (.cons _ _ _ _ (.tmp _ _ rfl) .nil) (.refl _ _) ⟨rfl, by rw [eqF, hz, hd1, hd2, zall, show seenEq l[k] m[k] = false from not_t hc24, Bool.false_and, Bool.and_false]; rfl⟩
      · refine rn ?_
        exact ⟨k + 1, ⟨by omega, by rw [hz, hd1, hd2, zall, show seenEq l[k] m[k] = true from not_f hc24, Bool.true_and]⟩, (ent_sub (.cons _ _ _ rfl (.cons _ _ _ rfl (.cons _ _ _ rfl (.cons _ _ _ rfl (.nil)))))), by omega⟩
    · have hk3 : k = l.length := by
        have : l.length ≤ k := by simpa using hc14
        omega
      refine rn ?_
      exact retq (.cons _ _ _ _ (.tmp _ _ rfl) .nil) (.refl _ _) ⟨rfl, by rw [eqF, hz, hk3, List.drop_length, zall_nil, hlm, beq_self_eq_true]; rfl⟩
theorem refNames {f g : Bool} (l m : List ByteArray) (hl : l.length ≤ 4611686018427387904) (hm : m.length ≤ 4611686018427387904) : ACall Tryz.prog 67 [.list f 1 (l.map strR), .list g 1 (m.map strR)] [] (fun r h' => h' = [] ∧ r = bv (eqF strEq l m)) := by
  refine acall_of_aw Tryz.func67 rfl rfl rfl ?_
  refine rn ?_
  refine aw_cond rfl (fun hc10 => ?_) (fun hc10 => ?_)
  · refine rn ?_
    have hne : (l.length == m.length) = false := beq_eq_false_iff_ne.2 fun q => by simp [q] at hc10
    exact retq (.cons _ _ _ _ (.tmp _ _ rfl) .nil) (.refl _ _) ⟨rfl, by rw [eqF, hne, Bool.false_and]; rfl⟩
  · have hlm : l.length = m.length := by simp at hc10; omega
    refine rn ?_
    refine aw_loop' (fun k : Nat => k ≤ l.length ∧ zall strEq l m = zall strEq (l.drop k) (m.drop k)) (fun k => ⟨[(13, iv k), (12, iv (l.map strR).length), (0, .list f 1 (l.map strR)), (1, .list g 1 (m.map strR))], [], []⟩) (fun k => l.length - k) 0 ⟨Nat.zero_le _, by simp⟩
      (ent_sub (.cons _ _ _ rfl (.cons _ _ _ rfl (.cons _ _ _ rfl (.cons _ _ _ rfl (.nil)))))) ?_
    rintro k ⟨hk, hz⟩
    refine rn ?_
    refine aw_cond rfl (fun hc14 => ?_) (fun hc14 => ?_)
    · have hk2 : k < l.length := by simpa using hc14
      have hk3 : k < m.length := by omega
      have hrow1 : (l.map strR)[k]? = some (strR l[k]) := by simp [hk2]
      have hrow2 : (m.map strR)[k]? = some (strR m[k]) := by simp [hk3]
      have hd1 := List.drop_eq_getElem_cons hk2
      have hd2 := List.drop_eq_getElem_cons hk3
      refine rn ?_
      refine aw_draw 8 rfl ?_
      refine rn ?_
      refine aw_cond rfl (fun hc24 => ?_) (fun hc24 => ?_)
      · refine rn ?_
        exact retq (.cons _ _ _ _ (.tmp _ _ rfl) .nil) (.refl _ _) ⟨rfl, by rw [eqF, hz, hd1, hd2, zall, show strEq l[k] m[k] = false from not_t hc24, Bool.false_and, Bool.and_false]; rfl⟩
      · refine rn ?_
        exact ⟨k + 1, ⟨by omega, by rw [hz, hd1, hd2, zall, show strEq l[k] m[k] = true from not_f hc24, Bool.true_and]⟩, (ent_sub (.cons _ _ _ rfl (.cons _ _ _ rfl (.cons _ _ _ rfl (.cons _ _ _ rfl (.nil)))))), by omega⟩
    · have hk3 : k = l.length := by
        have : l.length ≤ k := by simpa using hc14
        omega
      refine rn ?_
      exact retq (.cons _ _ _ _ (.tmp _ _ rfl) .nil) (.refl _ _) ⟨rfl, by rw [eqF, hz, hk3, List.drop_length, zall_nil, hlm, beq_self_eq_true]; rfl⟩
theorem refNumbers {f g : Bool} (l m : List Int) (hl : l.length ≤ 4611686018427387904) (hm : m.length ≤ 4611686018427387904) : ACall Tryz.prog 69 [.list f 1 (l.map intR), .list g 1 (m.map intR)] [] (fun r h' => h' = [] ∧ r = bv (eqF intEq l m)) := by
  refine acall_of_aw Tryz.func69 rfl rfl rfl ?_
  refine rn ?_
  refine aw_cond rfl (fun hc10 => ?_) (fun hc10 => ?_)
  · refine rn ?_
    have hne : (l.length == m.length) = false := beq_eq_false_iff_ne.2 fun q => by simp [q] at hc10
    exact retq (.cons _ _ _ _ (.tmp _ _ rfl) .nil) (.refl _ _) ⟨rfl, by rw [eqF, hne, Bool.false_and]; rfl⟩
  · have hlm : l.length = m.length := by simp at hc10; omega
    refine rn ?_
    refine aw_loop' (fun k : Nat => k ≤ l.length ∧ zall intEq l m = zall intEq (l.drop k) (m.drop k)) (fun k => ⟨[(13, iv k), (12, iv (l.map intR).length), (0, .list f 1 (l.map intR)), (1, .list g 1 (m.map intR))], [], []⟩) (fun k => l.length - k) 0 ⟨Nat.zero_le _, by simp⟩
      (ent_sub (.cons _ _ _ rfl (.cons _ _ _ rfl (.cons _ _ _ rfl (.cons _ _ _ rfl (.nil)))))) ?_
    rintro k ⟨hk, hz⟩
    refine rn ?_
    refine aw_cond rfl (fun hc14 => ?_) (fun hc14 => ?_)
    · have hk2 : k < l.length := by simpa using hc14
      have hk3 : k < m.length := by omega
      have hrow1 : (l.map intR)[k]? = some (intR l[k]) := by simp [hk2]
      have hrow2 : (m.map intR)[k]? = some (intR m[k]) := by simp [hk3]
      have hd1 := List.drop_eq_getElem_cons hk2
      have hd2 := List.drop_eq_getElem_cons hk3
      refine rn ?_
      refine aw_draw 8 rfl ?_
      refine rn ?_
      refine aw_cond rfl (fun hc24 => ?_) (fun hc24 => ?_)
      · refine rn ?_
        exact retq (.cons _ _ _ _ (.tmp _ _ rfl) .nil) (.refl _ _) ⟨rfl, by rw [eqF, hz, hd1, hd2, zall, show intEq l[k] m[k] = false from not_t hc24, Bool.false_and, Bool.and_false]; rfl⟩
      · refine rn ?_
        exact ⟨k + 1, ⟨by omega, by rw [hz, hd1, hd2, zall, show intEq l[k] m[k] = true from not_f hc24, Bool.true_and]⟩, (ent_sub (.cons _ _ _ rfl (.cons _ _ _ rfl (.cons _ _ _ rfl (.cons _ _ _ rfl (.nil)))))), by omega⟩
    · have hk3 : k = l.length := by
        have : l.length ≤ k := by simpa using hc14
        omega
      refine rn ?_
      exact retq (.cons _ _ _ _ (.tmp _ _ rfl) .nil) (.refl _ _) ⟨rfl, by rw [eqF, hz, hk3, List.drop_length, zall_nil, hlm, beq_self_eq_true]; rfl⟩
theorem refIs (n m : Int) : ACall Tryz.prog 42 [iv n, iv m] [] (fun r h' => h' = [] ∧ r = bv (isB n m)) := by
  refine acall_of_aw Tryz.func42 rfl rfl rfl ?_
  refine rn ?_
  refine asplit (fun hg1_2 => ?_) (fun hg1_2 => ?_)
  · refine rn ?_
    exact retq (.cons _ _ _ _ (.tmp _ _ rfl) .nil) (.refl _ _) ⟨rfl, congrArg bv (by first | (simp only [isB, *, Bool.true_and, Bool.false_and, Bool.and_false, Bool.and_true, Bool.true_or, Bool.or_false, Bool.false_or, Bool.or_true, if_true, if_false, Bool.false_eq_true, Bool.not_true, Bool.not_false]; done) | (simp_all [isB]; done) | (simp_all [isB] <;> omega))⟩
  · refine rn ?_
    exact retq (.cons _ _ _ _ (.tmp _ _ rfl) .nil) (.refl _ _) ⟨rfl, congrArg bv (by first | (simp only [isB, *, Bool.true_and, Bool.false_and, Bool.and_false, Bool.and_true, Bool.true_or, Bool.or_false, Bool.false_or, Bool.or_true, if_true, if_false, Bool.false_eq_true, Bool.not_true, Bool.not_false]; done) | (simp_all [isB]; done) | (simp_all [isB] <;> omega))⟩
theorem refVersion (v : Ver) (m : Int) : ACall Tryz.prog 195 [.agg (verR v), iv m] [] (fun r h' => h' = [] ∧ r = bv (rightVer v m)) := by
  refine acall_of_aw Tryz.func195 rfl rfl rfl ?_
  refine rn ?_
  refine aops_e rfl (oe_box rfl rfl rfl fun b2 => ?_)
  refine rn ?_
  refine asplit (fun hg1_3 => ?_) (fun hg1_3 => ?_)
  · refine rn ?_
    exact retq (.cons _ _ _ _ (.tmp _ _ rfl) .nil) (.drop [_] _ _) ⟨rfl, congrArg bv (by first | (simp only [rightVer, *, Bool.true_and, Bool.false_and, Bool.and_false, Bool.and_true, Bool.true_or, Bool.or_false, Bool.false_or, Bool.or_true, if_true, if_false, Bool.false_eq_true, Bool.not_true, Bool.not_false]; done) | (simp_all [rightVer]; done) | (simp_all [rightVer] <;> omega))⟩
  · refine rn ?_
    refine qv rfl rfl (qv_call rfl rfl (pcall (refIs _ _) (Sbs.refl _))) ?_
    refine rn ?_
    refine asplit (fun hg1_8 => ?_) (fun hg1_8 => ?_)
    · refine rn ?_
      refine asplit (fun hg1_13 => ?_) (fun hg1_13 => ?_)
      · refine rn ?_
        exact retq (.cons _ _ _ _ (.tmp _ _ rfl) .nil) (.drop [_] _ _) ⟨rfl, congrArg bv (by first | (simp only [rightVer, *, Bool.true_and, Bool.false_and, Bool.and_false, Bool.and_true, Bool.true_or, Bool.or_false, Bool.false_or, Bool.or_true, if_true, if_false, Bool.false_eq_true, Bool.not_true, Bool.not_false]; done) | (simp_all [rightVer]; done) | (simp_all [rightVer] <;> omega))⟩
      · refine rn ?_
        exact retq (.cons _ _ _ _ (.tmp _ _ rfl) .nil) (.drop [_] _ _) ⟨rfl, congrArg bv (by first | (simp only [rightVer, *, Bool.true_and, Bool.false_and, Bool.and_false, Bool.and_true, Bool.true_or, Bool.or_false, Bool.false_or, Bool.or_true, if_true, if_false, Bool.false_eq_true, Bool.not_true, Bool.not_false]; done) | (simp_all [rightVer]; done) | (simp_all [rightVer] <;> omega))⟩
    · refine rn ?_
      exact retq (.cons _ _ _ _ (.tmp _ _ rfl) .nil) (.drop [_] _ _) ⟨rfl, congrArg bv (by first | (simp only [rightVer, *, Bool.true_and, Bool.false_and, Bool.and_false, Bool.and_true, Bool.true_or, Bool.or_false, Bool.false_or, Bool.or_true, if_true, if_false, Bool.false_eq_true, Bool.not_true, Bool.not_false]; done) | (simp_all [rightVer]; done) | (simp_all [rightVer] <;> omega))⟩
theorem refEvent (a b : Ev) (ha : a.scan.length ≤ 4611686018427387904) (hb : b.scan.length ≤ 4611686018427387904) : ACall Tryz.prog 68 [.agg (evR a), .agg (evR b)] [] (fun r h' => h' = [] ∧ r = bv (evEq a b)) := by
  refine acall_of_aw Tryz.func68 rfl rfl rfl ?_
  refine rn ?_
  refine aops_e rfl (oe_box rfl rfl rfl fun b2 => ?_)
  refine aops_e rfl (oe_box rfl rfl rfl fun b3 => ?_)
  refine rn ?_
  refine asplit (fun hg1_5 => ?_) (fun hg1_5 => ?_)
  · refine rn ?_
    refine asplit (fun hg1_12 => ?_) (fun hg1_12 => ?_)
    · refine rn ?_
      refine asplit (fun hg1_19 => ?_) (fun hg1_19 => ?_)
      · refine rn ?_
        refine asplit (fun hg1_26 => ?_) (fun hg1_26 => ?_)
        · refine rn ?_
          refine asplit (fun hg1_33 => ?_) (fun hg1_33 => ?_)
          · refine rn ?_
            refine asplit (fun hg1_40 => ?_) (fun hg1_40 => ?_)
            · refine rn ?_
              refine asplit (fun hg1_47 => ?_) (fun hg1_47 => ?_)
              · refine rn ?_
                refine qv rfl rfl (qv_call rfl rfl (pcall (refScan _ _ ha hb) (Sbs.refl _))) ?_
                refine rn ?_
                exact retq (.cons _ _ _ _ (.tmp _ _ rfl) .nil) (.drop [_, _] _ _) ⟨rfl, congrArg bv (by first | (simp only [evEq, *, Bool.true_and, Bool.false_and, Bool.and_false, Bool.and_true, Bool.true_or, Bool.or_false, Bool.false_or, Bool.or_true, if_true, if_false, Bool.false_eq_true, Bool.not_true, Bool.not_false]; done) | (simp_all [evEq]; done) | (simp_all [evEq] <;> omega))⟩
              · refine rn ?_
                exact retq (.cons _ _ _ _ (.tmp _ _ rfl) .nil) (.drop [_, _] _ _) ⟨rfl, congrArg bv (by first | (simp only [evEq, *, Bool.true_and, Bool.false_and, Bool.and_false, Bool.and_true, Bool.true_or, Bool.or_false, Bool.false_or, Bool.or_true, if_true, if_false, Bool.false_eq_true, Bool.not_true, Bool.not_false]; done) | (simp_all [evEq]; done) | (simp_all [evEq] <;> omega))⟩
            · refine rn ?_
              exact retq (.cons _ _ _ _ (.tmp _ _ rfl) .nil) (.drop [_, _] _ _) ⟨rfl, congrArg bv (by first | (simp only [evEq, *, Bool.true_and, Bool.false_and, Bool.and_false, Bool.and_true, Bool.true_or, Bool.or_false, Bool.false_or, Bool.or_true, if_true, if_false, Bool.false_eq_true, Bool.not_true, Bool.not_false]; done) | (simp_all [evEq]; done) | (simp_all [evEq] <;> omega))⟩
          · refine rn ?_
            exact retq (.cons _ _ _ _ (.tmp _ _ rfl) .nil) (.drop [_, _] _ _) ⟨rfl, congrArg bv (by first | (simp only [evEq, *, Bool.true_and, Bool.false_and, Bool.and_false, Bool.and_true, Bool.true_or, Bool.or_false, Bool.false_or, Bool.or_true, if_true, if_false, Bool.false_eq_true, Bool.not_true, Bool.not_false]; done) | (simp_all [evEq]; done) | (simp_all [evEq] <;> omega))⟩
        · refine rn ?_
          exact retq (.cons _ _ _ _ (.tmp _ _ rfl) .nil) (.drop [_, _] _ _) ⟨rfl, congrArg bv (by first | (simp only [evEq, *, Bool.true_and, Bool.false_and, Bool.and_false, Bool.and_true, Bool.true_or, Bool.or_false, Bool.false_or, Bool.or_true, if_true, if_false, Bool.false_eq_true, Bool.not_true, Bool.not_false]; done) | (simp_all [evEq]; done) | (simp_all [evEq] <;> omega))⟩
      · refine rn ?_
        exact retq (.cons _ _ _ _ (.tmp _ _ rfl) .nil) (.drop [_, _] _ _) ⟨rfl, congrArg bv (by first | (simp only [evEq, *, Bool.true_and, Bool.false_and, Bool.and_false, Bool.and_true, Bool.true_or, Bool.or_false, Bool.false_or, Bool.or_true, if_true, if_false, Bool.false_eq_true, Bool.not_true, Bool.not_false]; done) | (simp_all [evEq]; done) | (simp_all [evEq] <;> omega))⟩
    · refine rn ?_
      exact retq (.cons _ _ _ _ (.tmp _ _ rfl) .nil) (.drop [_, _] _ _) ⟨rfl, congrArg bv (by first | (simp only [evEq, *, Bool.true_and, Bool.false_and, Bool.and_false, Bool.and_true, Bool.true_or, Bool.or_false, Bool.false_or, Bool.or_true, if_true, if_false, Bool.false_eq_true, Bool.not_true, Bool.not_false]; done) | (simp_all [evEq]; done) | (simp_all [evEq] <;> omega))⟩
  · refine rn ?_
    exact retq (.cons _ _ _ _ (.tmp _ _ rfl) .nil) (.drop [_, _] _ _) ⟨rfl, congrArg bv (by first | (simp only [evEq, *, Bool.true_and, Bool.false_and, Bool.and_false, Bool.and_true, Bool.true_or, Bool.or_false, Bool.false_or, Bool.or_true, if_true, if_false, Bool.false_eq_true, Bool.not_true, Bool.not_false]; done) | (simp_all [evEq]; done) | (simp_all [evEq] <;> omega))⟩
theorem refAt {f : Bool} (l : List Int) (n : Int) (hl : l.length ≤ 4611686018427387904) : ACall Tryz.prog 65 [.list f 1 (l.map intR), iv n] [] (fun r h' => h' = [] ∧ r = iv (atI n 0 l)) := by
  refine acall_of_aw Tryz.func65 rfl rfl rfl ?_
  refine rn ?_
  refine aw_loop' (fun k : Nat => k ≤ l.length ∧ atI n 0 l = atI n k (l.drop k)) (fun k => ⟨[(9, iv k), (8, iv (l.map intR).length), (7, .list f 1 (l.map intR)), (1, iv n)], [], []⟩) (fun k => l.length - k) 0 ⟨Nat.zero_le _, by simp⟩
    (ent_sub (.cons _ _ _ rfl (.cons _ _ _ rfl (.cons _ _ _ rfl (.cons _ _ _ rfl (.nil)))))) ?_
  rintro k ⟨hk, hz⟩
  refine rn ?_
  refine aw_cond rfl (fun hc10 => ?_) (fun hc10 => ?_)
  · have hk2 : k < l.length := by simpa using hc10
    have hrow : (l.map intR)[k]? = some (intR l[k]) := by simp [hk2]
    have hd := List.drop_eq_getElem_cons hk2
    refine rn ?_
    refine aw_cond rfl (fun hc16 => ?_) (fun hc16 => ?_)
    · have hx : l[k] = n := by simpa using hc16
      refine rn ?_
      exact retq (.cons _ _ _ _ (.tmp _ _ rfl) .nil) (.refl _ _) ⟨rfl, congrArg iv (by rw [hz, hd, atI, if_pos hx])⟩
    · have hx : ¬ l[k] = n := by simpa using hc16
      refine rn ?_
      exact ⟨k + 1, ⟨by omega, by rw [hz, hd, atI, if_neg hx]⟩, (ent_sub (.cons _ _ _ rfl (.cons _ _ _ rfl (.cons _ _ _ rfl (.cons _ _ _ rfl (.nil)))))), by omega⟩
  · have hk3 : k = l.length := by
      have : l.length ≤ k := by simpa using hc10
      omega
    refine rn ?_
    exact retq (.cons _ _ _ _ (.tmp _ _ rfl) .nil) (.refl _ _) ⟨rfl, congrArg iv (by rw [hz, hk3, List.drop_length]; rfl)⟩
end Go.Proofs
/- The walks of the references' tests. Conditions: none. -/
set_option linter.unusedVariables false
set_option linter.unusedSimpArgs false
set_option maxRecDepth 10000
namespace Go.Proofs
open Go Go.Ab
attribute [local irreducible] QR QV OE aops aw dsoup dsoupM dalloc dallocM thn inBlk
open Go.H
theorem ref9 (l : Int) : ACall Tryz.prog 116 [iv l] [] (fun r h' => h' = [] ∧ r = bv (right9 l)) := by
  refine acall_of_aw Tryz.func116 rfl rfl rfl ?_
  refine rn ?_
  refine asplit (fun hg1_2 => ?_) (fun hg1_2 => ?_)
  · refine rn ?_
    exact retq (.cons _ _ _ _ (.tmp _ _ rfl) .nil) (.refl _ _) ⟨rfl, congrArg bv (by first | (simp only [right9, *, Bool.true_and, Bool.false_and, Bool.and_false, Bool.and_true, Bool.true_or, Bool.or_false, Bool.false_or, Bool.or_true, if_true, if_false, Bool.false_eq_true, Bool.not_true, Bool.not_false]; done) | (simp_all [right9]; done) | (simp_all [right9] <;> omega))⟩
  · refine rn ?_
    exact retq (.cons _ _ _ _ (.tmp _ _ rfl) .nil) (.refl _ _) ⟨rfl, congrArg bv (by first | (simp only [right9, *, Bool.true_and, Bool.false_and, Bool.and_false, Bool.and_true, Bool.true_or, Bool.or_false, Bool.false_or, Bool.or_true, if_true, if_false, Bool.false_eq_true, Bool.not_true, Bool.not_false]; done) | (simp_all [right9]; done) | (simp_all [right9] <;> omega))⟩
theorem ref2Letter (c : Int) : ACall Tryz.prog 222 [.v (.int .i32 c)] [] (fun r h' => h' = [] ∧ r = bv (letB2 c)) := by
  refine acall_of_aw Tryz.func222 rfl rfl rfl ?_
  refine rn ?_
  refine asplit (fun hg1_2 => ?_) (fun hg1_2 => ?_)
  · refine rn ?_
    refine asplit (fun hg1_6 => ?_) (fun hg1_6 => ?_)
    · refine rn ?_
      exact retq (.cons _ _ _ _ (.tmp _ _ rfl) .nil) (.refl _ _) ⟨rfl, congrArg bv (by first | (simp only [letB2, *, Bool.true_and, Bool.false_and, Bool.and_false, Bool.and_true, Bool.true_or, Bool.or_false, Bool.false_or, Bool.or_true, if_true, if_false, Bool.false_eq_true, Bool.not_true, Bool.not_false]; done) | (simp_all [letB2]; done) | (simp_all [letB2] <;> omega))⟩
    · refine rn ?_
      refine asplit (fun hg1_9 => ?_) (fun hg1_9 => ?_)
      · refine rn ?_
        refine asplit (fun hg1_14 => ?_) (fun hg1_14 => ?_)
        · refine rn ?_
          exact retq (.cons _ _ _ _ (.tmp _ _ rfl) .nil) (.refl _ _) ⟨rfl, congrArg bv (by first | (simp only [letB2, *, Bool.true_and, Bool.false_and, Bool.and_false, Bool.and_true, Bool.true_or, Bool.or_false, Bool.false_or, Bool.or_true, if_true, if_false, Bool.false_eq_true, Bool.not_true, Bool.not_false]; done) | (simp_all [letB2]; done) | (simp_all [letB2] <;> omega))⟩
        · refine rn ?_
          refine asplit (fun hg1_18 => ?_) (fun hg1_18 => ?_)
          · refine rn ?_
            exact retq (.cons _ _ _ _ (.tmp _ _ rfl) .nil) (.refl _ _) ⟨rfl, congrArg bv (by first | (simp only [letB2, *, Bool.true_and, Bool.false_and, Bool.and_false, Bool.and_true, Bool.true_or, Bool.or_false, Bool.false_or, Bool.or_true, if_true, if_false, Bool.false_eq_true, Bool.not_true, Bool.not_false]; done) | (simp_all [letB2]; done) | (simp_all [letB2] <;> omega))⟩
          · refine rn ?_
            exact retq (.cons _ _ _ _ (.tmp _ _ rfl) .nil) (.refl _ _) ⟨rfl, congrArg bv (by first | (simp only [letB2, *, Bool.true_and, Bool.false_and, Bool.and_false, Bool.and_true, Bool.true_or, Bool.or_false, Bool.false_or, Bool.or_true, if_true, if_false, Bool.false_eq_true, Bool.not_true, Bool.not_false]; done) | (simp_all [letB2]; done) | (simp_all [letB2] <;> omega))⟩
      · refine rn ?_
        refine asplit (fun hg1_18 => ?_) (fun hg1_18 => ?_)
        · refine rn ?_
          exact retq (.cons _ _ _ _ (.tmp _ _ rfl) .nil) (.refl _ _) ⟨rfl, congrArg bv (by first | (simp only [letB2, *, Bool.true_and, Bool.false_and, Bool.and_false, Bool.and_true, Bool.true_or, Bool.or_false, Bool.false_or, Bool.or_true, if_true, if_false, Bool.false_eq_true, Bool.not_true, Bool.not_false]; done) | (simp_all [letB2]; done) | (simp_all [letB2] <;> omega))⟩
        · refine rn ?_
          exact retq (.cons _ _ _ _ (.tmp _ _ rfl) .nil) (.refl _ _) ⟨rfl, congrArg bv (by first | (simp only [letB2, *, Bool.true_and, Bool.false_and, Bool.and_false, Bool.and_true, Bool.true_or, Bool.or_false, Bool.false_or, Bool.or_true, if_true, if_false, Bool.false_eq_true, Bool.not_true, Bool.not_false]; done) | (simp_all [letB2]; done) | (simp_all [letB2] <;> omega))⟩
  · refine rn ?_
    refine asplit (fun hg1_9 => ?_) (fun hg1_9 => ?_)
    · refine rn ?_
      refine asplit (fun hg1_14 => ?_) (fun hg1_14 => ?_)
      · refine rn ?_
        exact retq (.cons _ _ _ _ (.tmp _ _ rfl) .nil) (.refl _ _) ⟨rfl, congrArg bv (by first | (simp only [letB2, *, Bool.true_and, Bool.false_and, Bool.and_false, Bool.and_true, Bool.true_or, Bool.or_false, Bool.false_or, Bool.or_true, if_true, if_false, Bool.false_eq_true, Bool.not_true, Bool.not_false]; done) | (simp_all [letB2]; done) | (simp_all [letB2] <;> omega))⟩
      · refine rn ?_
        refine asplit (fun hg1_18 => ?_) (fun hg1_18 => ?_)
        · refine rn ?_
          exact retq (.cons _ _ _ _ (.tmp _ _ rfl) .nil) (.refl _ _) ⟨rfl, congrArg bv (by first | (simp only [letB2, *, Bool.true_and, Bool.false_and, Bool.and_false, Bool.and_true, Bool.true_or, Bool.or_false, Bool.false_or, Bool.or_true, if_true, if_false, Bool.false_eq_true, Bool.not_true, Bool.not_false]; done) | (simp_all [letB2]; done) | (simp_all [letB2] <;> omega))⟩
        · refine rn ?_
          exact retq (.cons _ _ _ _ (.tmp _ _ rfl) .nil) (.refl _ _) ⟨rfl, congrArg bv (by first | (simp only [letB2, *, Bool.true_and, Bool.false_and, Bool.and_false, Bool.and_true, Bool.true_or, Bool.or_false, Bool.false_or, Bool.or_true, if_true, if_false, Bool.false_eq_true, Bool.not_true, Bool.not_false]; done) | (simp_all [letB2]; done) | (simp_all [letB2] <;> omega))⟩
    · refine rn ?_
      refine asplit (fun hg1_18 => ?_) (fun hg1_18 => ?_)
      · refine rn ?_
        exact retq (.cons _ _ _ _ (.tmp _ _ rfl) .nil) (.refl _ _) ⟨rfl, congrArg bv (by first | (simp only [letB2, *, Bool.true_and, Bool.false_and, Bool.and_false, Bool.and_true, Bool.true_or, Bool.or_false, Bool.false_or, Bool.or_true, if_true, if_false, Bool.false_eq_true, Bool.not_true, Bool.not_false]; done) | (simp_all [letB2]; done) | (simp_all [letB2] <;> omega))⟩
      · refine rn ?_
        exact retq (.cons _ _ _ _ (.tmp _ _ rfl) .nil) (.refl _ _) ⟨rfl, congrArg bv (by first | (simp only [letB2, *, Bool.true_and, Bool.false_and, Bool.and_false, Bool.and_true, Bool.true_or, Bool.or_false, Bool.false_or, Bool.or_true, if_true, if_false, Bool.false_eq_true, Bool.not_true, Bool.not_false]; done) | (simp_all [letB2]; done) | (simp_all [letB2] <;> omega))⟩
theorem ref2Digit (c : Int) : ACall Tryz.prog 223 [.v (.int .i32 c)] [] (fun r h' => h' = [] ∧ r = bv (numB c)) := by
  refine acall_of_aw Tryz.func223 rfl rfl rfl ?_
  refine rn ?_
  refine asplit (fun hg1_2 => ?_) (fun hg1_2 => ?_)
  · refine rn ?_
    exact retq (.cons _ _ _ _ (.tmp _ _ rfl) .nil) (.refl _ _) ⟨rfl, congrArg bv (by first | (simp only [numB, *, Bool.true_and, Bool.false_and, Bool.and_false, Bool.and_true, Bool.true_or, Bool.or_false, Bool.false_or, Bool.or_true, if_true, if_false, Bool.false_eq_true, Bool.not_true, Bool.not_false]; done) | (simp_all [numB]; done) | (simp_all [numB] <;> omega))⟩
  · refine rn ?_
    exact retq (.cons _ _ _ _ (.tmp _ _ rfl) .nil) (.refl _ _) ⟨rfl, congrArg bv (by first | (simp only [numB, *, Bool.true_and, Bool.false_and, Bool.and_false, Bool.and_true, Bool.true_or, Bool.or_false, Bool.false_or, Bool.or_true, if_true, if_false, Bool.false_eq_true, Bool.not_true, Bool.not_false]; done) | (simp_all [numB]; done) | (simp_all [numB] <;> omega))⟩
theorem refTs {f : Bool} (h : Hist) (l : List Int) (hl : l.length ≤ 4611686018427387904) : ACall Tryz.prog 165 [.agg (histC h), .list f 1 (l.map intR)] [] (fun r h' => h' = [] ∧ r = bv (rightTsB h l)) := by
  refine acall_of_aw Tryz.func165 rfl rfl rfl ?_
  refine rn ?_
  refine aops_e rfl (oe_box rfl rfl rfl fun b2 => ?_)
  refine rn ?_
  refine aw_loop' (fun k : Nat => k ≤ l.length ∧ l.all (fun t => isB t h.ts.length) = (l.drop k).all (fun t => isB t h.ts.length)) (fun k => ⟨[(9, iv k), (8, iv (l.map intR).length), (7, .list f 1 (l.map intR)), (1, .list f 1 (l.map intR)), (2, .v (.pointer (some ⟨b2, 0, none⟩)))], [.box b2 28 (histC h)], []⟩) (fun k => l.length - k) 0 ⟨Nat.zero_le _, by simp⟩
    (ent_sub (.cons _ _ _ rfl (.cons _ _ _ rfl (.cons _ _ _ rfl (.cons _ _ _ rfl (.cons _ _ _ rfl (.nil))))))) ?_
  rintro k ⟨hk, hz⟩
  refine rn ?_
  refine aw_cond rfl (fun hc10 => ?_) (fun hc10 => ?_)
  · have hk2 : k < l.length := by simpa using hc10
    have hrow : (l.map intR)[k]? = some (intR l[k]) := by simp [hk2]
    have hd := List.drop_eq_getElem_cons hk2
    refine rn ?_
    refine qv rfl rfl (qv_call rfl rfl (pcall (refIs _ _) (Sbs.refl _))) ?_
    refine rn ?_
    refine aw_cond rfl (fun hc18 => ?_) (fun hc18 => ?_)
    · have hx : isB l[k] h.ts.length = false := by simpa using hc18
      refine rn ?_
      exact retq (.cons _ _ _ _ (.tmp _ _ rfl) .nil) (.drop [_] _ _) ⟨rfl, congrArg bv (by rw [rightTsB, hz, hd, List.all_cons, hx, Bool.false_and]; rfl)⟩
    · have hx : isB l[k] h.ts.length = true := by simpa using hc18
      refine rn ?_
      exact ⟨k + 1, ⟨by omega, by rw [hz, hd, List.all_cons, hx, Bool.true_and]⟩, (ent_sub (.cons _ _ _ rfl (.cons _ _ _ rfl (.cons _ _ _ rfl (.cons _ _ _ rfl (.cons _ _ _ rfl (.nil))))))), by omega⟩
  · have hk3 : k = l.length := by
      have : l.length ≤ k := by simpa using hc10
      omega
    refine rn ?_
    exact retq (.cons _ _ _ _ (.tmp _ _ rfl) .nil) (.drop [_] _ _) ⟨rfl, congrArg bv (by rw [rightTsB, hz, hk3, List.drop_length]; simp)⟩
end Go.Proofs
/- A loop over so many places, with what it reckons. Conditions: none. -/
set_option linter.unusedVariables false
namespace Go.Ab
open Go
section
variable {P : Program} {ro : Option Nat} {nt : Nat} {c : Code} {Q : Exit → St → Prop} {t : Fr} {h : List Res} {ds : List Nat}
theorem aw_rngS {σ : Type} (n : Nat) (p : Nat → σ → Prop) (v : Nat → σ → Fr) (cs : Fr) (x0 : σ) (hp : p 0 x0)
    (round : ∀ k x, k ≤ n → p k x → aw P ro nt c (thn (fun s' => k < n ∧ ∃ x', p (k + 1) x' ∧ Ent nt s' ⟨v (k + 1) x' ++ cs, h, ds⟩) Q) ⟨v k x ++ cs, h, ds⟩)
    (hs : SubF t (v 0 x0 ++ cs) := by repeat (first | exact .nil | refine .cons _ _ _ rfl ?_)) : aw P ro nt (.loop c) Q ⟨t, h, ds⟩ :=
  aw_loop' (fun x : Nat × σ => x.1 ≤ n ∧ p x.1 x.2) (fun x => ⟨v x.1 x.2 ++ cs, h, ds⟩) (fun x => n - x.1) (0, x0) ⟨Nat.zero_le _, hp⟩ (ent_sub hs) fun x hk => aw_mono (fun e s' hq => by
    cases e with
    | normal =>
      obtain ⟨h1, x', h2, h3⟩ := hq
      exact ⟨(x.1 + 1, x'), ⟨h1, h2⟩, h3, by simp only; omega⟩
    | _ => exact hq) (round x.1 x.2 hk.1 hk.2)
end
end Go.Ab
/- The walks of package level, and of the reference 09's All. Conditions: none. -/
set_option linter.unusedVariables false
set_option linter.unusedSimpArgs false
set_option maxRecDepth 10000
namespace Go.Proofs
open Go Go.Ab
attribute [local irreducible] QR QV OE aops aw dsoup dsoupM dalloc dallocM thn inBlk jsoup jch lsoup
open Go.H
def rowL (l : List Int) : List AV := [intsA l]
def rowsC (rows : List (List Int)) : Int := if rows.all levsB = true then 0 else 190
theorem levB_or (l : Int) : levB l = 0 ∨ levB l = 190 := by unfold levB; split <;> simp
theorem lev_bad {rows : List (List Int)} {k j : Nat} (hk : k < rows.length) (hj : j < rows[k].length) (h : levB rows[k][j] ≠ 0) : levB rows[k][j] = rowsC rows := by
  have e : levB rows[k][j] = 190 := (levB_or _).resolve_left h
  rw [e, rowsC, if_neg]
  intro q
  have := List.all_eq_true.1 (List.all_eq_true.1 q _ (List.getElem_mem hk)) _ (List.getElem_mem hj)
  exact h (eq_of_beq this)
theorem lev_ok {rows : List (List Int)} (h : rows.all levsB = true) : (0 : Int) = rowsC rows := by rw [rowsC, if_pos h]
def eachC (a b : List Int) : Int := if (levsB a && levsB b) = true then (if a.length = b.length then 0 else 2) else 190
def eachL (d : Int → Int → Int) (a b : List Int) : List Int := if eachC a b = 0 then List.zipWith d a b else []
theorem rowsC_two (a b : List Int) : rowsC [a, b] = if (levsB a && levsB b) = true then 0 else 190 := by simp [rowsC]
theorem each_e {a b : List Int} (h : (rowsC [a, b] != 0) = true) : eachC a b = 190 := by
  rw [rowsC_two] at h; rw [eachC]
  split at h
  · simp at h
  · rename_i q; rw [if_neg q]
theorem each_b {a b : List Int} (h : (rowsC [a, b] != 0) = false) : (levsB a && levsB b) = true := by
  rw [rowsC_two] at h
  split at h
  · assumption
  · simp at h
theorem zw_s {d : Int → Int → Int} {a b : List Int} {k : Nat} (hk : k < a.length) (hl : k < b.length) : ((List.zipWith d a b).take (k + 1)).map intR = ((List.zipWith d a b).take k).map intR ++ [[iv (d a[k] b[k])]] := by
  rw [List.take_succ_eq_append_getElem (by simp; omega), List.map_append, List.getElem_zipWith]; rfl
theorem levCheck (l : Int) : ACall Tryz.prog 83 [iv l] [] (fun r h' => h' = [] ∧ r = iv (levB l)) := by
  refine acall_of_aw Tryz.func83 rfl rfl rfl ?_
  refine rn ?_
  refine asplit (fun hg1_2 => ?_) (fun hg1_2 => ?_)
  · refine rn ?_
    refine aw_ct rfl ?_
    refine rn ?_
    refine rq 0 ?_
    exact ⟨rfl, congrArg iv (by simp_all [levB])⟩
  · refine rn ?_
    refine aw_cond rfl (fun hc8 => ?_) (fun hc8 => ?_)
    · refine rn ?_
      refine rq 0 ?_
      exact ⟨rfl, congrArg iv (by simp_all [levB])⟩
    · refine rn ?_
      refine rq 0 ?_
      exact ⟨rfl, congrArg iv (by simp_all [levB])⟩
theorem levRows {f : Bool} (rows : List (List Int)) (hl : rows.length ≤ 4611686018427387904) (hl2 : ∀ l ∈ rows, l.length ≤ 4611686018427387904) : ACall Tryz.prog 123 [.list f 1 (rows.map rowL)] [] (fun r h' => h' = [] ∧ r = iv (rowsC rows)) := by
  refine acall_of_aw Tryz.func123 rfl rfl rfl ?_
  refine rn ?_
  refine aw_scope ?_
  refine rn ?_
  refine aw_rng (rows.length) (fun k : Nat => rows.all levsB = (rows.drop k).all levsB) (fun k => [(10, iv k), (3, iv 0)]) [(8, _), (9, _)] rfl ?_
  intro k lk zk
  refine rn ?_
  refine aw_cond rfl (fun hc11 => ?_) (fun hc11 => ?_)
  · have hk := ltMap hc11
    have rk := atRow (f := rowL) hk
    have hlk := hl2 _ (List.getElem_mem hk)
    refine rn ?_
    refine aw_rng (rows[k].length) (fun j : Nat => rows[k].all (fun x => levB x == 0) = (rows[k].drop j).all (fun x => levB x == 0)) (fun j => [(16, iv j), (3, iv 0)]) [(8, _), (9, _), (10, _), (14, _), (15, _)] rfl ?_
    intro j lj zj
    refine rn ?_
    refine aw_cond rfl (fun hc17 => ?_) (fun hc17 => ?_)
    · have hj := ltMap hc17
      have rj := atRow (f := intR) hj
      refine rn ?_
      refine qv rfl rfl (qv_call rfl rfl (pcall (levCheck _) (Sbs.refl _))) ?_
      refine rn ?_
      refine aw_cond rfl (fun hc23 => ?_) (fun hc23 => ?_)
      · refine rn ?_
        refine ⟨fun l h => (by cases h), ?_⟩
        refine rq 0 ?_
        exact ⟨rfl, congrArg iv (by first | exact lev_bad hk hj (by simpa using hc23) | exact lev_ok ak)⟩
      · refine rn ?_
        have h0 : levB rows[k][j] = 0 := by simpa using hc23
        exact ⟨hj, allT hj zj (by simpa using h0), by rw [h0]; exact eA⟩
    · have qj := geMap hc17 lj
      have aj := allE qj zj
      refine rn ?_
      exact ⟨hk, allT hk zk (by rw [levsB]; exact aj), eA⟩
  · have qk := geMap hc11 lk
    have ak := allE qk zk
    refine rn ?_
    refine ⟨fun l h => (by cases h), ?_⟩
    refine rq 0 ?_
    exact ⟨rfl, congrArg iv (by first | exact lev_bad hk hj (by simpa using hc23) | exact lev_ok ak)⟩
theorem levEach (a b : List Int) (ha : a.length ≤ 1000000) (hb : b.length ≤ 1000000) (fv : AV) (d : Int → Int → Int) (W : List Res) (hd : ∀ x y, FCall Tryz.prog fv [iv x, iv y] W (fun r h' => h' = W ∧ r = iv (d x y))) : ACall Tryz.prog 81 [fv, intsA a, intsA b] W (fun r h' => ∃ s : SV, h' = .row s.v 1 3 ((eachL d a b).map intR) :: W ∧ r = .tup [.v s.v, iv (eachC a b)]) := by
  refine acall_of_aw Tryz.func81 rfl rfl rfl ?_
  refine rn ?_
  refine qv rfl rfl (qv_buildSlice rfl rfl) ?_
  refine qv rfl rfl (qv_call rfl rfl (pcall (levRows [a, b] (by show 2 ≤ _; decide) (by intro l hl; simp at hl; rcases hl with rfl | rfl <;> omega)) (Sbs.refl _))) ?_
  refine rn ?_
  refine aw_cond rfl (fun hc11 => ?_) (fun hc11 => ?_)
  · have he := each_e hc11
    refine rn ?_
    exact retq (.cons _ _ _ _ (.tmp _ _ rfl) (.cons _ _ _ _ (.tmp _ _ rfl) .nil)) (vent_nilrow 1 3 _) ⟨⟨none, 0, 0⟩, by rw [eachL, he, if_neg (by decide)]; rfl, by rw [he]; rfl⟩
  · have hb2 := each_b hc11
    refine rn ?_
    refine aw_cond rfl (fun hc17 => ?_) (fun hc17 => ?_)
    · have he : eachC a b = 2 := by rw [eachC, if_pos hb2, if_neg (by simp at hc17; omega)]
      refine rn ?_
      exact retq (.cons _ _ _ _ (.tmp _ _ rfl) (.cons _ _ _ _ (.tmp _ _ rfl) .nil)) (vent_nilrow 1 3 _) ⟨⟨none, 0, 0⟩, by rw [eachL, he, if_neg (by decide)]; rfl, by rw [he]; rfl⟩
    · have hn : a.length = b.length := by simp at hc17; omega
      have he : eachC a b = 0 := by rw [eachC, if_pos hb2, if_pos hn]
      refine rn ?_
      refine aw_rng1 a.length (fun k s => ⟨[(25, iv k), (8, .v s.v), (0, fv), (2, intsA b), (23, intsA a), (24, iv (a.map intR).length)], .row s.v 1 3 (((List.zipWith d a b).take k).map intR) :: W, []⟩) ⟨none, 0, 0⟩ (ent_trans (ent_nilrow 1 3) es) ?_
      intro k s lk
      refine rn ?_
      refine aw_cond rfl (fun hc26 => ?_) (fun hc26 => ?_)
      · have hk := ltMap hc26
        have rk := atRow (f := intR) hk
        have hkb : k < b.length := by omega
        have rb := atRow (f := intR) hkb
        refine rn ?_
        refine aops_e rfl (oe_call rfl rfl (FCall.fr1 (hd _ _)) rfl ?_)
        rintro _ _ ⟨_, rfl, rfl, rfl⟩
        refine qv rfl rfl (qv_buildSlice rfl rfl) ?_
        refine aops_e rfl (oe_append_row rfl rfl (by simp only [List.length_map, List.length_cons, List.length_nil]; have := List.length_take_le k (List.zipWith d a b); omega) rfl (fun s39 => ?_) (one_int [d a[k] b[k]]))
        refine aops_slice s39 fun sv hsv => ?_
        subst hsv
        refine rn ?_
        exact ⟨hk, sv, by rw [zw_s hk hkb]; exact eA⟩
      · have qk := geMap hc26 lk
        refine rn ?_
        exact retq (.cons _ _ _ _ (.tmp _ _ rfl) (.cons _ _ _ _ (.tmp _ _ rfl) .nil)) (.refl _ _) ⟨s, by rw [eachL, if_pos he, qk, List.take_of_length_le (by simp; omega)], by rw [he]; rfl⟩
theorem levMax (a b : Int) : ACall Tryz.prog 82 [iv a, iv b] [] (fun r h' => h' = [] ∧ r = iv (max a b)) := by
  refine acall_of_aw Tryz.func82 rfl rfl rfl ?_
  refine rn ?_
  refine rq 0 ?_
  exact ⟨rfl, rfl⟩
theorem levJoinR (a b : List Int) (ha : a.length ≤ 1000000) (hb : b.length ≤ 1000000) : ACall Tryz.prog 29 [intsA a, intsA b] [] (fun r h' => ∃ s : SV, h' = [.row s.v 1 3 ((eachL max a b).map intR)] ∧ r = .tup [.v s.v, iv (eachC a b)]) := by
  refine acall_of_aw Tryz.func29 rfl rfl rfl ?_
  refine rn ?_
  refine aops_e rfl (oe_call rfl rfl (FCall.of_fun (levEach a b ha hb _ max _ (fun x y => FCall.of_fun (levMax x y)))) rfl ?_)
  rintro _ _ ⟨s, rfl, rfl⟩
  refine rn ?_
  exact retq (.cons _ _ _ _ (.tmp _ _ rfl) (.cons _ _ _ _ (.tmp _ _ rfl) .nil)) (.refl _ _) ⟨s, rfl, rfl⟩
theorem levJoin (a b : List Int) (ha : a.length ≤ 1000000) (hb : b.length ≤ 1000000) : ACall Tryz.prog 29 [intsA a, intsA b] [] (fun r h' => h' = [] ∧ r = .tup [intsA (eachL max a b), iv (eachC a b)]) :=
  (levJoinR a b ha hb).ventR (by rintro _ _ ⟨s, rfl, rfl⟩; exact ⟨_, _, vent_freeze_tup [] [_], rfl, rfl⟩)
theorem ref9All (l : List Int) (hl : l.length ≤ 4611686018427387904) : ACall Tryz.prog 63 [intsA l] [] (fun r h' => h' = [] ∧ r = bv (levsB l)) := by
  refine acall_of_aw Tryz.func63 rfl rfl rfl ?_
  refine rn ?_
  refine aw_rng (l.length) (fun k : Nat => l.all (fun x => levB x == 0) = (l.drop k).all (fun x => levB x == 0)) (fun k => [(7, iv k)]) [(5, _), (6, _)] rfl ?_
  intro k lk zk
  refine rn ?_
  refine aw_cond rfl (fun hc8 => ?_) (fun hc8 => ?_)
  · have hk := ltMap hc8
    have rk := atRow (f := intR) hk
    refine rn ?_
    refine qv rfl rfl (qv_call rfl rfl (pcall (ref9 _) (Sbs.refl _))) ?_
    refine rn ?_
    refine aw_cond rfl (fun hc13 => ?_) (fun hc13 => ?_)
    · refine rn ?_
      refine rq 0 ?_
      exact ⟨rfl, congrArg bv (by rw [levsB, allF hk (by rw [← lev_eq]; simpa using hc13)])⟩
    · refine rn ?_
      exact ⟨hk, allT hk zk (by rw [← lev_eq]; simpa using hc13), eA⟩
  · have qk := geMap hc8 lk
    have ak := allE qk zk
    refine rn ?_
    refine rq 0 ?_
    exact ⟨rfl, congrArg bv (by rw [levsB, ak])⟩
end Go.Proofs
/- A loop over so many places with a state of its own; an append behind what was cut off. Conditions: none. -/
set_option linter.unusedVariables false
namespace Go.Ab
open Go
section
variable {P : Program} {ro : Option Nat} {nt : Nat} {c : Code} {Q : Exit → St → Prop} {t : Fr} {h : List Res} {ds : List Nat}
theorem aw_rngX {σ : Type} (n : Nat) (p : Nat → σ → Prop) (inv : Nat → σ → St) (x0 : σ) (hp : p 0 x0) (h0 : Ent nt ⟨t, h, ds⟩ (inv 0 x0))
    (round : ∀ k x, k ≤ n → p k x → aw P ro nt c (thn (fun s' => k < n ∧ ∃ x', p (k + 1) x' ∧ Ent nt s' (inv (k + 1) x')) Q) (inv k x)) : aw P ro nt (.loop c) Q ⟨t, h, ds⟩ :=
  aw_loop' (fun x : Nat × σ => x.1 ≤ n ∧ p x.1 x.2) (fun x => inv x.1 x.2) (fun x => n - x.1) (0, x0) ⟨Nat.zero_le _, hp⟩ h0 fun x hk => aw_mono (fun e s' hq => by
    cases e with
    | normal =>
      obtain ⟨h1, x', h2, h3⟩ := hq
      exact ⟨(x.1 + 1, x'), ⟨h1, h2⟩, h3, by simp only; omega⟩
    | _ => exact hq) (round x.1 x.2 hk.1 hk.2)
end
end Go.Ab
/- The walks of the index's Check and events. Conditions: none. -/
set_option linter.unusedVariables false
set_option linter.unusedSimpArgs false
set_option maxRecDepth 10000
namespace Go.Proofs
open Go Go.Ab
attribute [local irreducible] QR QV OE aops aw dsoup dsoupM dalloc dallocM thn inBlk jsoup jch lsoup
open Go.H
theorem ixCheck (h : Hist) (la : Lim 4611686018427387904 h) : ACall Tryz.prog 50 [.agg (histC h)] [.glob 0 186 limitsC, .glob 2 287 firstC, .glob 3 290 acceptC, .glob 1 250 asksC] (fun r h' => h' = [.glob 0 186 limitsC, .glob 2 287 firstC, .glob 3 290 acceptC, .glob 1 250 asksC] ∧ r = iv (checkI h)) := by
  refine acall_of_aw Tryz.func50 rfl rfl rfl ?_
  refine rn ?_
  refine aops_e rfl (oe_box rfl rfl rfl fun b1 => ?_)
  refine rn ?_
  refine qv rfl rfl (qv_call rfl rfl (FCall.qt (FCall.of_fun (check h la)) ((pt1 _ _ _).trans (.cons _ ((pt1 _ _ _).trans (.cons _ (pt1 _ _ _))))))) ?_
  refine rn ?_
  refine aw_cond rfl (fun hc7 => ?_) (fun hc7 => ?_)
  · have hm : ¬ mayB h = true := by intro q; rw [checkE, if_pos q] at hc7; cases hc7
    have he : checkE h = 210 := by rw [checkE, if_neg hm]
    refine rn ?_
    refine rq 1 ?_
    exact ⟨rfl, by rw [checkI, if_neg hm, he]; rfl⟩
  · have hm : mayB h = true := check_0.1 (by simpa using hc7)
    refine rn ?_
    refine qv rfl rfl (qv_call rfl rfl (FCall.qt (FCall.of_fun (rSound h la)) ((pt1 _ _ _).trans (.cons _ ((pt1 _ _ _).trans (.cons _ ((pt1 _ _ _).trans (.cons _ (pt1 _ _ _))))))))) ?_
    refine rn ?_
    refine aw_cond rfl (fun hc11 => ?_) (fun hc11 => ?_)
    · refine rn ?_
      refine rq 1 ?_
      exact ⟨rfl, by rw [checkI, if_pos hm]; simp_all; rfl⟩
    · refine rn ?_
      refine rq 1 ?_
      exact ⟨rfl, by rw [checkI, if_pos hm]; simp_all; rfl⟩
theorem ixEvents (h : Hist) (kd : Int) (W : List Res) : ACall Tryz.prog 119 [.agg (histC h), iv kd] W (fun r h' => ∃ b1 b2, h' = .box b1 28 (histC h) :: .box b2 3 [iv kd] :: W ∧ r = .fn (.func 148) [] [.v (.pointer (some ⟨b1, 0, none⟩)), .v (.pointer (some ⟨b2, 0, none⟩))]) := by
  refine acall_of_aw Tryz.func119 rfl rfl rfl ?_
  refine rn ?_
  refine aops_e rfl (oe_box rfl rfl rfl fun b2 => ?_)
  refine aops_e rfl (oe_box rfl rfl rfl fun b3 => ?_)
  refine rn ?_
  exact retq (.cons _ _ _ _ (.tmp _ _ rfl) .nil) (.perm (pt1 _ _ _) _) ⟨_, _, rfl, rfl⟩
set_option maxHeartbeats 4000000 in
theorem ixEvents1 {σ : Type} (h : Hist) (la : h.evs.length ≤ 1000000) (kd : Int) (y : AV) (b1 b2 : Nat) (p q : Nat → σ → Prop) (I F : Nat → σ → List Res) (x0 : σ) (hp0 : p 0 x0) (hy : ∀ k x, (hk : k < h.evs.length) → p k x → (h.evs[k].kind == kd) = true → FCall Tryz.prog y [iv k, .agg (evR h.evs[k])] (.box b1 28 (histC h) :: .box b2 3 [iv kd] :: I k x) (fun r h' => ∃ x', (r = bv true ∧ p (k + 1) x' ∧ h' = .box b1 28 (histC h) :: .box b2 3 [iv kd] :: I (k + 1) x') ∨ (r = bv false ∧ q k x' ∧ h' = .box b1 28 (histC h) :: .box b2 3 [iv kd] :: F k x'))) (hs : ∀ k x, (hk : k < h.evs.length) → p k x → (h.evs[k].kind == kd) = false → ∃ x', p (k + 1) x' ∧ I (k + 1) x' = I k x) : ACall Tryz.prog 148 [y, .v (.pointer (some ⟨b1, 0, none⟩)), .v (.pointer (some ⟨b2, 0, none⟩))] (.box b1 28 (histC h) :: .box b2 3 [iv kd] :: I 0 x0) (fun r h' => (∃ x, p h.evs.length x ∧ h' = I h.evs.length x) ∨ ∃ k x, q k x ∧ h' = F k x) := by
  refine acall_of_aw Tryz.func148 rfl rfl rfl ?_
  refine rn ?_
  refine aw_rngX h.evs.length p (fun k x => ⟨[(9, iv k), (0, y), (2, .v (.pointer (some ⟨b2, 0, none⟩))), (7, evsA h.evs), (8, iv (h.evs.map evR).length)], .box b1 28 (histC h) :: .box b2 3 [iv kd] :: I k x, []⟩) x0 hp0 es ?_
  intro k x lk zk
  refine rn ?_
  refine aw_cond rfl (fun hc10 => ?_) (fun hc10 => ?_)
  · have hk := ltMap hc10
    have rk := atRow (f := evR) hk
    refine rn ?_
    refine aops_e rfl (oe_alloc rfl fun b5 => ?_)
    refine rn ?_
    refine asplit (fun hg3_4 => ?_) (fun hg3_4 => ?_)
    · refine q1 ?_
      refine q1 ?_
      refine q1 ?_
      refine aops_e rfl (oe_call rfl rfl (FCall.fr1 (hy k x hk zk (by simpa using hg3_4))) rfl ?_)
      rintro _ _ ⟨_, rfl, x', ⟨rfl, hp, rfl⟩ | ⟨rfl, hq, rfl⟩⟩
      · refine rn ?_
        refine aw_cond rfl (fun hc24 => ?_) (fun hc24 => ?_)
        · first | cases hc24 | exact absurd hc24 (by decide) | (exfalso; simp_all; done)
        · refine rn ?_
          exact ⟨hk, x', hp, eA⟩
      · refine rn ?_
        refine aw_cond rfl (fun hc24 => ?_) (fun hc24 => ?_)
        · refine rn ?_
          exact retq .nil (.drop [_, _, _] _ _) (.inr ⟨k, x', hq, rfl⟩)
        · first | cases hc24 | exact absurd hc24 (by decide) | (exfalso; simp_all; done)
    · refine rn ?_
      refine aw_cf rfl ?_
      refine rn ?_
      obtain ⟨x', hp, e⟩ := hs k x hk zk (by simpa using hg3_4)
      exact ⟨hk, x', hp, by rw [e]; exact eA⟩
  · have qk := geMap hc10 lk
    subst qk
    refine rn ?_
    exact retq_n .nil (.drop [_, _] _ _) (.inl ⟨x, zk, rfl⟩)
end Go.Proofs
/- The walks of the index's gather. Conditions: none. -/
set_option linter.unusedVariables false
set_option linter.unusedSimpArgs false
set_option maxRecDepth 10000
namespace Go.Proofs
open Go Go.Ab
attribute [local irreducible] QR QV OE aops aw dsoup dsoupM dalloc dallocM thn inBlk jsoup jch lsoup
open Go.H
def gatF {α : Type} (kd : Int) (x : Nat → Ev → α) (p : Nat → Ev → Bool) (k : Nat) (e : Ev) : Option α := if (e.kind == kd && p k e) = true then some (x k e) else none
theorem gatF_k {α : Type} {kd : Int} {x : Nat → Ev → α} {p : Nat → Ev → Bool} {k : Nat} {e : Ev} (h : (e.kind == kd) = false) : gatF kd x p k e = none := by rw [gatF, h]; simp
theorem gatF_n {α : Type} {kd : Int} {x : Nat → Ev → α} {p : Nat → Ev → Bool} {k : Nat} {e : Ev} (h : p k e = false) : gatF kd x p k e = none := by rw [gatF, h]; simp
theorem gatF_y {α : Type} {kd : Int} {x : Nat → Ev → α} {p : Nat → Ev → Bool} {k : Nat} {e : Ev} (h1 : (e.kind == kd) = true) (h : p k e = true) : gatF kd x p k e = some (x k e) := by rw [gatF, h1, h]; simp
theorem gatK_n {α : Type} {f : Nat → Ev → Option α} {l : List Ev} {k : Nat} (h : k < l.length) (hf : f k l[k] = none) : gatK f l (k + 1) = gatK f l k := by rw [gatK_s h, hf]; simp
theorem gatK_y {α : Type} {f : Nat → Ev → Option α} {l : List Ev} {k : Nat} {a : α} (h : k < l.length) (hf : f k l[k] = some a) : gatK f l (k + 1) = gatK f l k ++ [a] := by rw [gatK_s h, hf]; rfl
def fndR (f : Ver × Nat) : List AV := [iv f.1.t, iv f.1.k, iv f.2]
theorem one_fnd (l : List (Ver × Nat)) : ∀ r ∈ l.map fndR, r.all AV.one = true := by
  intro r hr; obtain ⟨a, _, rfl⟩ := List.mem_map.1 hr; rfl
set_option maxHeartbeats 4000000 in
theorem ixGatI (h : Hist) (la : h.evs.length ≤ 1000000) (kd : Int) (fv : AV) (hone : fv.cellsOf = some [fv]) (W : List Res) (x : Nat → Ev → Int) (p : Nat → Ev → Bool) (hp : ∀ k, (hk : k < h.evs.length) → (h.evs[k].kind == kd) = true → FCall Tryz.prog fv [iv k, .agg (evR h.evs[k])] W (fun r h' => h' = W ∧ r = .tup [iv (x k h.evs[k]), bv (p k h.evs[k])])) : ACall Tryz.prog 73 [.agg (histC h), iv kd, fv] W (fun r h' => ∃ s : SV, h' = .row s.v 1 3 ((gatK (gatF kd x p) h.evs h.evs.length).map intR) :: W ∧ r = .v s.v) := by
  refine acall_of_aw Tryz.func73 rfl rfl rfl ?_
  refine rn ?_
  refine aops_e rfl (oe_box rfl rfl rfl fun b3 => ?_)
  refine aops_e rfl (oe_box rfl hone rfl fun b5 => ?_)
  refine rn ?_
  refine aops_e rfl (oe_alloc rfl fun b7 => ?_)
  refine rn ?_
  refine aops_e rfl (oe_call rfl rfl (FCall.of_fun (ixEvents h kd _)) rfl ?_)
  rintro _ _ ⟨b1, b2, rfl, rfl⟩
  refine rn ?_
  refine aw_ent (s' := ⟨[(14, .fn (.func 148) [] [.v (.pointer (some ⟨b1, 0, none⟩)), .v (.pointer (some ⟨b2, 0, none⟩))]), (5, .v (.pointer (some ⟨b5, 0, none⟩))), (7, .v (.pointer (some ⟨b7, 0, none⟩)))], .box b1 28 (histC h) :: .box b2 3 [iv kd] :: .box b7 29 [.v (⟨none, 0, 0⟩ : SV).v] :: .row (⟨none, 0, 0⟩ : SV).v 1 3 ((gatK (gatF kd x p) h.evs 0).map intR) :: .box b5 122 [fv] :: .box b3 28 (histC h) :: W, []⟩) (ent_trans (ent_trans (ent_nilrow 1 3) (ent_perm ((pt1 _ _ _).trans (.cons _ ((pt1 _ _ _).trans (.cons _ (pt1 _ _ _))))))) es) ?_
  refine aw_rf (fun pend h'' => pend = none ∧ ∃ s : SV, h'' = .box b7 29 [.v s.v] :: .row s.v 1 3 ((gatK (gatF kd x p) h.evs h.evs.length).map intR) :: .box b5 122 [fv] :: .box b3 28 (histC h) :: W) rfl (fun fn l q lp hlp => ?_) (fun q h'' hK => ?_) (fun q h'' c hK => ?_)
  · suffices hy : ∀ k (s : SV), (hk : k < h.evs.length) → True → (h.evs[k].kind == kd) = true → FCall Tryz.prog (yv l) [iv k, .agg (evR h.evs[k])] (.box b1 28 (histC h) :: .box b2 3 [iv kd] :: lp .ready none :: .defs q :: .box b7 29 [.v s.v] :: .row s.v 1 3 ((gatK (gatF kd x p) h.evs k).map intR) :: .box b5 122 [fv] :: .box b3 28 (histC h) :: W) (fun r h' => ∃ s' : SV, (r = bv true ∧ True ∧ h' = .box b1 28 (histC h) :: .box b2 3 [iv kd] :: lp .ready none :: .defs q :: .box b7 29 [.v s'.v] :: .row s'.v 1 3 ((gatK (gatF kd x p) h.evs (k + 1)).map intR) :: .box b5 122 [fv] :: .box b3 28 (histC h) :: W) ∨ (r = bv false ∧ False ∧ h' = .box b1 28 (histC h) :: .box b2 3 [iv kd] :: [])) by
      refine ACall.mono (ACall.perm ((pt2 _ _ _ _).trans (.cons _ (pt2 _ _ _ _))) (ixEvents1 h la kd (yv l) b1 b2 (fun _ _ => True) (fun _ _ => False) (fun k (s : SV) => lp .ready none :: .defs q :: .box b7 29 [.v s.v] :: .row s.v 1 3 ((gatK (gatF kd x p) h.evs k).map intR) :: .box b5 122 [fv] :: .box b3 28 (histC h) :: W) (fun _ _ => []) ⟨none, 0, 0⟩ trivial hy (fun k s hk _ hn => ⟨s, trivial, by rw [gatK_n hk (gatF_k hn)]⟩))) ?_
      rintro _ _ (⟨s, _, rfl⟩ | ⟨_, _, hF, _⟩)
      · exact ⟨none, .ready, _, .refl _, by simp, rfl, s, rfl⟩
      · exact hF.elim
    intro k s hk _ hkd
    refine FCall.perm (pt2 _ _ _ _) (FCall.ventE ?_)
    refine fcall_yl2 hlp rfl rfl ?_
    refine rn ?_
    refine aops_e rfl (oe_alloc rfl fun b9 => ?_)
    refine rn ?_
    refine ⟨[(8, iv k), (9, .v (.pointer (some ⟨b9, 0, none⟩))), (5, .v (.pointer (some ⟨b5, 0, none⟩))), (7, .v (.pointer (some ⟨b7, 0, none⟩)))], .box b9 56 (evR h.evs[k]) :: .box b1 28 (histC h) :: .box b2 3 [iv kd] :: .defs q :: .box b7 29 [.v s.v] :: .row s.v 1 3 ((gatK (gatF kd x p) h.evs k).map intR) :: .box b5 122 [fv] :: .box b3 28 (histC h) :: W, ent_trans (ent_perm (pt1 _ _ _)) es, ?_⟩
    refine rn ?_
    refine qv rfl rfl (qv_call rfl rfl (FCall.qt (h2 := [_, _, _, _, _, _, _, _, _]) (hp k hk hkd) (perm_swap [_, _, _, _, _, _, _, _, _] _))) ?_
    refine rn ?_
    refine aw_cond rfl (fun hc24 => ?_) (fun hc24 => ?_)
    · refine aw_region ?_
      refine q1 ?_
      refine q1 ?_
      refine q1 ?_
      refine q1 ?_
      refine q1 ?_
      refine qq rfl rfl (qr_cut_row rfl (by rfl) (by rfl)) ?_
      refine rn ?_
      refine qv rfl rfl (qv_buildSlice rfl rfl) ?_
      refine aops_cut s.v ?_
      refine aops_e rfl (oe_append_row rfl rfl (by simp only [List.length_map, List.length_cons, List.length_nil]; have := gatK_len (gatF kd x p) h.evs k; omega) rfl (fun s33 => ?_) (one_int [x k h.evs[k]]))
      refine aops_slice s33 fun sv hsv => ?_
      subst hsv
      refine rn ?_
      exact round_n (.refl _) ⟨_, _, .trans (.perm ((pt1 _ _ _).trans (.cons _ ((pt1 _ _ _).trans (.cons _ (pt1 _ _ _))))) _) (.drop [_] _ _), sv, .inl ⟨rfl, trivial, by rw [gatK_y hk (gatF_y hkd hc24), List.map_append]; rfl⟩⟩
    · refine rn ?_
      exact round_n (.refl _) ⟨_, _, .trans (.perm ((pt1 _ _ _).trans (.cons _ ((pt1 _ _ _).trans (.cons _ (pt1 _ _ _))))) _) (.drop [_] _ _), s, .inl ⟨rfl, trivial, by rw [gatK_n hk (gatF_n hc24)]⟩⟩
  · obtain ⟨_, s, rfl⟩ := hK
    refine rn ?_
    exact retqd (.refl _) (.cons _ _ _ _ (.tmp _ _ rfl) .nil) (.trans (.drop1 _ _ _) (.trans (.perm (pt1 _ _ _) _) (.trans (.drop [_] _ _) (.trans (.perm (pt1 _ _ _) _) (.drop [_] _ _))))) ⟨s, rfl, rfl⟩
  · obtain ⟨hc, _⟩ := hK
    exact absurd hc (by simp)
set_option maxHeartbeats 4000000 in
theorem ixGatF (h : Hist) (la : h.evs.length ≤ 1000000) (kd : Int) (fv : AV) (hone : fv.cellsOf = some [fv]) (W : List Res) (x : Nat → Ev → Ver × Nat) (p : Nat → Ev → Bool) (hp : ∀ k, (hk : k < h.evs.length) → (h.evs[k].kind == kd) = true → FCall Tryz.prog fv [iv k, .agg (evR h.evs[k])] W (fun r h' => h' = W ∧ r = .tup [.agg (fndR (x k h.evs[k])), bv (p k h.evs[k])])) : ACall Tryz.prog 159 [.agg (histC h), iv kd, fv] W (fun r h' => ∃ s : SV, h' = .row s.v 3 128 ((gatK (gatF kd x p) h.evs h.evs.length).map fndR) :: W ∧ r = .v s.v) := by
  refine acall_of_aw Tryz.func159 rfl rfl rfl ?_
  refine rn ?_
  refine aops_e rfl (oe_box rfl rfl rfl fun b3 => ?_)
  refine aops_e rfl (oe_box rfl hone rfl fun b5 => ?_)
  refine rn ?_
  refine aops_e rfl (oe_alloc rfl fun b7 => ?_)
  refine rn ?_
  refine aops_e rfl (oe_call rfl rfl (FCall.of_fun (ixEvents h kd _)) rfl ?_)
  rintro _ _ ⟨b1, b2, rfl, rfl⟩
  refine rn ?_
  refine aw_ent (s' := ⟨[(14, .fn (.func 148) [] [.v (.pointer (some ⟨b1, 0, none⟩)), .v (.pointer (some ⟨b2, 0, none⟩))]), (5, .v (.pointer (some ⟨b5, 0, none⟩))), (7, .v (.pointer (some ⟨b7, 0, none⟩)))], .box b1 28 (histC h) :: .box b2 3 [iv kd] :: .box b7 179 [.v (⟨none, 0, 0⟩ : SV).v] :: .row (⟨none, 0, 0⟩ : SV).v 3 128 ((gatK (gatF kd x p) h.evs 0).map fndR) :: .box b5 221 [fv] :: .box b3 28 (histC h) :: W, []⟩) (ent_trans (ent_trans (ent_nilrow 3 128) (ent_perm ((pt1 _ _ _).trans (.cons _ ((pt1 _ _ _).trans (.cons _ (pt1 _ _ _))))))) es) ?_
  refine aw_rf (fun pend h'' => pend = none ∧ ∃ s : SV, h'' = .box b7 179 [.v s.v] :: .row s.v 3 128 ((gatK (gatF kd x p) h.evs h.evs.length).map fndR) :: .box b5 221 [fv] :: .box b3 28 (histC h) :: W) rfl (fun fn l q lp hlp => ?_) (fun q h'' hK => ?_) (fun q h'' c hK => ?_)
  · suffices hy : ∀ k (s : SV), (hk : k < h.evs.length) → True → (h.evs[k].kind == kd) = true → FCall Tryz.prog (yv l) [iv k, .agg (evR h.evs[k])] (.box b1 28 (histC h) :: .box b2 3 [iv kd] :: lp .ready none :: .defs q :: .box b7 179 [.v s.v] :: .row s.v 3 128 ((gatK (gatF kd x p) h.evs k).map fndR) :: .box b5 221 [fv] :: .box b3 28 (histC h) :: W) (fun r h' => ∃ s' : SV, (r = bv true ∧ True ∧ h' = .box b1 28 (histC h) :: .box b2 3 [iv kd] :: lp .ready none :: .defs q :: .box b7 179 [.v s'.v] :: .row s'.v 3 128 ((gatK (gatF kd x p) h.evs (k + 1)).map fndR) :: .box b5 221 [fv] :: .box b3 28 (histC h) :: W) ∨ (r = bv false ∧ False ∧ h' = .box b1 28 (histC h) :: .box b2 3 [iv kd] :: [])) by
      refine ACall.mono (ACall.perm ((pt2 _ _ _ _).trans (.cons _ (pt2 _ _ _ _))) (ixEvents1 h la kd (yv l) b1 b2 (fun _ _ => True) (fun _ _ => False) (fun k (s : SV) => lp .ready none :: .defs q :: .box b7 179 [.v s.v] :: .row s.v 3 128 ((gatK (gatF kd x p) h.evs k).map fndR) :: .box b5 221 [fv] :: .box b3 28 (histC h) :: W) (fun _ _ => []) ⟨none, 0, 0⟩ trivial hy (fun k s hk _ hn => ⟨s, trivial, by rw [gatK_n hk (gatF_k hn)]⟩))) ?_
      rintro _ _ (⟨s, _, rfl⟩ | ⟨_, _, hF, _⟩)
      · exact ⟨none, .ready, _, .refl _, by simp, rfl, s, rfl⟩
      · exact hF.elim
    intro k s hk _ hkd
    refine FCall.perm (pt2 _ _ _ _) (FCall.ventE ?_)
    refine fcall_yl2 hlp rfl rfl ?_
    refine rn ?_
    refine aops_e rfl (oe_alloc rfl fun b9 => ?_)
    refine rn ?_
    refine ⟨[(8, iv k), (9, .v (.pointer (some ⟨b9, 0, none⟩))), (5, .v (.pointer (some ⟨b5, 0, none⟩))), (7, .v (.pointer (some ⟨b7, 0, none⟩)))], .box b9 56 (evR h.evs[k]) :: .box b1 28 (histC h) :: .box b2 3 [iv kd] :: .defs q :: .box b7 179 [.v s.v] :: .row s.v 3 128 ((gatK (gatF kd x p) h.evs k).map fndR) :: .box b5 221 [fv] :: .box b3 28 (histC h) :: W, ent_trans (ent_perm (pt1 _ _ _)) es, ?_⟩
    refine rn ?_
    refine qv rfl rfl (qv_call rfl rfl (FCall.qt (h2 := [_, _, _, _, _, _, _, _, _]) (hp k hk hkd) (perm_swap [_, _, _, _, _, _, _, _, _] _))) ?_
    refine rn ?_
    refine aops_e rfl (oe_alloc rfl fun b10 => ?_)
    refine rn ?_
    refine aw_cond rfl (fun hc24 => ?_) (fun hc24 => ?_)
    · refine aw_draw 8 rfl ?_
      refine dq rfl rfl qrA ?_
      refine dq rfl rfl qrA ?_
      refine dq rfl rfl qrA ?_
      refine dq rfl rfl qrA ?_
      refine dq rfl rfl qrA ?_
      refine dq rfl rfl (qr_cut_row rfl (by rfl) (by rfl)) ?_
      refine rn ?_
      refine dv rfl rfl (qv_buildSlice rfl rfl) ?_
      refine rn ?_
      refine aops_cut s.v ?_
      refine aops_e rfl (oe_append_row rfl rfl (by simp only [List.length_map, List.length_cons, List.length_nil]; have := gatK_len (gatF kd x p) h.evs k; omega) rfl (fun s33 => ?_) (one_fnd [x k h.evs[k]]))
      refine aops_slice s33 fun sv hsv => ?_
      subst hsv
      refine rn ?_
      exact round_n (pt1 _ _ _) ⟨_, _, .trans (.perm ((pt1 _ _ _).trans (.cons _ ((pt1 _ _ _).trans (.cons _ ((pt1 _ _ _).trans (.cons _ (pt1 _ _ _))))))) _) (.drop [_, _] _ _), sv, .inl ⟨rfl, trivial, by rw [gatK_y hk (gatF_y hkd hc24), List.map_append]; rfl⟩⟩
    · refine rn ?_
      exact round_n (pt1 _ _ _) ⟨_, _, .trans (.perm ((pt1 _ _ _).trans (.cons _ ((pt1 _ _ _).trans (.cons _ ((pt1 _ _ _).trans (.cons _ (pt1 _ _ _))))))) _) (.drop [_, _] _ _), s, .inl ⟨rfl, trivial, by rw [gatK_n hk (gatF_n hc24)]⟩⟩
  · obtain ⟨_, s, rfl⟩ := hK
    refine rn ?_
    exact retqd (.refl _) (.cons _ _ _ _ (.tmp _ _ rfl) .nil) (.trans (.drop1 _ _ _) (.trans (.perm (pt1 _ _ _) _) (.trans (.drop [_] _ _) (.trans (.perm (pt1 _ _ _) _) (.drop [_] _ _))))) ⟨s, rfl, rfl⟩
  · obtain ⟨hc, _⟩ := hK
    exact absurd hc (by simp)
end Go.Proofs
/- The walks of the index's closures. Conditions: none. -/
set_option linter.unusedVariables false
set_option linter.unusedSimpArgs false
set_option maxRecDepth 10000
namespace Go.Proofs
open Go Go.Ab
attribute [local irreducible] QR QV OE aops aw dsoup dsoupM dalloc dallocM thn inBlk jsoup jch lsoup
open Go.H
theorem ixTell5 (k : Int) (e : Ev) : ACall Tryz.prog 74 [iv k, .agg (evR e)] [] (fun r h' => h' = [] ∧ r = .tup [iv e.t, bv true]) := by
  refine acall_of_aw Tryz.func74 rfl rfl rfl ?_
  refine rn ?_
  refine aops_e rfl (oe_box rfl rfl rfl fun b3 => ?_)
  refine rn ?_
  refine rq 1 ?_
  exact ⟨rfl, rfl⟩
theorem ixTellW (k a : Nat) (t x : Int) (e : Ev) (b2 b3 b4 : Nat) : ACall Tryz.prog 160 [iv k, .agg (evR e), .v (.pointer (some ⟨b2, 0, none⟩)), .v (.pointer (some ⟨b3, 0, none⟩)), .v (.pointer (some ⟨b4, 0, none⟩))] [.box b2 3 [iv t], .box b3 3 [iv x], .box b4 3 [iv a]] (fun r h' => h' = [.box b2 3 [iv t], .box b3 3 [iv x], .box b4 3 [iv a]] ∧ r = .tup [.agg (fndR (e.v, k)), bv (e.t == t && e.o == x && decide (k < a))]) := by
  refine acall_of_aw Tryz.func160 rfl rfl rfl ?_
  refine rn ?_
  refine aops_e rfl (oe_box rfl rfl rfl fun b6 => ?_)
  refine aops_e rfl (oe_alloc rfl fun b7 => ?_)
  refine rn ?_
  refine aw_drawS 20 [(b7, 128, _)] rfl (List.perm_append_comm (l₁ := [_])) ?_
  refine dq rfl rfl qrA ?_
  refine dq rfl rfl qrA ?_
  refine dq rfl rfl qrA ?_
  refine dq rfl rfl (qr_build (out := [iv e.v.t, iv e.v.k, iv k]) rfl (by rfl)) ?_
  refine rn ?_
  refine dsplit (fun hg1_8 => ?_) (fun hg1_8 => ?_)
  · refine rn ?_
    refine dsplit (fun hg1_14 => ?_) (fun hg1_14 => ?_)
    · refine rn ?_
      refine dw 0 rfl rfl rfl rfl rfl (Nat.le_of_ble_eq_true rfl) ?_
      refine rn2 ?_
      show aops _ _ _ _ _ _ ⟨_, .box b7 128 (fndR (e.v, k)) :: .box b6 56 (evR e) :: [.box b2 3 [iv t], .box b3 3 [iv x], .box b4 3 [iv a]], _⟩
      refine rn ?_
      exact retq (.cons _ _ _ _ (.agg _ _ _ _ _ _ _ rfl inferInstance inferInstance inferInstance rfl) (.cons _ _ _ _ (.tmp _ _ rfl) .nil)) (.drop [_, _] _ _) ⟨rfl, by first | (rw [hg1_8, hg1_14]; exact congrArg (fun b => AV.tup [AV.agg (fndR (e.v, k)), bv b]) (by simp)) | (rw [hg1_8]; rfl)⟩
    · refine rn ?_
      refine dw 0 rfl rfl rfl rfl rfl (Nat.le_of_ble_eq_true rfl) ?_
      refine rn2 ?_
      show aops _ _ _ _ _ _ ⟨_, .box b7 128 (fndR (e.v, k)) :: .box b6 56 (evR e) :: [.box b2 3 [iv t], .box b3 3 [iv x], .box b4 3 [iv a]], _⟩
      refine rn ?_
      exact retq (.cons _ _ _ _ (.agg _ _ _ _ _ _ _ rfl inferInstance inferInstance inferInstance rfl) (.cons _ _ _ _ (.tmp _ _ rfl) .nil)) (.drop [_, _] _ _) ⟨rfl, by first | (rw [hg1_8, hg1_14]; exact congrArg (fun b => AV.tup [AV.agg (fndR (e.v, k)), bv b]) (by simp)) | (rw [hg1_8]; rfl)⟩
  · refine rn ?_
    refine dw 0 rfl rfl rfl rfl rfl (Nat.le_of_ble_eq_true rfl) ?_
    refine rn2 ?_
    show aops _ _ _ _ _ _ ⟨_, .box b7 128 (fndR (e.v, k)) :: .box b6 56 (evR e) :: [.box b2 3 [iv t], .box b3 3 [iv x], .box b4 3 [iv a]], _⟩
    refine rn ?_
    exact retq (.cons _ _ _ _ (.agg _ _ _ _ _ _ _ rfl inferInstance inferInstance inferInstance rfl) (.cons _ _ _ _ (.tmp _ _ rfl) .nil)) (.drop [_, _] _ _) ⟨rfl, by first | (rw [hg1_8, hg1_14]; exact congrArg (fun b => AV.tup [AV.agg (fndR (e.v, k)), bv b]) (by simp)) | (rw [hg1_8]; rfl)⟩
end Go.Proofs
/- The walks of the index's ask. Conditions: none. -/
set_option linter.unusedVariables false
set_option linter.unusedSimpArgs false
set_option maxRecDepth 10000
namespace Go.Proofs
open Go Go.Ab
attribute [local irreducible] QR QV OE aops aw dsoup dsoupM dalloc dallocM thn inBlk jsoup jch lsoup
open Go.H
theorem ask_no {h : Hist} {n many : Int} (he : askE h n many ≠ 0) (X : List Int) : (onE (askE h n many) X).map intR = [] := by rw [onE, if_neg he]; rfl
theorem gat_all {α : Type} (kd : Int) (g : Ev → α) (q : Ev → Bool) (l : List Ev) : gatK (gatF kd (fun _ e => g e) (fun _ e => q e)) l l.length = (l.filter fun e => e.kind == kd && q e).map g := gatK_all (fun _ _ => rfl) l
theorem ixAskI (h : Hist) (la : Lim 4611686018427387904 h) (n many : Int) (fv : AV) (hone : fv.cellsOf = some [fv]) (X : List Int) (W : List Res) (hp : askE h n many = 0 → FCall Tryz.prog fv [] (.glob 0 186 limitsC :: .glob 2 287 firstC :: .glob 3 290 acceptC :: .glob 1 250 asksC :: W) (fun r h' => ∃ s : SV, h' = .row s.v 1 3 (X.map intR) :: .glob 0 186 limitsC :: .glob 2 287 firstC :: .glob 3 290 acceptC :: .glob 1 250 asksC :: W ∧ r = .v s.v)) : ACall Tryz.prog 71 [.agg (histC h), iv n, iv many, fv] (.glob 0 186 limitsC :: .glob 2 287 firstC :: .glob 3 290 acceptC :: .glob 1 250 asksC :: W) (fun r h' => ∃ s : SV, h' = .row s.v 1 3 ((onE (askE h n many) X).map intR) :: .glob 0 186 limitsC :: .glob 2 287 firstC :: .glob 3 290 acceptC :: .glob 1 250 asksC :: W ∧ r = .tup [.v s.v, iv (askE h n many)]) := by
  refine acall_of_aw Tryz.func71 rfl rfl rfl ?_
  refine rn ?_
  refine aops_e rfl (oe_box rfl rfl rfl fun b4 => ?_)
  refine rn ?_
  refine qv rfl rfl (qv_call rfl rfl (FCall.qt (FCall.of_fun (ixCheck h la)) ((pt1 _ _ _).trans (.cons _ ((pt1 _ _ _).trans (.cons _ ((pt1 _ _ _).trans (.cons _ (pt1 _ _ _))))))))) ?_
  refine rn ?_
  refine aw_cond rfl (fun hc15 => ?_) (fun hc15 => ?_)
  · have hc : checkI h ≠ 0 := by simpa using hc15
    refine rn ?_
    exact retq (.cons _ _ _ _ (.tmp _ _ rfl) (.cons _ _ _ _ (.tmp _ _ rfl) .nil)) (.trans (.drop [_] _ _) (vent_nilrow 1 3 _)) ⟨⟨none, 0, 0⟩, by rw [ask_no (by rw [ask_c hc]; exact hc)]; rfl, by rw [ask_c hc]; rfl⟩
  · have hc : checkI h = 0 := by simpa using hc15
    refine rn ?_
    refine asplit (fun hg5_2 => ?_) (fun hg5_2 => ?_)
    · refine rn ?_
      refine aw_ct rfl ?_
      have hn : ¬ (0 ≤ n ∧ n < many) := by first | (have q := of_decide_eq_true hg5_2; omega) | (have q := of_decide_eq_true hc24; omega)
      refine rn ?_
      exact retq (.cons _ _ _ _ (.tmp _ _ rfl) (.cons _ _ _ _ (.tmp _ _ rfl) .nil)) (.trans (.drop [_] _ _) (vent_nilrow 1 3 _)) ⟨⟨none, 0, 0⟩, by rw [ask_no (by rw [ask_a hc hn]; decide)]; rfl, by rw [ask_a hc hn]; rfl⟩
    · refine rn ?_
      refine aw_cond rfl (fun hc24 => ?_) (fun hc24 => ?_)
      · have hn : ¬ (0 ≤ n ∧ n < many) := by first | (have q := of_decide_eq_true hg5_2; omega) | (have q := of_decide_eq_true hc24; omega)
        refine rn ?_
        exact retq (.cons _ _ _ _ (.tmp _ _ rfl) (.cons _ _ _ _ (.tmp _ _ rfl) .nil)) (.trans (.drop [_] _ _) (vent_nilrow 1 3 _)) ⟨⟨none, 0, 0⟩, by rw [ask_no (by rw [ask_a hc hn]; decide)]; rfl, by rw [ask_a hc hn]; rfl⟩
      · have hn : 0 ≤ n ∧ n < many := by have q := of_decide_eq_false hg5_2; have q' := of_decide_eq_false hc24; omega
        refine rn ?_
        refine aops_e rfl (oe_call rfl rfl (FCall.fr1 (hp (ask_y hc hn))) rfl ?_)
        rintro _ _ ⟨_, rfl, s, rfl, rfl⟩
        refine rn ?_
        exact retq (.cons _ _ _ _ (.tmp _ _ rfl) (.cons _ _ _ _ (.tmp _ _ rfl) .nil)) (.drop [_] _ _) ⟨s, by rw [ask_y hc hn]; rfl, by rw [ask_y hc hn]; rfl⟩
end Go.Proofs
/- The walks of the index's Committed, Line, Installed. Conditions: none. -/
set_option linter.unusedVariables false
set_option linter.unusedSimpArgs false
set_option maxRecDepth 10000
namespace Go.Proofs
open Go Go.Ab
attribute [local irreducible] QR QV OE aops aw dsoup dsoupM dalloc dallocM thn inBlk jsoup jch lsoup
open Go.H
theorem qr_index_rowI {P : Program} {h : List Res} {f : Operand → Option AV} {dst : Option Tmp} {ty : TypeId} {pos : String} {after : Array Edge} {guard : Option (Nat × Bool)} {x y : Operand} {T E : TypeId} {s : Value} {sz i : Nat} {k : Int} {E' : TypeId} {rows : List (List AV)} (hx : f x = some (.v s)) (hy : f y = some (.v (.int .i64 k))) [hr : HasRow h s i sz E' rows] [Und P T (.slice E)] [Siz P E sz] (h0 : 0 ≤ k) (hk : k.toNat < rows.length) :
    QR P h f ⟨dst, .indexAddr T x y, ty, pos, after, guard⟩ (.rp s sz k.toNat 0) := qr_index_row hx (by rw [Int.toNat_of_nonneg h0]; exact hy) hk
theorem ask_lim {h : Hist} {n many : Int} (he : askE h n many = 0) : Lim 3000 h := may3000 (sound_may (ask_0 he).1).1
theorem ask_evs {h : Hist} {n many : Int} (he : askE h n many = 0) : h.evs.length ≤ 1000000 := Nat.le_trans (ask_lim he).evs (by decide)
theorem chk_lim {h : Hist} (he : checkI h = 0) : Lim 3000 h := may3000 (sound_may (checkI_0.1 he)).1
theorem chk_evs {h : Hist} (he : checkI h = 0) : h.evs.length ≤ 1000000 := Nat.le_trans (chk_lim he).evs (by decide)
theorem comm_gat (l : List Ev) : srt (gatK (gatF 5 (fun _ e => e.t) (fun _ _ => true)) l l.length) = commP l := by
  rw [commP, gat_all 5 Ev.t (fun _ => true)]; simp only [Bool.and_true]
set_option maxHeartbeats 4000000 in
theorem ixCommS (h : Hist) (la : h.evs.length ≤ 1000000) (b1 : Nat) : ACall Tryz.prog 72 [.v (.pointer (some ⟨b1, 0, none⟩))] (.glob 0 186 limitsC :: .glob 2 287 firstC :: .glob 3 290 acceptC :: .glob 1 250 asksC :: .box b1 28 (histC h) :: []) (fun r h' => ∃ s : SV, h' = .row s.v 1 3 ((commP h.evs).map intR) :: .glob 0 186 limitsC :: .glob 2 287 firstC :: .glob 3 290 acceptC :: .glob 1 250 asksC :: .box b1 28 (histC h) :: [] ∧ r = .v s.v) := by
  refine acall_of_aw Tryz.func72 rfl rfl rfl ?_
  refine rn ?_
  refine aops_e rfl (oe_call rfl rfl (FCall.of_fun (ixGatI h la 5 _ rfl _ (fun _ e => e.t) (fun _ _ => true) (fun k hk _ => FCall.pure (R := fun r => r = _) (FCall.of_fun (ixTell5 k h.evs[k]))))) rfl ?_)
  rintro _ _ ⟨s, rfl, rfl⟩
  refine rn ?_
  refine aops_e rfl (oe_call rfl rfl (fcall_row0 (FCall.of_fun (sortI s _ (by have := (gatK_len (gatF 5 (fun _ e => e.t) (fun _ e => true)) h.evs h.evs.length); omega)))) rfl ?_)
  rintro _ _ ⟨rfl, rfl⟩
  refine rn ?_
  exact retq (.cons _ _ _ _ (.tmp _ _ rfl) .nil) (.refl _ _) ⟨s, by rw [comm_gat], rfl⟩
set_option maxHeartbeats 4000000 in
theorem ixCommR (h : Hist) (la : Lim 4611686018427387904 h) : ACall Tryz.prog 25 [.agg (histC h)] (.glob 0 186 limitsC :: .glob 2 287 firstC :: .glob 3 290 acceptC :: .glob 1 250 asksC :: []) (fun r h' => ∃ s : SV, h' = .row s.v 1 3 ((onE (checkI h) (commP h.evs)).map intR) :: .glob 0 186 limitsC :: .glob 2 287 firstC :: .glob 3 290 acceptC :: .glob 1 250 asksC :: [] ∧ r = .tup [.v s.v, iv (checkI h)]) := by
  refine acall_of_aw Tryz.func25 rfl rfl rfl ?_
  refine rn ?_
  refine aops_e rfl (oe_box rfl rfl rfl fun b1 => ?_)
  refine rn ?_
  refine aops_e rfl (oe_call rfl rfl (FCall.perm ((pt1 _ _ _).trans (.cons _ ((pt1 _ _ _).trans (.cons _ ((pt1 _ _ _).trans (.cons _ (pt1 _ _ _))))))) (FCall.of_fun (ixAskI h la 0 1 (.fn (.func 72) [] [.v (.pointer (some ⟨b1, 0, none⟩))]) rfl (commP h.evs) [.box b1 28 (histC h)] (fun he => FCall.of_acall (fs := []) (cs := [.v (.pointer (some ⟨b1, 0, none⟩))]) (ixCommS h (ask_evs he) b1))))) rfl ?_)
  rintro _ _ ⟨s, rfl, rfl⟩
  refine rn ?_
  exact retq (.cons _ _ _ _ (.tmp _ _ rfl) (.cons _ _ _ _ (.tmp _ _ rfl) .nil)) (.trans (.perm (pt5 _ _ _ _ _ _ _) _) (.drop [_] _ _)) ⟨s, by rw [ask_01], by rw [ask_01]; rfl⟩
theorem ixComm (h : Hist) (la : Lim 4611686018427387904 h) : ACall Tryz.prog 25 [.agg (histC h)] (.glob 0 186 limitsC :: .glob 2 287 firstC :: .glob 3 290 acceptC :: .glob 1 250 asksC :: []) (fun r h' => h' = .glob 0 186 limitsC :: .glob 2 287 firstC :: .glob 3 290 acceptC :: .glob 1 250 asksC :: [] ∧ r = .tup [intsA (onE (checkI h) (commP h.evs)), iv (checkI h)]) :=
  (ixCommR h la).ventR (by rintro _ _ ⟨s, rfl, rfl⟩; exact ⟨_, _, vent_freeze_tup [] [_], rfl, rfl⟩)
end Go.Proofs
/- The walks of the index's writes, final, Final. Conditions: none. -/
set_option linter.unusedVariables false
set_option linter.unusedSimpArgs false
set_option maxRecDepth 10000
namespace Go.Proofs
open Go Go.Ab
attribute [local irreducible] QR QV OE aops aw dsoup dsoupM dalloc dallocM thn inBlk jsoup jch lsoup
open Go.H
theorem fin_n {l : List Ev} {t x : Int} {a : Nat} (ha : l.length ≤ a) (h0 : (((gatK (foundF t x a) l l.length).map fndR).length : Int) = 0) : finW l t x = none := by
  have hl := found_last l t x a l.length (Nat.le_refl _)
  rw [Nat.min_eq_left ha] at hl
  rw [finW, ← hl]
  generalize gatK (foundF t x a) l l.length = L at *
  rw [List.length_map] at h0
  cases L with
  | nil => rfl
  | cons b r => rw [List.length_cons] at h0; omega
theorem fin_s {l : List Ev} {t x : Int} {a : Nat} (h0 : (((gatK (foundF t x a) l l.length).map fndR).length : Int) ≠ 0) : ∃ p, lastW l t x (min l.length a) = some p ∧ ((gatK (foundF t x a) l l.length).map fndR)[((((gatK (foundF t x a) l l.length).map fndR).length : Int) - 1).toNat]? = some (fndR p) ∧ 0 ≤ (((gatK (foundF t x a) l l.length).map fndR).length : Int) - 1 ∧ ((((gatK (foundF t x a) l l.length).map fndR).length : Int) - 1).toNat < ((gatK (foundF t x a) l l.length).map fndR).length := by
  have hl := found_last l t x a l.length (Nat.le_refl _)
  generalize gatK (foundF t x a) l l.length = L at *
  rw [List.length_map] at h0 ⊢
  have hn : 0 < L.length := by omega
  refine ⟨L[L.length - 1], ?_, ?_, by omega, by omega⟩
  · rw [← hl, List.getLast?_eq_getElem?, List.getElem?_eq_getElem (by omega)]
  · rw [show ((L.length : Int) - 1).toNat = L.length - 1 by omega, List.getElem?_map, List.getElem?_eq_getElem (by omega)]; rfl
def finD (h : Hist) (t x : Int) : Ver × Nat := (finW h.evs t x).getD (⟨0, 0⟩, 0)
theorem finD_v (h : Hist) (t x : Int) : (finD h t x).1 = verO (finW h.evs t x) := by rw [finD]; cases finW h.evs t x <;> rfl
theorem finD_a (h : Hist) (t x : Int) : (((finD h t x).2 : Nat) : Int) = atO (finW h.evs t x) := by rw [finD]; cases finW h.evs t x <;> rfl
def finI (h : Hist) (t x : Int) : Option (Ver × Nat) := if checkI h = 0 then finW h.evs t x else none
theorem ixWrites (h : Hist) (la : h.evs.length ≤ 1000000) (t x : Int) (a : Nat) (W : List Res) : ACall Tryz.prog 122 [.agg (histC h), iv t, iv x, iv a] W (fun r h' => ∃ s : SV, h' = .row s.v 3 128 ((gatK (foundF t x a) h.evs h.evs.length).map fndR) :: W ∧ r = .v s.v) := by
  refine acall_of_aw Tryz.func122 rfl rfl rfl ?_
  refine rn ?_
  refine aops_e rfl (oe_box rfl rfl rfl fun b4 => ?_)
  refine aops_e rfl (oe_box rfl rfl rfl fun b5 => ?_)
  refine aops_e rfl (oe_box rfl rfl rfl fun b6 => ?_)
  refine aops_e rfl (oe_box rfl rfl rfl fun b7 => ?_)
  refine rn ?_
  refine aops_e rfl (oe_call rfl rfl (FCall.of_fun (ixGatF h la 2 _ rfl _ (fun k e => (e.v, k)) (fun k e => e.t == t && e.o == x && decide (k < a)) (fun k hk _ => FCall.qt (FCall.of_acall (fs := []) (cs := [.v (.pointer (some ⟨b5, 0, none⟩)), .v (.pointer (some ⟨b6, 0, none⟩)), .v (.pointer (some ⟨b7, 0, none⟩))]) (ixTellW k a t x h.evs[k] b5 b6 b7)) ((pt2 _ _ _ _).trans (.cons _ (pt1 _ _ _)))))) rfl ?_)
  rintro _ _ ⟨s, rfl, rfl⟩
  refine rn ?_
  exact retq (.cons _ _ _ _ (.tmp _ _ rfl) .nil) (.trans (.perm ((pt1 _ _ _).trans (.cons _ ((pt1 _ _ _).trans (.cons _ ((pt1 _ _ _).trans (.cons _ (pt1 _ _ _))))))) _) (.drop [_, _, _, _] _ _)) ⟨s, rfl, rfl⟩
theorem ixFin (h : Hist) (la : h.evs.length ≤ 1000000) (t x : Int) (W : List Res) : ACall Tryz.prog 79 [.agg (histC h), iv t, iv x] W (fun r h' => h' = W ∧ r = .tup [.agg (fndR (finD h t x)), bv (finW h.evs t x).isSome]) := by
  refine acall_of_aw Tryz.func79 rfl rfl rfl ?_
  refine rn ?_
  refine aops_e rfl (oe_box rfl rfl rfl fun b3 => ?_)
  refine aops_e rfl (oe_alloc rfl fun b6 => ?_)
  refine q1 ?_
  refine aops_nil (thn_n ?_)
  refine aw_seq (aw_region ?_)
  refine q1 ?_
  refine q1 ?_
  refine q1 ?_
  refine q1 ?_
  refine q1 ?_
  refine q1 ?_
  rw [List.length_map]
  refine aops_e rfl (oe_call rfl rfl (FCall.of_fun (ixWrites h la t x h.evs.length _)) rfl ?_)
  rintro _ _ ⟨s, rfl, rfl⟩
  refine rn ?_
  refine aw_cond rfl (fun hc18 => ?_) (fun hc18 => ?_)
  · have hw := fin_n (l := h.evs) (t := t) (x := x) (a := h.evs.length) (Nat.le_refl _) (by simpa using hc18)
    refine aw_seq (aw_region ?_)
    refine qq rfl rfl (qr_build (out := [iv 0, iv 0, iv 0]) rfl (by rfl)) ?_
    refine rn ?_
    exact retq (.cons _ _ _ _ (.agg _ _ _ _ _ _ _ rfl inferInstance inferInstance inferInstance rfl) (.cons _ _ _ _ (.tmp _ _ rfl) .nil)) (.drop [_, _, _] _ _) ⟨rfl, by rw [finD, hw]; rfl⟩
  · obtain ⟨p, hp, f1, f2, f3⟩ := fin_s (l := h.evs) (t := t) (x := x) (a := h.evs.length) (by simpa using hc18)
    rw [Nat.min_self] at hp
    have hL := gatK_len (foundF t x h.evs.length) h.evs h.evs.length
    refine aw_skip ?_
    refine thn_n ?_
    refine aw_seq (aw_region ?_)
    refine q1 ?_
    refine q1 ?_
    refine q1 ?_
    refine qq rfl rfl (qr_ari rfl rfl rfl (by rw [List.length_map]; omega)) ?_
    refine qq rfl rfl (qr_index_rowI rfl rfl f2 f3) ?_
    refine qq rfl rfl (qr_load_rp_all rfl f1 rfl) ?_
    refine rn ?_
    exact retq (.cons _ _ _ _ (.agg _ _ _ _ _ _ _ rfl inferInstance inferInstance inferInstance rfl) (.cons _ _ _ _ (.tmp _ _ rfl) .nil)) (.drop [_, _, _] _ _) ⟨rfl, by rw [finD, finW, hp]; rfl⟩
theorem ixFinal (h : Hist) (la : Lim 4611686018427387904 h) (t x : Int) : ACall Tryz.prog 146 [.agg (histC h), iv t, iv x] (.glob 0 186 limitsC :: .glob 2 287 firstC :: .glob 3 290 acceptC :: .glob 1 250 asksC :: []) (fun r h' => h' = .glob 0 186 limitsC :: .glob 2 287 firstC :: .glob 3 290 acceptC :: .glob 1 250 asksC :: [] ∧ r = .tup [.agg (verR (verO (finI h t x))), iv (atO (finI h t x)), bv (finI h t x).isSome]) := by
  refine acall_of_aw Tryz.func146 rfl rfl rfl ?_
  refine rn ?_
  refine aops_e rfl (oe_box rfl rfl rfl fun b3 => ?_)
  refine aops_e rfl (oe_alloc rfl fun b6 => ?_)
  refine rn ?_
  refine qv rfl rfl (qv_call rfl rfl (FCall.qt (FCall.of_fun (ixCheck h la)) ((pt2 _ _ _ _).trans (.cons _ ((pt2 _ _ _ _).trans (.cons _ ((pt2 _ _ _ _).trans (.cons _ (pt2 _ _ _ _))))))))) ?_
  refine rn ?_
  refine aw_cond rfl (fun hc13 => ?_) (fun hc13 => ?_)
  · have hc : checkI h ≠ 0 := by simpa using hc13
    refine aw_seq (aw_region ?_)
    refine qq rfl rfl (qr_build (out := [iv 0, iv 0]) rfl (by rfl)) ?_
    refine rn ?_
    exact retq (.cons _ _ _ _ (.agg _ _ _ _ _ _ _ rfl inferInstance inferInstance inferInstance rfl) (.cons _ _ _ _ (.tmp _ _ rfl) (.cons _ _ _ _ (.tmp _ _ rfl) .nil))) (.drop [_, _] _ _) ⟨rfl, by rw [finI, if_neg hc]; rfl⟩
  · have hc : checkI h = 0 := by simpa using hc13
    refine rn ?_
    refine qv rfl rfl (qv_call rfl rfl (FCall.of_fun (ixFin h (chk_evs hc) t x _))) ?_
    refine rn ?_
    refine aops_e rfl (oe_alloc rfl fun b9 => ?_)
    refine rn ?_
    refine aw_drawS 7 [(b6, 38, _)] rfl ((pt1 _ _ _).trans (List.perm_append_comm (l₁ := [_]))) ?_
    refine rn ?_
    refine dw 0 rfl rfl rfl rfl rfl (Nat.le_of_ble_eq_true rfl) ?_
    refine rn2 ?_
    show aops _ _ _ _ _ _ ⟨_, .box b6 38 (verR (finD h t x).1) :: .box b9 128 (fndR (finD h t x)) :: .box b3 28 (histC h) :: .glob 0 186 limitsC :: .glob 2 287 firstC :: .glob 3 290 acceptC :: .glob 1 250 asksC :: [], _⟩
    refine rn ?_
    exact retq (.cons _ _ _ _ (.agg _ _ _ _ _ _ _ rfl inferInstance inferInstance inferInstance rfl) (.cons _ _ _ _ (.tmp _ _ rfl) (.cons _ _ _ _ (.tmp _ _ rfl) .nil))) (.drop [_, _, _] _ _) ⟨rfl, by rw [finI, if_pos hc, ← finD_v, ← finD_a]; rfl⟩
end Go.Proofs
/- The walks of dirty's of, aborted. Conditions: none. -/
set_option linter.unusedVariables false
set_option linter.unusedSimpArgs false
set_option maxRecDepth 10000
namespace Go.Proofs
open Go Go.Ab
attribute [local irreducible] QR QV OE aops aw dsoup dsoupM dalloc dallocM thn inBlk jsoup jch lsoup
open Go.H
theorem nzT {a : Int} (h : (a != 0) = true) : a ≠ 0 := by simpa using h
theorem nzF {a : Int} (h : (a != 0) = false) : a = 0 := by simpa using h
theorem commLen (l : List Ev) : (commP l).length ≤ l.length := by rw [commP, (srt_perm _).length_eq, List.length_map]; exact List.length_filter_le _ _
theorem ver_ne (a b : Ver) : (!(([a.t, a.k] : List Int) == [b.t, b.k])) = (a != b) := by
  rw [Bool.eq_iff_iff]; cases a; cases b; simp; exact Decidable.imp_iff_not_or.symm
def dnM (l : List Int) : List (Int × Bool) := setT (fun _ : Int => true) (fun t : Int => t) [] l
theorem dnM_s {l : List Int} {k : Nat} (hk : k < l.length) : dnM (l.take (k + 1)) = putT l[k] true (dnM (l.take k)) := by
  rw [dnM, dnM, setT, setT, List.take_succ_eq_append_getElem hk, List.foldl_append]; rfl
theorem dnM_get (l : List Ev) (t : Int) : (getT t (dnM (commP l))).getD false = hasB l t 5 := by
  rw [dnM, setT_get]
  cases hq : hasB l t 5 with
  | true => rw [if_pos (by rw [List.any_eq_true]; exact ⟨t, comm_mem.2 hq, by simp⟩)]; rfl
  | false =>
    rw [if_neg (fun q => by
      obtain ⟨x, hx, e⟩ := List.any_eq_true.1 q
      have e : x = t := by simpa using e
      rw [e, comm_mem, hq] at hx; cases hx)]
    rfl
theorem dirC_1 {h : Hist} {a : List Int} (hc : checkI h ≠ 0) : dirC h a = checkI h := by rw [dirC, if_neg hc]
theorem each_self (a : List Int) : eachC a a = if levsB a = true then 0 else 190 := by
  rw [eachC, Bool.and_self]
  split
  · rw [if_pos rfl]
  · rfl
theorem dirC_2 {h : Hist} {a : List Int} (hc : checkI h = 0) (he : eachC a a ≠ 0) : dirC h a = 190 ∧ eachC a a = 190 := by
  rw [each_self] at he ⊢
  by_cases q : levsB a = true
  · rw [if_pos q] at he; exact absurd rfl he
  · exact ⟨by rw [dirC, if_pos hc, if_neg q], by rw [if_neg q]⟩
theorem dirC_3 {h : Hist} {a : List Int} (hc : checkI h = 0) (he : eachC a a = 0) (hn : ¬ a.length = h.ts.length) : dirC h a = 2 := by
  rw [each_self] at he
  by_cases q : levsB a = true
  · rw [dirC, if_pos hc, if_pos q, if_neg hn]
  · rw [if_neg q] at he; cases he
theorem dirC_4 {h : Hist} {a : List Int} (hc : checkI h = 0) (he : eachC a a = 0) (hn : a.length = h.ts.length) : dirC h a = 0 := by
  rw [each_self] at he
  by_cases q : levsB a = true
  · rw [dirC, if_pos hc, if_pos q, if_pos hn]
  · rw [if_neg q] at he; cases he
set_option maxHeartbeats 4000000 in
theorem dirOf (h : Hist) (la : Lim 4611686018427387904 h) (a : List Int) (ha : a.length ≤ 1000000) : ACall Tryz.prog 60 [.agg (histC h), intsA a] (.glob 0 186 limitsC :: .glob 2 287 firstC :: .glob 3 290 acceptC :: .glob 1 250 asksC :: []) (fun r h' => (dirC h a = 0 ∧ ∃ bl rf rd, h' = .box bl 167 (histC h ++ [intsA a, mpv rd, mpv rf]) :: .map rf (encM int2K (mapA verA [])) :: .map rd (encM intK (mapA bv (dnM (commP h.evs)))) :: .glob 0 186 limitsC :: .glob 2 287 firstC :: .glob 3 290 acceptC :: .glob 1 250 asksC :: [] ∧ r = .tup [.v (.pointer (some ⟨bl, 0, none⟩)), iv 0]) ∨ (dirC h a ≠ 0 ∧ h' = .glob 0 186 limitsC :: .glob 2 287 firstC :: .glob 3 290 acceptC :: .glob 1 250 asksC :: [] ∧ r = .tup [.v (.pointer none), iv (dirC h a)])) := by
  refine acall_of_aw Tryz.func60 rfl rfl rfl ?_
  refine rn ?_
  refine aops_e rfl (oe_box rfl rfl rfl fun b2 => ?_)
  refine rn ?_
  refine qv rfl rfl (qv_call rfl rfl (FCall.qt (FCall.of_fun (ixComm h la)) ((pt1 _ _ _).trans (.cons _ ((pt1 _ _ _).trans (.cons _ ((pt1 _ _ _).trans (.cons _ (pt1 _ _ _))))))))) ?_
  refine rn ?_
  refine aw_cond rfl (fun hc19 => ?_) (fun hc19 => ?_)
  · have hc := nzT hc19
    refine rn ?_
    exact retq (.cons _ _ _ _ (.tmp _ _ rfl) (.cons _ _ _ _ (.tmp _ _ rfl) .nil)) (.drop [_] _ _) (.inr ⟨by rw [dirC_1 hc]; exact hc, rfl, by rw [dirC_1 hc]; rfl⟩)
  · have hc := nzF hc19
    have hts : onE (checkI h) (commP h.evs) = (commP h.evs) := by rw [hc, onE, if_pos rfl]
    rw [hts]
    have lA := chk_lim hc
    have bC := Nat.le_trans (commLen h.evs) lA.evs
    refine rn ?_
    refine qv rfl rfl (qv_call rfl rfl (pcall (levJoin a a ha ha) (Sbs.refl _))) ?_
    refine rn ?_
    refine aw_cond rfl (fun hc28 => ?_) (fun hc28 => ?_)
    · obtain ⟨hd, hq⟩ := dirC_2 hc (nzT hc28)
      refine rn ?_
      exact retq (.cons _ _ _ _ (.tmp _ _ rfl) (.cons _ _ _ _ (.tmp _ _ rfl) .nil)) (.drop [_] _ _) (.inr ⟨by rw [hd]; decide, rfl, by rw [hd, hq]; rfl⟩)
    · have he := nzF hc28
      refine rn ?_
      refine aw_cond rfl (fun hc35 => ?_) (fun hc35 => ?_)
      · have hd := dirC_3 hc he (by simp at hc35; omega)
        refine rn ?_
        exact retq (.cons _ _ _ _ (.tmp _ _ rfl) (.cons _ _ _ _ (.tmp _ _ rfl) .nil)) (.drop [_] _ _) (.inr ⟨by rw [hd]; decide, rfl, by rw [hd]; rfl⟩)
      · have hd := dirC_4 hc he (by simp at hc35; omega)
        refine rn ?_
        refine aops_e rfl (oe_makeMap (enc := intK) rfl fun b38 => ?_)
        refine aops_e rfl (oe_makeMap (enc := int2K) rfl fun b39 => ?_)
        refine qq rfl rfl (qr_build (out := histC h ++ [intsA a, mpv b38, mpv b39]) rfl (by rfl)) ?_
        refine aops_e rfl (oe_box rfl rfl rfl fun b41 => ?_)
        refine rn ?_
        refine aw_range (commP h.evs).length (fun _ => True) (fun k => ⟨[(44, iv k), (10, .v (.pointer (some ⟨b41, 0, none⟩))), (42, intsA (commP h.evs)), (43, iv ((commP h.evs).map intR).length)], .box b41 167 (histC h ++ [intsA a, mpv b38, mpv b39]) :: .map b39 (encM int2K (mapA verA [])) :: .map b38 (encM intK (mapA bv (dnM ((commP h.evs).take k)))) :: .box b2 28 (histC h) :: .glob 0 186 limitsC :: .glob 2 287 firstC :: .glob 3 290 acceptC :: .glob 1 250 asksC :: [], []⟩) trivial es ?_
        intro k lk _
        refine rn ?_
        refine aw_cond rfl (fun hc45 => ?_) (fun hc45 => ?_)
        · have hk := ltMap hc45
          have rk := atRow (f := intR) hk
          refine rn ?_
          refine aops_e rfl (oe_mapUpdT (g := bv) (enc := intK) (k := (commP h.evs)[k]) (v := true) rfl rfl rfl ?_)
          refine rn ?_
          exact ⟨hk, trivial, by rw [dnM_s hk]; exact eA⟩
        · have qk := geMap hc45 lk
          rw [qk, List.take_length]
          refine rn ?_
          exact retq (.cons _ _ _ _ (.tmp _ _ rfl) (.cons _ _ _ _ (.tmp _ _ rfl) .nil)) (.trans (.perm (pt3 _ _ _ _ _) _) (.drop [_] _ _)) (.inl ⟨hd, b41, b39, b38, rfl, rfl⟩)
theorem dirAb (h : Hist) (a : List Int) (s : Seen) (bl rf rd : Nat) (M : List ((Int × Int) × Ver)) (D : List (Int × Bool)) (W : List Res) : ACall Tryz.prog 114 [.v (.pointer (some ⟨bl, 0, none⟩)), .agg (seenR s)] (.box bl 167 (histC h ++ [intsA a, mpv rd, mpv rf]) :: .map rf (encM int2K (mapA verA M)) :: .map rd (encM intK (mapA bv D)) :: W) (fun r h' => h' = (.box bl 167 (histC h ++ [intsA a, mpv rd, mpv rf]) :: .map rf (encM int2K (mapA verA M)) :: .map rd (encM intK (mapA bv D)) :: W) ∧ r = bv (!(getT s.v.t D).getD false)) := by
  refine acall_of_aw Tryz.func114 rfl rfl rfl ?_
  refine rn ?_
  refine aops_e rfl (oe_box rfl rfl rfl fun b3 => ?_)
  refine rn ?_
  refine aw_draw 7 rfl ?_
  refine rn2 ?_
  refine qq rfl rfl (qr_lookT (enc := intK) (k := s.v.t) false rfl rfl) ?_
  refine rn ?_
  refine rq 1 ?_
  exact ⟨rfl, rfl⟩
def FinOk (h : Hist) (M : List ((Int × Int) × Ver)) : Prop := ∀ p v, getT p M = some v → v = verO (finW h.evs p.1 p.2)
theorem finOk_put {h : Hist} {M : List ((Int × Int) × Ver)} (hM : FinOk h M) (t x : Int) : FinOk h (putT (t, x) (verO (finW h.evs t x)) M) := fun p v e => by
  rw [get_put] at e
  split at e
  · rename_i q; injection e with e; rw [← e, ← q]
  · exact hM p v e
theorem finOk_get {h : Hist} {M : List ((Int × Int) × Ver)} (hM : FinOk h M) {t x : Int} (hs : (!(getT (t, x) M).isSome) = false) : (getT (t, x) M).getD ⟨0, 0⟩ = verO (finW h.evs t x) := by
  cases hq : getT (t, x) M with
  | none => rw [hq] at hs; simp at hs
  | some v => exact hM (t, x) v hq
theorem finOk_nil (h : Hist) : FinOk h [] := fun p v e => by cases e
theorem ixFinalY (h : Hist) (la : Lim 4611686018427387904 h) (hc : checkI h = 0) (t x : Int) : ACall Tryz.prog 146 [.agg (histC h), iv t, iv x] (.glob 0 186 limitsC :: .glob 2 287 firstC :: .glob 3 290 acceptC :: .glob 1 250 asksC :: []) (fun r h' => h' = .glob 0 186 limitsC :: .glob 2 287 firstC :: .glob 3 290 acceptC :: .glob 1 250 asksC :: [] ∧ r = .tup [.agg (verR (verO (finW h.evs t x))), iv (atO (finW h.evs t x)), bv (finW h.evs t x).isSome]) := (ixFinal h la t x).mono fun _ _ q => ⟨q.1, by rw [q.2, finI, if_pos hc]⟩
set_option maxHeartbeats 4000000 in
theorem dirEa (h : Hist) (la : Lim 4611686018427387904 h) (hc : checkI h = 0) (a : List Int) (s : Seen) (bl rf rd : Nat) (M : List ((Int × Int) × Ver)) (hM : FinOk h M) (D : List (Int × Bool)) (W : List Res) : ACall Tryz.prog 115 [.v (.pointer (some ⟨bl, 0, none⟩)), .agg (seenR s)] (.box bl 167 (histC h ++ [intsA a, mpv rd, mpv rf]) :: .map rf (encM int2K (mapA verA M)) :: .map rd (encM intK (mapA bv D)) :: .glob 0 186 limitsC :: .glob 2 287 firstC :: .glob 3 290 acceptC :: .glob 1 250 asksC :: W) (fun r h' => ∃ M', FinOk h M' ∧ h' = .box bl 167 (histC h ++ [intsA a, mpv rd, mpv rf]) :: .map rf (encM int2K (mapA verA M')) :: .map rd (encM intK (mapA bv D)) :: .glob 0 186 limitsC :: .glob 2 287 firstC :: .glob 3 290 acceptC :: .glob 1 250 asksC :: W ∧ r = bv (dirB h s)) := by
  refine acall_of_aw Tryz.func115 rfl rfl rfl ?_
  refine rn ?_
  refine aops_e rfl (oe_box rfl rfl rfl fun b3 => ?_)
  refine rn ?_
  refine aops_e rfl (oe_alloc rfl fun b5 => ?_)
  refine rn0 ?_
  refine aw_seq ?_
  refine aw_drawX 11 [9, 10] [] (fun he => he = .box b5 83 [iv s.v.t, iv s.o] :: .box b3 59 (seenR s) :: .box bl 167 (histC h ++ [intsA a, mpv rd, mpv rf]) :: .map rf (encM int2K (mapA verA M)) :: .map rd (encM intK (mapA bv D)) :: .glob 0 186 limitsC :: .glob 2 287 firstC :: .glob 3 290 acceptC :: .glob 1 250 asksC :: W ∨ ∃ b c, he = .box b 38 c :: .box b5 83 [iv s.v.t, iv s.o] :: .box b3 59 (seenR s) :: .box bl 167 (histC h ++ [intsA a, mpv rd, mpv rf]) :: .map rf (encM int2K (mapA verA M)) :: .map rd (encM intK (mapA bv D)) :: .glob 0 186 limitsC :: .glob 2 287 firstC :: .glob 3 290 acceptC :: .glob 1 250 asksC :: W) rfl rfl (.inl rfl) ?_
  refine jq rfl (fun he hC => by rcases hC with rfl | ⟨b, c, rfl⟩ <;> exact qrA) ?_
  refine jq rfl (fun he hC => by rcases hC with rfl | ⟨b, c, rfl⟩ <;> exact qrA) ?_
  refine jq rfl (fun he hC => by rcases hC with rfl | ⟨b, c, rfl⟩ <;> exact qrA) ?_
  refine jq rfl (fun he hC => by rcases hC with rfl | ⟨b, c, rfl⟩ <;> exact qrA) ?_
  refine jq rfl (fun he hC => by rcases hC with rfl | ⟨b, c, rfl⟩ <;> exact qrA) ?_
  refine jq rfl (fun he hC => by rcases hC with rfl | ⟨b, c, rfl⟩ <;> exact (by exact qr_lookT2 (g := verA) (enc := int2K) (k := (s.v.t, s.o)) (⟨0, 0⟩ : Ver) rfl rfl rfl)) ?_
  refine jq rfl (fun he hC => by rcases hC with rfl | ⟨b, c, rfl⟩ <;> exact qrA) ?_
  refine jq rfl (fun he hC => by rcases hC with rfl | ⟨b, c, rfl⟩ <;> exact qrA) ?_
  refine jq rfl (fun he hC => by rcases hC with rfl | ⟨b, c, rfl⟩ <;> exact qrA) ?_
  refine je rfl ?_
  refine je rfl ?_
  refine jnil ?_
  refine jce rfl fun u => ?_
  refine oe_alloc rfl fun b6 => ⟨_, _, rfl, .inr ⟨_, _, rfl⟩, ?_⟩
  refine jce rfl fun u => ?_
  refine oe_store_all rfl rfl rfl ⟨.any, _, rfl, .inr ⟨_, _, rfl⟩, ?_⟩
  refine jcn ?_
  refine ln ?_
  refine rn ?_
  refine aw_cond rfl (fun hc24 => ?_) (fun hc24 => ?_)
  · refine rn ?_
    refine aw_drawS 15 [(b6, 38, _)] rfl (List.perm_append_comm (l₁ := [_])) ?_
    refine rn ?_
    refine dv rfl rfl (by exact qv_call rfl rfl (FCall.qt (FCall.of_fun (ixFinalY h la hc s.v.t s.o)) ((pt5 _ _ _ _ _ _ _).trans (.cons _ ((pt5 _ _ _ _ _ _ _).trans (.cons _ ((pt5 _ _ _ _ _ _ _).trans (.cons _ (pt5 _ _ _ _ _ _ _))))))))) ?_
    refine rn ?_
    refine dw 0 rfl rfl rfl rfl rfl (Nat.le_of_ble_eq_true rfl) ?_
    refine rn2 ?_
    show aops _ _ _ _ _ _ ⟨_, .box b6 38 (verR (verO (finW h.evs s.v.t s.o))) :: .box b5 83 [iv s.v.t, iv s.o] :: .box b3 59 (seenR s) :: .box bl 167 (histC h ++ [intsA a, mpv rd, mpv rf]) :: .map rf (encM int2K (mapA verA M)) :: .map rd (encM intK (mapA bv D)) :: .glob 0 186 limitsC :: .glob 2 287 firstC :: .glob 3 290 acceptC :: .glob 1 250 asksC :: W, _⟩
    refine rn0 ?_
    show aw _ _ _ _ _ ⟨_, .box b6 38 (verR (verO (finW h.evs s.v.t s.o))) :: .box b5 83 [iv s.v.t, iv s.o] :: .box b3 59 (seenR s) :: .box bl 167 (histC h ++ [intsA a, mpv rd, mpv rf]) :: .map rf (encM int2K (mapA verA M)) :: .map rd (encM intK (mapA bv D)) :: .glob 0 186 limitsC :: .glob 2 287 firstC :: .glob 3 290 acceptC :: .glob 1 250 asksC :: W, _⟩
    refine aw_draw 6 rfl ?_
    refine rn ?_
    refine aops_e rfl (oe_mapUpdT (g := verA) (enc := int2K) (k := (s.v.t, s.o)) (v := (verO (finW h.evs s.v.t s.o))) rfl rfl rfl ?_)
    refine rn ?_
    first | exact retq (.cons _ _ _ _ (.tmp _ _ rfl) .nil) (.drop [_, _, _] _ _) ⟨_, finOk_put hM _ _, rfl, congrArg bv (ver_ne _ _)⟩ | exact retq (.cons _ _ _ _ (.tmp _ _ rfl) .nil) (.drop [_, _, _] _ _) ⟨_, hM, rfl, by rw [hv]; exact congrArg bv (ver_ne _ _)⟩
  · have hv := finOk_get hM hc24
    refine rn ?_
    first | exact retq (.cons _ _ _ _ (.tmp _ _ rfl) .nil) (.drop [_, _, _] _ _) ⟨_, finOk_put hM _ _, rfl, congrArg bv (ver_ne _ _)⟩ | exact retq (.cons _ _ _ _ (.tmp _ _ rfl) .nil) (.drop [_, _, _] _ _) ⟨_, hM, rfl, by rw [hv]; exact congrArg bv (ver_ne _ _)⟩
end Go.Proofs
/- Of a drawn region: an operation that waits for effects, and is passed over. Conditions: none. -/
namespace Go.Ab
open Go
theorem lsk {P : Program} {ro : Option Nat} {nt : Nat} {l : List Oper} {sd : List Tmp} {t0 : Fr} {he : List Res} {i : Nat} {r : List Nat} {e : Fr} {K : Fr → Prop} {d : Tmp} {op : Op} {ty : TypeId} {pos : String} {after : Array Edge} {g : Option (Nat × Bool)} (ho : l[i]? = some ⟨some d, op, ty, pos, after, g⟩)
    (hg : gdS l (lkS sd (pdst l ⟨some d, op, ty, pos, after, g⟩) e t0) ⟨some d, op, ty, pos, after, g⟩ = some false) (hk : lsoup P ro nt he l sd t0 r ((d, .v undef) :: e) K) (hd : Nat.blt d nt = true := by rfl) : lsoup P ro nt he l sd t0 (i :: r) e K :=
  ⟨_, d, .v undef, ho, ⟨rfl, hd, .inr ⟨hg, rfl⟩⟩, hk⟩
end Go.Ab
/- The walk of dirty's all. Conditions: none. -/
set_option linter.unusedVariables false
set_option linter.unusedSimpArgs false
set_option maxRecDepth 10000
namespace Go.Proofs
open Go Go.Ab
attribute [local irreducible] QR QV OE aops aw dsoup dsoupM dalloc dallocM thn inBlk jsoup jch lsoup
open Go.H
def dirQ (h : Hist) (s : Seen) (c : Nat) : Bool := if c = 0 then dirA h s else dirB h s
def dirT (h : Hist) (k : Nat) (s : Seen) : Nat → List Dirt
  | 0 => []
  | c + 1 => dirT h k s c ++ (if dirQ h s c = true then [⟨(c : Int) + 1, k, s.o, s.v⟩] else [])
theorem dirT_2 {h : Hist} {k : Nat} {e : Ev} {s : Seen} (hn : dirN e s = false) : dirT h k s 2 = dirS h k e s := by
  rw [dirS, hn, dirT, dirT, dirT, dirQ, dirQ]; simp
theorem tri2d {p : Prop} (b : Bool) (x : b = true → p) (y : b = false → p) : p := by
  cases hb : b with
  | true => exact x hb
  | false => exact y hb
theorem spl4 {p : Prop} {h : Hist} {s : Seen} {c : Nat} (hc : c < 2) (a1 : c = 0 → dirQ h s c = true → p) (a2 : c = 0 → dirQ h s c = false → p) (b1 : c = 1 → dirQ h s c = true → p) (b2 : c = 1 → dirQ h s c = false → p) : p := by
  rcases Nat.lt_or_ge c 1 with q | q
  · have e : c = 0 := by omega
    exact tri2d (dirQ h s c) (a1 e) (a2 e)
  · have e : c = 1 := by omega
    exact tri2d (dirQ h s c) (b1 e) (b2 e)
theorem dirG_n {h : Hist} {a : List Int} {e : Ev} (hx : (!(getT e.t (dnM (commP h.evs))).getD false) = true ∨ decide (lvAt a e.t < 2) = true) : dirG h a e = false := by
  rw [dnM_get] at hx
  rw [dirG]
  rcases hx with q | q
  · have : hasB h.evs e.t 5 = false := by simpa using q
    rw [this]; rfl
  · have := of_decide_eq_true q
    rw [decide_eq_false (by omega), Bool.and_false]
theorem dirG_y {h : Hist} {a : List Int} {e : Ev} (hx : (!(getT e.t (dnM (commP h.evs))).getD false) = false) (hy : decide (lvAt a e.t < 2) = false) : dirG h a e = true := by
  rw [dnM_get] at hx
  have := of_decide_eq_false hy
  rw [dirG, decide_eq_true (by omega), Bool.and_true]; simpa using hx
theorem dirK_pre {h : Hist} {a : List Int} {n : Nat} : ∀ {m : Nat}, n ≤ m → m ≤ h.evs.length → ∃ r, dirK h a m = dirK h a n ++ r
  | 0, hn, _ => ⟨[], by rw [show n = 0 by omega]; simp⟩
  | m + 1, hn, hm => by
    by_cases e : n = m + 1
    · exact ⟨[], by rw [e]; simp⟩
    · obtain ⟨r, hr⟩ := dirK_pre (h := h) (a := a) (n := n) (m := m) (by omega) (by omega)
      exact ⟨r ++ dirE h a m (h.evs[m]'(by omega)), by rw [dirK_s (by omega), hr, List.append_assoc]⟩
theorem dirT_pre {h : Hist} {k c : Nat} {s : Seen} (hc : c < 2) (hq : dirQ h s c = true) : ∃ r, dirT h k s 2 = dirT h k s c ++ ⟨(c : Int) + 1, k, s.o, s.v⟩ :: r := by
  match c, hc, hq with
  | 0, _, hq => exact ⟨_, by rw [dirT, dirT, dirT, if_pos hq]; rfl⟩
  | 1, _, hq => exact ⟨[], by rw [dirT, if_pos hq]⟩
theorem dirL_pre {h : Hist} {a : List Int} {k j c : Nat} (hk : k < h.evs.length) (hg : dirG h a h.evs[k] = true) (hj : j < (seenOf h.evs[k]).length) (hn : dirN h.evs[k] (seenOf h.evs[k])[j] = false) (hc : c < 2) (hq : dirQ h (seenOf h.evs[k])[j] c = true) :
    ∃ r, dirL h a = (dirK h a k ++ ((seenOf h.evs[k]).take j).flatMap (dirS h k h.evs[k]) ++ dirT h k (seenOf h.evs[k])[j] c) ++ ⟨(c : Int) + 1, k, (seenOf h.evs[k])[j].o, (seenOf h.evs[k])[j].v⟩ :: r := by
  obtain ⟨r1, e1⟩ := dirK_pre (h := h) (a := a) (n := k + 1) (m := h.evs.length) hk (Nat.le_refl _)
  obtain ⟨r2, e2⟩ := dirT_pre (k := k) hc hq
  have e3 : (seenOf h.evs[k]).flatMap (dirS h k h.evs[k]) = ((seenOf h.evs[k]).take j).flatMap (dirS h k h.evs[k]) ++ (dirS h k h.evs[k] (seenOf h.evs[k])[j] ++ ((seenOf h.evs[k]).drop (j + 1)).flatMap (dirS h k h.evs[k])) := by
    conv => lhs; rw [← List.take_append_drop j (seenOf h.evs[k]), List.drop_eq_getElem_cons hj]
    rw [List.flatMap_append, List.flatMap_cons]
  refine ⟨r2 ++ (((seenOf h.evs[k]).drop (j + 1)).flatMap (dirS h k h.evs[k]) ++ r1), ?_⟩
  rw [dirL, e1, dirK_s hk, dirE, if_pos hg, e3, ← dirT_2 hn, e2]
  simp [List.append_assoc]
theorem flat_s {h : Hist} {k : Nat} {e : Ev} {l : List Seen} {j : Nat} (hj : j < l.length) : (l.take (j + 1)).flatMap (dirS h k e) = (l.take j).flatMap (dirS h k e) ++ dirS h k e l[j] := by
  rw [List.take_succ_eq_append_getElem hj, List.flatMap_append]; simp
theorem dirK_n {h : Hist} {a : List Int} {k : Nat} (hk : k < h.evs.length) (hg : dirG h a h.evs[k] = false) : dirK h a (k + 1) = dirK h a k := by rw [dirK_s hk, dirE, if_neg (by rw [hg]; decide), List.append_nil]
theorem dirK_y {h : Hist} {a : List Int} {k : Nat} (hk : k < h.evs.length) (hg : dirG h a h.evs[k] = true) : dirK h a (k + 1) = dirK h a k ++ (seenOf h.evs[k]).flatMap (dirS h k h.evs[k]) := by rw [dirK_s hk, dirE, if_pos hg]
theorem flat_n {h : Hist} {k : Nat} {e : Ev} {l : List Seen} {j : Nat} {B : List Dirt} (hj : j < l.length) (hn : dirN e l[j] = true) : B ++ (l.take (j + 1)).flatMap (dirS h k e) = B ++ (l.take j).flatMap (dirS h k e) := by rw [flat_s hj, dirS, if_pos hn, List.append_nil]
theorem flat_y {h : Hist} {k : Nat} {e : Ev} {l : List Seen} {j : Nat} {B : List Dirt} (hj : j < l.length) (hn : dirN e l[j] = false) : B ++ (l.take (j + 1)).flatMap (dirS h k e) = B ++ (l.take j).flatMap (dirS h k e) ++ dirT h k l[j] 2 := by rw [flat_s hj, dirT_2 hn, List.append_assoc]
theorem pc_n {h : Hist} {k c : Nat} {s : Seen} {B : List Dirt} (hq : dirQ h s c = false) : B ++ dirT h k s (c + 1) = B ++ dirT h k s c := by rw [dirT, if_neg (by rw [hq]; decide), List.append_nil]
theorem pc_y {h : Hist} {k c : Nat} {s : Seen} {B : List Dirt} (hq : dirQ h s c = true) : B ++ dirT h k s (c + 1) = B ++ dirT h k s c ++ [⟨(c : Int) + 1, k, s.o, s.v⟩] := by rw [dirT, if_pos hq, List.append_assoc]
theorem lv_row {a : List Int} {t : Int} (h0 : 0 ≤ t) (h1 : t < a.length) : (a.map intR)[t.toNat]? = some (intR (lvAt a t)) := by
  rw [lvAt, List.getElem?_map, List.getElem?_eq_getElem (by omega)]; rfl
theorem dirAll0 (bl : Nat) (W : List Res) : ACall Tryz.prog 62 [.v (.pointer (some ⟨bl, 0, none⟩))] W (fun r h' => ∃ b1, h' = .box b1 107 [.v (.pointer (some ⟨bl, 0, none⟩))] :: W ∧ r = .fn (.func 113) [] [.v (.pointer (some ⟨b1, 0, none⟩))]) := by
  refine acall_of_aw Tryz.func62 rfl rfl rfl ?_
  refine rn ?_
  refine aops_e rfl (oe_box rfl rfl rfl fun b1 => ?_)
  refine rn ?_
  exact retq (.cons _ _ _ _ (.tmp _ _ rfl) .nil) (.refl _ _) ⟨_, rfl, rfl⟩
theorem dirAsk (h : Hist) (la : Lim 4611686018427387904 h) (hc : checkI h = 0) (a : List Int) (s : Seen) (bl rf rd : Nat) (M : List ((Int × Int) × Ver)) (hM : FinOk h M) (c : Nat) (W : List Res) : FCall Tryz.prog (.fn (.func (if c = 0 then 114 else 115)) [.v (.pointer (some ⟨bl, 0, none⟩))] []) [.agg (seenR s)] (.box bl 167 (histC h ++ [intsA a, mpv rd, mpv rf]) :: .map rf (encM int2K (mapA verA M)) :: .map rd (encM intK (mapA bv (dnM (commP h.evs)))) :: .glob 0 186 limitsC :: .glob 2 287 firstC :: .glob 3 290 acceptC :: .glob 1 250 asksC :: W) (fun r h' => ∃ M', FinOk h M' ∧ h' = .box bl 167 (histC h ++ [intsA a, mpv rd, mpv rf]) :: .map rf (encM int2K (mapA verA M')) :: .map rd (encM intK (mapA bv (dnM (commP h.evs)))) :: .glob 0 186 limitsC :: .glob 2 287 firstC :: .glob 3 290 acceptC :: .glob 1 250 asksC :: W ∧ r = bv (dirQ h s c)) := by
  by_cases q : c = 0
  · rw [if_pos q]
    refine FCall.of_acall (fs := [.v (.pointer (some ⟨bl, 0, none⟩))]) (cs := []) ((dirAb h a s bl rf rd M (dnM (commP h.evs)) (.glob 0 186 limitsC :: .glob 2 287 firstC :: .glob 3 290 acceptC :: .glob 1 250 asksC :: W)).mono fun _ _ q => ⟨M, hM, q.1, by rw [q.2, dnM_get, dirQ, if_pos ‹_›]; rfl⟩)
  · rw [if_neg q]
    refine FCall.of_acall (fs := [.v (.pointer (some ⟨bl, 0, none⟩))]) (cs := []) ((dirEa h la hc a s bl rf rd M hM (dnM (commP h.evs)) W).mono fun _ _ ⟨M', h1, h2, h3⟩ => ⟨M', h1, h2, by rw [h3, dirQ, if_neg q]⟩)
theorem dirAsk0 (h : Hist) (la : Lim 4611686018427387904 h) (hc : checkI h = 0) (a : List Int) (s : Seen) (bl rf rd : Nat) (M : List ((Int × Int) × Ver)) (hM : FinOk h M) (W : List Res) : FCall Tryz.prog (.fn (.func 114) [.v (.pointer (some ⟨bl, 0, none⟩))] []) [.agg (seenR s)] (.box bl 167 (histC h ++ [intsA a, mpv rd, mpv rf]) :: .map rf (encM int2K (mapA verA M)) :: .map rd (encM intK (mapA bv (dnM (commP h.evs)))) :: .glob 0 186 limitsC :: .glob 2 287 firstC :: .glob 3 290 acceptC :: .glob 1 250 asksC :: W) (fun r h' => ∃ M', FinOk h M' ∧ h' = .box bl 167 (histC h ++ [intsA a, mpv rd, mpv rf]) :: .map rf (encM int2K (mapA verA M')) :: .map rd (encM intK (mapA bv (dnM (commP h.evs)))) :: .glob 0 186 limitsC :: .glob 2 287 firstC :: .glob 3 290 acceptC :: .glob 1 250 asksC :: W ∧ r = bv (dirQ h s 0)) := dirAsk h la hc a s bl rf rd M hM 0 W
theorem dirAsk1 (h : Hist) (la : Lim 4611686018427387904 h) (hc : checkI h = 0) (a : List Int) (s : Seen) (bl rf rd : Nat) (M : List ((Int × Int) × Ver)) (hM : FinOk h M) (W : List Res) : FCall Tryz.prog (.fn (.func 115) [.v (.pointer (some ⟨bl, 0, none⟩))] []) [.agg (seenR s)] (.box bl 167 (histC h ++ [intsA a, mpv rd, mpv rf]) :: .map rf (encM int2K (mapA verA M)) :: .map rd (encM intK (mapA bv (dnM (commP h.evs)))) :: .glob 0 186 limitsC :: .glob 2 287 firstC :: .glob 3 290 acceptC :: .glob 1 250 asksC :: W) (fun r h' => ∃ M', FinOk h M' ∧ h' = .box bl 167 (histC h ++ [intsA a, mpv rd, mpv rf]) :: .map rf (encM int2K (mapA verA M')) :: .map rd (encM intK (mapA bv (dnM (commP h.evs)))) :: .glob 0 186 limitsC :: .glob 2 287 firstC :: .glob 3 290 acceptC :: .glob 1 250 asksC :: W ∧ r = bv (dirQ h s 1)) := dirAsk h la hc a s bl rf rd M hM 1 W
set_option maxHeartbeats 4000000 in
theorem dirAll1 {σ : Type} (h : Hist) (la : Lim 4611686018427387904 h) (a : List Int) (hd : dirC h a = 0) (hc : checkI h = 0) (hal : a.length = h.ts.length) (y : AV) (b1 bl rf rd : Nat) (M0 : List ((Int × Int) × Ver)) (hM0 : FinOk h M0) (p : List Dirt → σ → Prop) (q : σ → Prop) (I : List Dirt → σ → List Res) (X : σ → List Res) (x0 : σ) (hp0 : p [] x0) (hy : ∀ pre d rest x M, dirL h a = pre ++ d :: rest → p pre x → FinOk h M → FCall Tryz.prog y [.agg (dirR d)] (.box b1 107 [.v (.pointer (some ⟨bl, 0, none⟩))] :: .box bl 167 (histC h ++ [intsA a, mpv rd, mpv rf]) :: .map rf (encM int2K (mapA verA M)) :: .map rd (encM intK (mapA bv (dnM (commP h.evs)))) :: .glob 0 186 limitsC :: .glob 2 287 firstC :: .glob 3 290 acceptC :: .glob 1 250 asksC :: I pre x) (fun r h' => ∃ x', (r = bv true ∧ p (pre ++ [d]) x' ∧ h' = .box b1 107 [.v (.pointer (some ⟨bl, 0, none⟩))] :: .box bl 167 (histC h ++ [intsA a, mpv rd, mpv rf]) :: .map rf (encM int2K (mapA verA M)) :: .map rd (encM intK (mapA bv (dnM (commP h.evs)))) :: .glob 0 186 limitsC :: .glob 2 287 firstC :: .glob 3 290 acceptC :: .glob 1 250 asksC :: I (pre ++ [d]) x') ∨ (r = bv false ∧ q x' ∧ h' = .box b1 107 [.v (.pointer (some ⟨bl, 0, none⟩))] :: .box bl 167 (histC h ++ [intsA a, mpv rd, mpv rf]) :: .map rf (encM int2K (mapA verA M)) :: .map rd (encM intK (mapA bv (dnM (commP h.evs)))) :: .glob 0 186 limitsC :: .glob 2 287 firstC :: .glob 3 290 acceptC :: .glob 1 250 asksC :: X x'))) : ACall Tryz.prog 113 [y, .v (.pointer (some ⟨b1, 0, none⟩))] (.box b1 107 [.v (.pointer (some ⟨bl, 0, none⟩))] :: .box bl 167 (histC h ++ [intsA a, mpv rd, mpv rf]) :: .map rf (encM int2K (mapA verA M0)) :: .map rd (encM intK (mapA bv (dnM (commP h.evs)))) :: .glob 0 186 limitsC :: .glob 2 287 firstC :: .glob 3 290 acceptC :: .glob 1 250 asksC :: I [] x0) (fun r h' => ∃ x M, FinOk h M ∧ ((p (dirL h a) x ∧ h' = .box b1 107 [.v (.pointer (some ⟨bl, 0, none⟩))] :: .box bl 167 (histC h ++ [intsA a, mpv rd, mpv rf]) :: .map rf (encM int2K (mapA verA M)) :: .map rd (encM intK (mapA bv (dnM (commP h.evs)))) :: .glob 0 186 limitsC :: .glob 2 287 firstC :: .glob 3 290 acceptC :: .glob 1 250 asksC :: I (dirL h a) x) ∨ (q x ∧ h' = .box b1 107 [.v (.pointer (some ⟨bl, 0, none⟩))] :: .box bl 167 (histC h ++ [intsA a, mpv rd, mpv rf]) :: .map rf (encM int2K (mapA verA M)) :: .map rd (encM intK (mapA bv (dnM (commP h.evs)))) :: .glob 0 186 limitsC :: .glob 2 287 firstC :: .glob 3 290 acceptC :: .glob 1 250 asksC :: X x))) := by
  refine acall_of_aw Tryz.func113 rfl rfl rfl ?_
  have lA := chk_lim hc
  have lE := lA.evs
  have lT := lA.ts
  refine aw_scope ?_
  refine rn ?_
  refine aops_e rfl (oe_alloc rfl fun b3 => ?_)
  refine rn ?_
  refine aw_rngX h.evs.length (fun k (x : σ × List ((Int × Int) × Ver)) => p (dirK h a k) x.1 ∧ FinOk h x.2) (fun k x => ⟨[(21, iv k), (0, y), (1, .v (.pointer (some ⟨b1, 0, none⟩))), (3, .v (.pointer (some ⟨b3, 0, none⟩))), (19, evsA h.evs), (20, iv (h.evs.map evR).length)], .box b3 170 [.v .nilFunc, .fn (.func 114) [.v (.pointer (some ⟨bl, 0, none⟩))] [], .fn (.func 115) [.v (.pointer (some ⟨bl, 0, none⟩))] []] :: .box b1 107 [.v (.pointer (some ⟨bl, 0, none⟩))] :: .box bl 167 (histC h ++ [intsA a, mpv rd, mpv rf]) :: .map rf (encM int2K (mapA verA x.2)) :: .map rd (encM intK (mapA bv (dnM (commP h.evs)))) :: .glob 0 186 limitsC :: .glob 2 287 firstC :: .glob 3 290 acceptC :: .glob 1 250 asksC :: I (dirK h a k) x.1, []⟩) (x0, M0) ⟨hp0, hM0⟩ es ?_
  intro k x lk zk
  refine rn ?_
  refine aw_cond rfl (fun hc22 => ?_) (fun hc22 => ?_)
  · have hk := ltMap hc22
    have rk := atRow (f := evR) hk
    have mt := may_t (sound_may (checkI_0.1 hc)).1 h.evs[k] (List.getElem_mem hk)
    have hrl : (a.map intR)[h.evs[k].t.toNat]? = some (intR (lvAt a h.evs[k].t)) := lv_row (by omega) (by omega)
    refine rn ?_
    refine aops_e rfl (oe_alloc rfl fun b5 => ?_)
    refine rn ?_
    refine aw_draw 15 rfl ?_
    refine dq rfl rfl qrA ?_
    refine dq rfl rfl qrA ?_
    refine dq rfl rfl qrA ?_
    refine dq rfl rfl qrA ?_
    refine dq rfl rfl qrA ?_
    refine dq rfl rfl qrA ?_
    refine dq rfl rfl (qr_lookT (enc := intK) (k := h.evs[k].t) false rfl rfl) ?_
    refine rn ?_
    refine dsplit (fun hg4_8 => ?_) (fun hg4_8 => ?_)
    · refine rn ?_
      refine aw_ct rfl ?_
      have hg : dirG h a h.evs[k] = false := dirG_n (by first | exact .inl hg4_8 | exact .inr hc44)
      refine rn ?_
      first | exact ⟨hk, x, ⟨by rw [dirK_n hk hg]; exact zk.1, zk.2⟩, by rw [dirK_n hk hg]; exact eA⟩ | exact ⟨hk, x, ⟨by rw [dirK_y hk hg]; exact zj.1, zj.2⟩, by rw [dirK_y hk hg]; exact eA⟩
    · refine rn2 ?_
      refine qq rfl rfl (qr_index_int rfl rfl mt.1 hrl) ?_
      refine rn ?_
      refine aw_cond rfl (fun hc44 => ?_) (fun hc44 => ?_)
      · have hg : dirG h a h.evs[k] = false := dirG_n (by first | exact .inl hg4_8 | exact .inr hc44)
        refine rn ?_
        first | exact ⟨hk, x, ⟨by rw [dirK_n hk hg]; exact zk.1, zk.2⟩, by rw [dirK_n hk hg]; exact eA⟩ | exact ⟨hk, x, ⟨by rw [dirK_y hk hg]; exact zj.1, zj.2⟩, by rw [dirK_y hk hg]; exact eA⟩
      · have hg : dirG h a h.evs[k] = true := dirG_y hg4_8 hc44
        refine aw_skip ?_
        refine rn0 ?_
        refine aw_seq (aw_region ?_)
        refine rn0 ?_
        refine aw_cut (⟨[(6, seensA (seenOf h.evs[k])), (0, y), (1, .v (.pointer (some ⟨b1, 0, none⟩))), (3, .v (.pointer (some ⟨b3, 0, none⟩))), (4, iv k), (5, .v (.pointer (some ⟨b5, 0, none⟩))), (19, evsA h.evs), (20, iv (h.evs.map evR).length), (21, iv k)], .box b5 56 (evR h.evs[k]) :: .box b3 170 [.v .nilFunc, .fn (.func 114) [.v (.pointer (some ⟨bl, 0, none⟩))] [], .fn (.func 115) [.v (.pointer (some ⟨bl, 0, none⟩))] []] :: .box b1 107 [.v (.pointer (some ⟨bl, 0, none⟩))] :: .box bl 167 (histC h ++ [intsA a, mpv rd, mpv rf]) :: .map rf (encM int2K (mapA verA x.2)) :: .map rd (encM intK (mapA bv (dnM (commP h.evs)))) :: .glob 0 186 limitsC :: .glob 2 287 firstC :: .glob 3 290 acceptC :: .glob 1 250 asksC :: I (dirK h a k) x.1, []⟩) ?_ ?_
        · refine rn ?_
          refine aw_cond rfl (fun hc49 => ?_) (fun hc49 => ?_)
          · refine rn ?_
            refine qv rfl rfl (qv_buildSlice rfl rfl) ?_
            refine qq rfl rfl (qr_weak (fun w O v hr => hr.unfull) (qr_assign rfl)) ?_
            refine rn ?_
            first | (rw [seenOf, if_pos (by simpa using hc49)]; exact eA) | (rw [seenOf, if_neg (by simpa using hc49)]; exact eA)
          · refine rn ?_
            first | (rw [seenOf, if_pos (by simpa using hc49)]; exact eA) | (rw [seenOf, if_neg (by simpa using hc49)]; exact eA)
        · refine rn ?_
          refine aw_rngX (seenOf h.evs[k]).length (fun j (x : σ × List ((Int × Int) × Ver)) => p (dirK h a k ++ ((seenOf h.evs[k]).take j).flatMap (dirS h k h.evs[k])) x.1 ∧ FinOk h x.2) (fun j x => ⟨[(58, iv j), (0, y), (1, .v (.pointer (some ⟨b1, 0, none⟩))), (3, .v (.pointer (some ⟨b3, 0, none⟩))), (4, iv k), (5, .v (.pointer (some ⟨b5, 0, none⟩))), (19, evsA h.evs), (20, iv (h.evs.map evR).length), (21, iv k), (56, seensA (seenOf h.evs[k])), (57, iv ((seenOf h.evs[k]).map seenR).length)], .box b5 56 (evR h.evs[k]) :: .box b3 170 [.v .nilFunc, .fn (.func 114) [.v (.pointer (some ⟨bl, 0, none⟩))] [], .fn (.func 115) [.v (.pointer (some ⟨bl, 0, none⟩))] []] :: .box b1 107 [.v (.pointer (some ⟨bl, 0, none⟩))] :: .box bl 167 (histC h ++ [intsA a, mpv rd, mpv rf]) :: .map rf (encM int2K (mapA verA x.2)) :: .map rd (encM intK (mapA bv (dnM (commP h.evs)))) :: .glob 0 186 limitsC :: .glob 2 287 firstC :: .glob 3 290 acceptC :: .glob 1 250 asksC :: I (dirK h a k ++ ((seenOf h.evs[k]).take j).flatMap (dirS h k h.evs[k])) x.1, []⟩) x (by simpa using zk) (by simpa using eA) ?_
          intro j x lj zj
          refine rn ?_
          refine aw_cond rfl (fun hc59 => ?_) (fun hc59 => ?_)
          · have hj := ltMap hc59
            have rj := atRow (f := seenR) hj
            have bj := seenOf_len (e := h.evs[k]) (Nat.le_trans (lA.scans h.evs[k] (List.getElem_mem hk)) (by decide))
            refine rn ?_
            refine aops_e rfl (oe_alloc rfl fun b8 => ?_)
            refine rn ?_
            refine asplit (fun hg11_4 => ?_) (fun hg11_4 => ?_)
            · refine rn ?_
              refine aw_ct rfl ?_
              have hn : dirN h.evs[k] (seenOf h.evs[k])[j] = true := by rw [dirN]; first | (rw [hg11_4]; rfl) | (rw [hg11_4, hc73]; rfl)
              refine rn ?_
              first | exact ⟨hj, x, ⟨by rw [flat_n hj hn]; exact zj.1, zj.2⟩, by rw [flat_n hj hn]; exact eA⟩ | exact ⟨hj, x, ⟨by rw [flat_y hj hn]; exact zc.1, zc.2⟩, by rw [flat_y hj hn]; exact eA⟩
            · refine rn ?_
              refine aw_cond rfl (fun hc73 => ?_) (fun hc73 => ?_)
              · have hn : dirN h.evs[k] (seenOf h.evs[k])[j] = true := by rw [dirN]; first | (rw [hg11_4]; rfl) | (rw [hg11_4, hc73]; rfl)
                refine rn ?_
                first | exact ⟨hj, x, ⟨by rw [flat_n hj hn]; exact zj.1, zj.2⟩, by rw [flat_n hj hn]; exact eA⟩ | exact ⟨hj, x, ⟨by rw [flat_y hj hn]; exact zc.1, zc.2⟩, by rw [flat_y hj hn]; exact eA⟩
              · have hn : dirN h.evs[k] (seenOf h.evs[k])[j] = false := by rw [dirN, hg11_4, hc73]; rfl
                refine rn ?_
                refine aw_rngX 2 (fun c (x : σ × List ((Int × Int) × Ver)) => p ((dirK h a k ++ ((seenOf h.evs[k]).take j).flatMap (dirS h k h.evs[k])) ++ dirT h k (seenOf h.evs[k])[j] c) x.1 ∧ FinOk h x.2) (fun c x => ⟨[(9, iv ((c + 1 : Nat) : Int)), (0, y), (1, .v (.pointer (some ⟨b1, 0, none⟩))), (3, .v (.pointer (some ⟨b3, 0, none⟩))), (4, iv k), (5, .v (.pointer (some ⟨b5, 0, none⟩))), (8, .v (.pointer (some ⟨b8, 0, none⟩))), (19, evsA h.evs), (20, iv (h.evs.map evR).length), (21, iv k), (56, seensA (seenOf h.evs[k])), (57, iv ((seenOf h.evs[k]).map seenR).length), (58, iv j)], .box b8 59 (seenR (seenOf h.evs[k])[j]) :: .box b5 56 (evR h.evs[k]) :: .box b3 170 [.v .nilFunc, .fn (.func 114) [.v (.pointer (some ⟨bl, 0, none⟩))] [], .fn (.func 115) [.v (.pointer (some ⟨bl, 0, none⟩))] []] :: .box b1 107 [.v (.pointer (some ⟨bl, 0, none⟩))] :: .box bl 167 (histC h ++ [intsA a, mpv rd, mpv rf]) :: .map rf (encM int2K (mapA verA x.2)) :: .map rd (encM intK (mapA bv (dnM (commP h.evs)))) :: .glob 0 186 limitsC :: .glob 2 287 firstC :: .glob 3 290 acceptC :: .glob 1 250 asksC :: I ((dirK h a k ++ ((seenOf h.evs[k]).take j).flatMap (dirS h k h.evs[k])) ++ dirT h k (seenOf h.evs[k])[j] c) x.1, []⟩) x (by simpa [dirT] using zj) (by simpa [dirT] using eA) ?_
                intro c x lc zc
                refine rn ?_
                refine aw_cond rfl (fun hc75 => ?_) (fun hc75 => ?_)
                · have hc2 : c < 2 := by have q := of_decide_eq_true hc75; omega
                  refine aw_skip ?_
                  refine rn0 ?_
                  refine aw_seq ?_
                  refine aw_block ?_
                  refine aw_seq ?_
                  refine spl4 (h := h) (s := (seenOf h.evs[k])[j]) hc2 (fun e hq => ?_) (fun e hq => ?_) (fun e hq => ?_) (fun e hq => ?_)
                  · have hL := fun hq1 : dirQ h (seenOf h.evs[k])[j] c = true => dirL_pre (a := a) hk hg hj hn hc2 hq1
                    obtain ⟨PRE, hPRE⟩ : ∃ z, z = ((dirK h a k ++ ((seenOf h.evs[k]).take j).flatMap (dirS h k h.evs[k])) ++ dirT h k (seenOf h.evs[k])[j] c) := ⟨_, rfl⟩
                    rw [← hPRE] at zc hL
                    rw [← hPRE]
                    subst e
                    refine aw_drawX 14 [4] [5, 6, 7, 8, 9, 10, 11, 12, 13] (fun he => ∃ M, he = .box b8 59 (seenR (seenOf h.evs[k])[j]) :: .box b5 56 (evR h.evs[k]) :: .box b3 170 [.v .nilFunc, .fn (.func 114) [.v (.pointer (some ⟨bl, 0, none⟩))] [], .fn (.func 115) [.v (.pointer (some ⟨bl, 0, none⟩))] []] :: .box b1 107 [.v (.pointer (some ⟨bl, 0, none⟩))] :: .box bl 167 (histC h ++ [intsA a, mpv rd, mpv rf]) :: .map rf (encM int2K (mapA verA M)) :: .map rd (encM intK (mapA bv (dnM (commP h.evs)))) :: .glob 0 186 limitsC :: .glob 2 287 firstC :: .glob 3 290 acceptC :: .glob 1 250 asksC :: I PRE x.1) rfl rfl ⟨_, rfl⟩ ?_
                    refine jq rfl (fun he hC => by obtain ⟨M, rfl⟩ := hC <;> exact qrA) ?_
                    refine jq rfl (fun he hC => by obtain ⟨M, rfl⟩ := hC <;> exact qrA) ?_
                    refine jq rfl (fun he hC => by obtain ⟨M, rfl⟩ := hC <;> exact qrA) ?_
                    refine jq rfl (fun he hC => by obtain ⟨M, rfl⟩ := hC <;> exact qrA) ?_
                    refine je rfl ?_
                    refine je rfl ?_
                    refine je rfl ?_
                    refine je rfl ?_
                    refine je rfl ?_
                    refine je rfl ?_
                    refine je rfl ?_
                    refine je rfl ?_
                    refine je rfl ?_
                    refine je rfl ?_
                    refine jnil ?_
                    refine jce rfl fun u => ?_
                    first | refine oe_call rfl rfl (FCall.fr1 (FCall.fr1 (FCall.fr1 (FCall.fr1 (dirAsk0 h la hc a (seenOf h.evs[k])[j] bl rf rd x.2 zc.2 (I PRE x.1)))))) rfl ?_ | refine oe_call rfl rfl (FCall.fr1 (FCall.fr1 (FCall.fr1 (FCall.fr1 (dirAsk1 h la hc a (seenOf h.evs[k])[j] bl rf rd x.2 zc.2 (I PRE x.1)))))) rfl ?_
                    rintro _ _ ⟨_, rfl, _, rfl, _, rfl, _, rfl, M2, hM2, rfl, rfl⟩
                    rw [hq]
                    refine ⟨_, _, rfl, ⟨_, rfl⟩, ?_⟩
                    refine jcn ?_
                    refine lq rfl rfl (by exact qrA) ?_
                    refine lq rfl rfl (by exact qrA) ?_
                    refine lq rfl rfl (by exact qrA) ?_
                    refine lq rfl rfl (by exact qrA) ?_
                    refine lq rfl rfl (by exact qrA) ?_
                    refine lq rfl rfl (by exact qrA) ?_
                    refine lq rfl rfl (by exact qrA) ?_
                    refine lq rfl rfl (by exact qrA) ?_
                    refine lq rfl rfl (by exact qrA) ?_
                    refine ln ?_
                    obtain ⟨rest, hL'⟩ := hL hq
                    refine aops_e rfl (oe_call rfl rfl (FCall.fr1 (FCall.fr1 (FCall.fr1 (hy PRE _ rest x.1 M2 hL' zc.1 hM2)))) rfl ?_)
                    rintro _ _ ⟨_, rfl, _, rfl, _, rfl, x', ⟨rfl, hp', rfl⟩ | ⟨rfl, hq', rfl⟩⟩
                    · refine rn ?_
                      refine aw_cond rfl (fun hc94 => ?_) (fun hc94 => ?_)
                      · first | cases hc94 | exact absurd hc94 (by decide) | (exfalso; simp_all; done)
                      · refine rn ?_
                        first | exact ⟨by omega, (x.1, M2), ⟨by rw [pc_n hq, ← hPRE]; exact zc.1, hM2⟩, by rw [pc_n hq, ← hPRE]; exact eA⟩ | exact ⟨by omega, (x', M2), ⟨by rw [pc_y hq, ← hPRE]; exact hp', hM2⟩, by rw [pc_y hq, ← hPRE]; exact eA⟩
                    · refine rn ?_
                      refine aw_cond rfl (fun hc94 => ?_) (fun hc94 => ?_)
                      · refine rn ?_
                        refine ⟨fun l h => (by cases h), ?_⟩
                        exact retq .nil (.drop [_, _, _] _ _) ⟨x', M2, hM2, .inr ⟨hq', rfl⟩⟩
                      · first | cases hc94 | exact absurd hc94 (by decide) | (exfalso; simp_all; done)
                  · have hL := fun hq1 : dirQ h (seenOf h.evs[k])[j] c = true => dirL_pre (a := a) hk hg hj hn hc2 hq1
                    obtain ⟨PRE, hPRE⟩ : ∃ z, z = ((dirK h a k ++ ((seenOf h.evs[k]).take j).flatMap (dirS h k h.evs[k])) ++ dirT h k (seenOf h.evs[k])[j] c) := ⟨_, rfl⟩
                    rw [← hPRE] at zc hL
                    rw [← hPRE]
                    subst e
                    refine aw_drawX 14 [4] [5, 6, 7, 8, 9, 10, 11, 12, 13] (fun he => ∃ M, he = .box b8 59 (seenR (seenOf h.evs[k])[j]) :: .box b5 56 (evR h.evs[k]) :: .box b3 170 [.v .nilFunc, .fn (.func 114) [.v (.pointer (some ⟨bl, 0, none⟩))] [], .fn (.func 115) [.v (.pointer (some ⟨bl, 0, none⟩))] []] :: .box b1 107 [.v (.pointer (some ⟨bl, 0, none⟩))] :: .box bl 167 (histC h ++ [intsA a, mpv rd, mpv rf]) :: .map rf (encM int2K (mapA verA M)) :: .map rd (encM intK (mapA bv (dnM (commP h.evs)))) :: .glob 0 186 limitsC :: .glob 2 287 firstC :: .glob 3 290 acceptC :: .glob 1 250 asksC :: I PRE x.1) rfl rfl ⟨_, rfl⟩ ?_
                    refine jq rfl (fun he hC => by obtain ⟨M, rfl⟩ := hC <;> exact qrA) ?_
                    refine jq rfl (fun he hC => by obtain ⟨M, rfl⟩ := hC <;> exact qrA) ?_
                    refine jq rfl (fun he hC => by obtain ⟨M, rfl⟩ := hC <;> exact qrA) ?_
                    refine jq rfl (fun he hC => by obtain ⟨M, rfl⟩ := hC <;> exact qrA) ?_
                    refine je rfl ?_
                    refine je rfl ?_
                    refine je rfl ?_
                    refine je rfl ?_
                    refine je rfl ?_
                    refine je rfl ?_
                    refine je rfl ?_
                    refine je rfl ?_
                    refine je rfl ?_
                    refine je rfl ?_
                    refine jnil ?_
                    refine jce rfl fun u => ?_
                    first | refine oe_call rfl rfl (FCall.fr1 (FCall.fr1 (FCall.fr1 (FCall.fr1 (dirAsk0 h la hc a (seenOf h.evs[k])[j] bl rf rd x.2 zc.2 (I PRE x.1)))))) rfl ?_ | refine oe_call rfl rfl (FCall.fr1 (FCall.fr1 (FCall.fr1 (FCall.fr1 (dirAsk1 h la hc a (seenOf h.evs[k])[j] bl rf rd x.2 zc.2 (I PRE x.1)))))) rfl ?_
                    rintro _ _ ⟨_, rfl, _, rfl, _, rfl, _, rfl, M2, hM2, rfl, rfl⟩
                    rw [hq]
                    refine ⟨_, _, rfl, ⟨_, rfl⟩, ?_⟩
                    refine jcn ?_
                    refine lq rfl rfl (by exact qrA) ?_
                    refine lsk rfl rfl ?_
                    refine lsk rfl rfl ?_
                    refine lsk rfl rfl ?_
                    refine lsk rfl rfl ?_
                    refine lsk rfl rfl ?_
                    refine lsk rfl rfl ?_
                    refine lsk rfl rfl ?_
                    refine lsk rfl rfl ?_
                    refine ln ?_
                    refine rn ?_
                    refine aw_cond rfl (fun hc94 => ?_) (fun hc94 => ?_)
                    · first | cases hc94 | exact absurd hc94 (by decide) | (exfalso; simp_all; done)
                    · refine rn ?_
                      first | exact ⟨by omega, (x.1, M2), ⟨by rw [pc_n hq, ← hPRE]; exact zc.1, hM2⟩, by rw [pc_n hq, ← hPRE]; exact eA⟩ | exact ⟨by omega, (x', M2), ⟨by rw [pc_y hq, ← hPRE]; exact hp', hM2⟩, by rw [pc_y hq, ← hPRE]; exact eA⟩
                  · have hL := fun hq1 : dirQ h (seenOf h.evs[k])[j] c = true => dirL_pre (a := a) hk hg hj hn hc2 hq1
                    obtain ⟨PRE, hPRE⟩ : ∃ z, z = ((dirK h a k ++ ((seenOf h.evs[k]).take j).flatMap (dirS h k h.evs[k])) ++ dirT h k (seenOf h.evs[k])[j] c) := ⟨_, rfl⟩
                    rw [← hPRE] at zc hL
                    rw [← hPRE]
                    subst e
                    refine aw_drawX 14 [4] [5, 6, 7, 8, 9, 10, 11, 12, 13] (fun he => ∃ M, he = .box b8 59 (seenR (seenOf h.evs[k])[j]) :: .box b5 56 (evR h.evs[k]) :: .box b3 170 [.v .nilFunc, .fn (.func 114) [.v (.pointer (some ⟨bl, 0, none⟩))] [], .fn (.func 115) [.v (.pointer (some ⟨bl, 0, none⟩))] []] :: .box b1 107 [.v (.pointer (some ⟨bl, 0, none⟩))] :: .box bl 167 (histC h ++ [intsA a, mpv rd, mpv rf]) :: .map rf (encM int2K (mapA verA M)) :: .map rd (encM intK (mapA bv (dnM (commP h.evs)))) :: .glob 0 186 limitsC :: .glob 2 287 firstC :: .glob 3 290 acceptC :: .glob 1 250 asksC :: I PRE x.1) rfl rfl ⟨_, rfl⟩ ?_
                    refine jq rfl (fun he hC => by obtain ⟨M, rfl⟩ := hC <;> exact qrA) ?_
                    refine jq rfl (fun he hC => by obtain ⟨M, rfl⟩ := hC <;> exact qrA) ?_
                    refine jq rfl (fun he hC => by obtain ⟨M, rfl⟩ := hC <;> exact qrA) ?_
                    refine jq rfl (fun he hC => by obtain ⟨M, rfl⟩ := hC <;> exact qrA) ?_
                    refine je rfl ?_
                    refine je rfl ?_
                    refine je rfl ?_
                    refine je rfl ?_
                    refine je rfl ?_
                    refine je rfl ?_
                    refine je rfl ?_
                    refine je rfl ?_
                    refine je rfl ?_
                    refine je rfl ?_
                    refine jnil ?_
                    refine jce rfl fun u => ?_
                    first | refine oe_call rfl rfl (FCall.fr1 (FCall.fr1 (FCall.fr1 (FCall.fr1 (dirAsk0 h la hc a (seenOf h.evs[k])[j] bl rf rd x.2 zc.2 (I PRE x.1)))))) rfl ?_ | refine oe_call rfl rfl (FCall.fr1 (FCall.fr1 (FCall.fr1 (FCall.fr1 (dirAsk1 h la hc a (seenOf h.evs[k])[j] bl rf rd x.2 zc.2 (I PRE x.1)))))) rfl ?_
                    rintro _ _ ⟨_, rfl, _, rfl, _, rfl, _, rfl, M2, hM2, rfl, rfl⟩
                    rw [hq]
                    refine ⟨_, _, rfl, ⟨_, rfl⟩, ?_⟩
                    refine jcn ?_
                    refine lq rfl rfl (by exact qrA) ?_
                    refine lq rfl rfl (by exact qrA) ?_
                    refine lq rfl rfl (by exact qrA) ?_
                    refine lq rfl rfl (by exact qrA) ?_
                    refine lq rfl rfl (by exact qrA) ?_
                    refine lq rfl rfl (by exact qrA) ?_
                    refine lq rfl rfl (by exact qrA) ?_
                    refine lq rfl rfl (by exact qrA) ?_
                    refine lq rfl rfl (by exact qrA) ?_
                    refine ln ?_
                    obtain ⟨rest, hL'⟩ := hL hq
                    refine aops_e rfl (oe_call rfl rfl (FCall.fr1 (FCall.fr1 (FCall.fr1 (hy PRE _ rest x.1 M2 hL' zc.1 hM2)))) rfl ?_)
                    rintro _ _ ⟨_, rfl, _, rfl, _, rfl, x', ⟨rfl, hp', rfl⟩ | ⟨rfl, hq', rfl⟩⟩
                    · refine rn ?_
                      refine aw_cond rfl (fun hc94 => ?_) (fun hc94 => ?_)
                      · first | cases hc94 | exact absurd hc94 (by decide) | (exfalso; simp_all; done)
                      · refine rn ?_
                        first | exact ⟨by omega, (x.1, M2), ⟨by rw [pc_n hq, ← hPRE]; exact zc.1, hM2⟩, by rw [pc_n hq, ← hPRE]; exact eA⟩ | exact ⟨by omega, (x', M2), ⟨by rw [pc_y hq, ← hPRE]; exact hp', hM2⟩, by rw [pc_y hq, ← hPRE]; exact eA⟩
                    · refine rn ?_
                      refine aw_cond rfl (fun hc94 => ?_) (fun hc94 => ?_)
                      · refine rn ?_
                        refine ⟨fun l h => (by cases h), ?_⟩
                        exact retq .nil (.drop [_, _, _] _ _) ⟨x', M2, hM2, .inr ⟨hq', rfl⟩⟩
                      · first | cases hc94 | exact absurd hc94 (by decide) | (exfalso; simp_all; done)
                  · have hL := fun hq1 : dirQ h (seenOf h.evs[k])[j] c = true => dirL_pre (a := a) hk hg hj hn hc2 hq1
                    obtain ⟨PRE, hPRE⟩ : ∃ z, z = ((dirK h a k ++ ((seenOf h.evs[k]).take j).flatMap (dirS h k h.evs[k])) ++ dirT h k (seenOf h.evs[k])[j] c) := ⟨_, rfl⟩
                    rw [← hPRE] at zc hL
                    rw [← hPRE]
                    subst e
                    refine aw_drawX 14 [4] [5, 6, 7, 8, 9, 10, 11, 12, 13] (fun he => ∃ M, he = .box b8 59 (seenR (seenOf h.evs[k])[j]) :: .box b5 56 (evR h.evs[k]) :: .box b3 170 [.v .nilFunc, .fn (.func 114) [.v (.pointer (some ⟨bl, 0, none⟩))] [], .fn (.func 115) [.v (.pointer (some ⟨bl, 0, none⟩))] []] :: .box b1 107 [.v (.pointer (some ⟨bl, 0, none⟩))] :: .box bl 167 (histC h ++ [intsA a, mpv rd, mpv rf]) :: .map rf (encM int2K (mapA verA M)) :: .map rd (encM intK (mapA bv (dnM (commP h.evs)))) :: .glob 0 186 limitsC :: .glob 2 287 firstC :: .glob 3 290 acceptC :: .glob 1 250 asksC :: I PRE x.1) rfl rfl ⟨_, rfl⟩ ?_
                    refine jq rfl (fun he hC => by obtain ⟨M, rfl⟩ := hC <;> exact qrA) ?_
                    refine jq rfl (fun he hC => by obtain ⟨M, rfl⟩ := hC <;> exact qrA) ?_
                    refine jq rfl (fun he hC => by obtain ⟨M, rfl⟩ := hC <;> exact qrA) ?_
                    refine jq rfl (fun he hC => by obtain ⟨M, rfl⟩ := hC <;> exact qrA) ?_
                    refine je rfl ?_
                    refine je rfl ?_
                    refine je rfl ?_
                    refine je rfl ?_
                    refine je rfl ?_
                    refine je rfl ?_
                    refine je rfl ?_
                    refine je rfl ?_
                    refine je rfl ?_
                    refine je rfl ?_
                    refine jnil ?_
                    refine jce rfl fun u => ?_
                    first | refine oe_call rfl rfl (FCall.fr1 (FCall.fr1 (FCall.fr1 (FCall.fr1 (dirAsk0 h la hc a (seenOf h.evs[k])[j] bl rf rd x.2 zc.2 (I PRE x.1)))))) rfl ?_ | refine oe_call rfl rfl (FCall.fr1 (FCall.fr1 (FCall.fr1 (FCall.fr1 (dirAsk1 h la hc a (seenOf h.evs[k])[j] bl rf rd x.2 zc.2 (I PRE x.1)))))) rfl ?_
                    rintro _ _ ⟨_, rfl, _, rfl, _, rfl, _, rfl, M2, hM2, rfl, rfl⟩
                    rw [hq]
                    refine ⟨_, _, rfl, ⟨_, rfl⟩, ?_⟩
                    refine jcn ?_
                    refine lq rfl rfl (by exact qrA) ?_
                    refine lsk rfl rfl ?_
                    refine lsk rfl rfl ?_
                    refine lsk rfl rfl ?_
                    refine lsk rfl rfl ?_
                    refine lsk rfl rfl ?_
                    refine lsk rfl rfl ?_
                    refine lsk rfl rfl ?_
                    refine lsk rfl rfl ?_
                    refine ln ?_
                    refine rn ?_
                    refine aw_cond rfl (fun hc94 => ?_) (fun hc94 => ?_)
                    · first | cases hc94 | exact absurd hc94 (by decide) | (exfalso; simp_all; done)
                    · refine rn ?_
                      first | exact ⟨by omega, (x.1, M2), ⟨by rw [pc_n hq, ← hPRE]; exact zc.1, hM2⟩, by rw [pc_n hq, ← hPRE]; exact eA⟩ | exact ⟨by omega, (x', M2), ⟨by rw [pc_y hq, ← hPRE]; exact hp', hM2⟩, by rw [pc_y hq, ← hPRE]; exact eA⟩
                · have qc : c = 2 := by have q := of_decide_eq_false hc75; omega
                  subst qc
                  refine rn ?_
                  first | exact ⟨hj, x, ⟨by rw [flat_n hj hn]; exact zj.1, zj.2⟩, by rw [flat_n hj hn]; exact eA⟩ | exact ⟨hj, x, ⟨by rw [flat_y hj hn]; exact zc.1, zc.2⟩, by rw [flat_y hj hn]; exact eA⟩
          · have qj := geMap hc59 lj
            subst qj
            rw [List.take_length] at zj
            rw [List.take_length]
            refine rn ?_
            first | exact ⟨hk, x, ⟨by rw [dirK_n hk hg]; exact zk.1, zk.2⟩, by rw [dirK_n hk hg]; exact eA⟩ | exact ⟨hk, x, ⟨by rw [dirK_y hk hg]; exact zj.1, zj.2⟩, by rw [dirK_y hk hg]; exact eA⟩
  · have qk := geMap hc22 lk
    subst qk
    refine rn ?_
    refine ⟨fun l h => (by cases h), ?_⟩
    exact retq_n .nil (.drop [_] _ _) ⟨x.1, x.2, zk.2, .inl ⟨zk.1, rfl⟩⟩
end Go.Proofs
/- Comparisons of structs of numbers. Conditions: none. -/
set_option linter.unusedVariables false
set_option linter.unusedSimpArgs false
set_option maxRecDepth 10000
namespace Go.Proofs
open Go Go.Ab
instance : EqInts Tryz.prog 40 5 := ⟨by kernel_rfl, fun w xs ys h1 h2 => match xs, ys, h1, h2 with
  | [a0, a1, a2, a3, a4], [c0, c1, c2, c3, c4], _, _ => by
    rw [run_equalIn_struct w 9999 40 _ _ (by kernel_rfl) (by kernel_rfl)]
    simp only [Program.fieldsOf, Tryz.underlying40]
    simp [Op.eqFields, part, eqT38 9997, run_equalIn_int _ 9998 3 .i64 .i64 _ _ Tryz.underlying3]
    by_cases h0 : a0 = c0
    case neg => simp [h0]
    subst h0
    by_cases h1 : a1 = c1
    case neg => simp [h1]
    subst h1
    by_cases h2 : a2 = c2
    case neg => simp [h2]
    subst h2
    by_cases h3 : a3 = c3
    case neg => simp [h3]
    subst h3
    by_cases h4 : a4 = c4
    case neg => simp [h4]
    subst h4
    simp⟩
end Go.Proofs
