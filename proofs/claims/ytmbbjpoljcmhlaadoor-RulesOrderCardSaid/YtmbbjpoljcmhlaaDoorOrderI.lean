/- The walk of history.spoken, reading. Conditions: none. -/
import Derived.Test.YtmbbjpoljcmhlaaDoorOrderH
import Derived.Test.YtmbbjpoljcmhlaaDoorCards
set_option linter.unusedSimpArgs false
set_option linter.unusedVariables false
set_option linter.unusedVariables false
set_option linter.unusedSimpArgs false
set_option maxRecDepth 10000
namespace Go.Proofs
open Go Go.Ab
attribute [local irreducible] QR QV OE aops aw dsoup dsoupM dalloc dallocM thn inBlk
open Go.H
theorem sayR {σ : Type} (step : σ → Nat × Int → Option σ) (ok : Nat × Int → Prop) (IJ : Option σ → List Res → Prop) (y : AV) (hy : ∀ (s : σ) (L : List Res) (sort : Nat) (n : Int) (cells : List AV), ok (sort, n) → IJ (some s) L → FCall Tryd.prog y [iv sort, .pp (iv n :: cells)] L (fun r h' => r = bv (step s (sort, n)).isSome ∧ IJ (step s (sort, n)) h')) (sort : Nat) (n : Int) (hs : ok (sort, n)) (cells : List AV) (bm by_ : Nat) (st : Option σ) (L : List Res) (hI : IJ st L) : ACall Tryd.prog 37 [iv sort, .pp (iv n :: cells), .v (.pointer (some ⟨bm, 0, none⟩)), .v (.pointer (some ⟨by_, 0, none⟩))] (.box bm 4 [bv (st).isSome] :: .box by_ 97 [y] :: L) (fun r h' => ∃ L', IJ (goes step st [(sort, n)]) L' ∧ h' = .box bm 4 [bv (goes step st [(sort, n)]).isSome] :: .box by_ 97 [y] :: L') := by
  refine acall_of_aw Tryd.func37 rfl rfl rfl ?_
  refine rn ?_
  refine asplit (fun hg0_1 => ?_) (fun hg0_1 => ?_)
  · refine rn ?_
    obtain ⟨s, rfl⟩ := Option.isSome_iff_exists.1 hg0_1
    refine aops_e rfl (oe_call rfl rfl (FCall.fr2 (hy s L sort n cells hs hI)) rfl ?_)
    rintro _ _ ⟨L2, rfl, rfl, hI2⟩
    refine rn ?_
    first
      | exact retq_n .nil (.refl _ _) ⟨L2, hI2, rfl⟩
      | (obtain rfl := Option.not_isSome_iff_eq_none.1 (show ¬ st.isSome = true by simp [hg0_1])
         exact retq_n .nil (.refl _ _) ⟨L, hI, rfl⟩)
  · refine rn ?_
    first
      | exact retq_n .nil (.refl _ _) ⟨L2, hI2, rfl⟩
      | (obtain rfl := Option.not_isSome_iff_eq_none.1 (show ¬ st.isSome = true by simp [hg0_1])
         exact retq_n .nil (.refl _ _) ⟨L, hI, rfl⟩)
theorem madeR {σ : Type} (step : σ → Nat × Int → Option σ) (ok : Nat × Int → Prop) (IJ : Option σ → List Res → Prop) (y : AV) (hy : ∀ (s : σ) (L : List Res) (sort : Nat) (n : Int) (cells : List AV), ok (sort, n) → IJ (some s) L → FCall Tryd.prog y [iv sort, .pp (iv n :: cells)] L (fun r h' => r = bv (step s (sort, n)).isSome ∧ IJ (step s (sort, n)) h')) (v : Ver) (hv : ∀ x ∈ madeL v, ok x) (cells : List AV) (bs bm by_ : Nat) (st : Option σ) (L : List Res) (hI : IJ st L) : ACall Tryd.prog 38 [.pp (iv v.t :: iv v.k :: cells), .v (.pointer (some ⟨bs, 0, none⟩))] (.box bs 98 [.fn (.func 37) [] [.v (.pointer (some ⟨bm, 0, none⟩)), .v (.pointer (some ⟨by_, 0, none⟩))]] :: .box bm 4 [bv (st).isSome] :: .box by_ 97 [y] :: L) (fun r h' => ∃ L', IJ (goes step st (madeL v)) L' ∧ h' = .box bs 98 [.fn (.func 37) [] [.v (.pointer (some ⟨bm, 0, none⟩)), .v (.pointer (some ⟨by_, 0, none⟩))]] :: .box bm 4 [bv (goes step st (madeL v)).isSome] :: .box by_ 97 [y] :: L') := by
  refine acall_of_aw Tryd.func38 rfl rfl rfl ?_
  refine rn ?_
  refine aw_cond rfl (fun hc7 => ?_) (fun hc7 => ?_)
  · refine aw_draw 4 rfl ?_
    refine rn ?_
    refine aops_e rfl (oe_call rfl rfl (FCall.fr1 (FCall.of_acall (fs := []) (cs := [.v (.pointer (some ⟨bm, 0, none⟩)), .v (.pointer (some ⟨by_, 0, none⟩))]) (sayR step ok IJ y hy 0 v.t (hv _ (by rw [madeL, if_pos hc7]; simp)) (iv v.k :: cells) bm by_ _ _ hI))) rfl ?_)
    rintro _ _ ⟨_, rfl, L2, hI2, rfl⟩
    refine rn ?_
    first
      | (have hm : madeL v = [(0, v.t)] := by rw [madeL, if_pos hc7]
         rw [hm]; exact retq_n .nil (.refl _ _) ⟨L2, hI2, rfl⟩)
      | (have hm : madeL v = [] := by rw [madeL, if_neg (by rw [hc7]; decide)]
         rw [hm]; exact retq_n .nil (.refl _ _) ⟨L, hI, rfl⟩)
  · refine rn ?_
    first
      | (have hm : madeL v = [(0, v.t)] := by rw [madeL, if_pos hc7]
         rw [hm]; exact retq_n .nil (.refl _ _) ⟨L2, hI2, rfl⟩)
      | (have hm : madeL v = [] := by rw [madeL, if_neg (by rw [hc7]; decide)]
         rw [hm]; exact retq_n .nil (.refl _ _) ⟨L, hI, rfl⟩)
theorem spokenR {σ : Type} (step : σ → Nat × Int → Option σ) (ok : Nat × Int → Prop) (IJ : Option σ → List Res → Prop) (y : AV) (hone : y.cellsOf = some [y]) (hy : ∀ (s : σ) (L : List Res) (sort : Nat) (n : Int) (cells : List AV), ok (sort, n) → IJ (some s) L → FCall Tryd.prog y [iv sort, .pp (iv n :: cells)] L (fun r h' => r = bv (step s (sort, n)).isSome ∧ IJ (step s (sort, n)) h')) (h : Hist) (la : Lim 4611686018427387904 h) (b1 bh : Nat) (hok : ∀ x ∈ spokenL h, ok x) (s0 : σ) (L0 : List Res) (h0 : IJ (some s0) L0) : ACall Tryd.prog 36 [y, .v (.pointer (some ⟨b1, 0, none⟩))] (.box b1 76 [.v (.pointer (some ⟨bh, 0, none⟩))] :: .box bh 28 (histC h) :: L0) (fun r h' => ∃ L', IJ (goes step (some s0) (spokenL h)) L' ∧ h' = .box b1 76 [.v (.pointer (some ⟨bh, 0, none⟩))] :: .box bh 28 (histC h) :: L') := by
  refine acall_of_aw Tryd.func36 rfl rfl rfl ?_
  refine rn ?_
  refine aops_e rfl (oe_box rfl hone rfl fun by_ => ?_)
  refine rn ?_
  refine aops_e rfl (oe_alloc rfl fun bm => ?_)
  refine rn ?_
  refine aops_e rfl (oe_alloc rfl fun bs => ?_)
  refine rn ?_
  refine aw_loop' (fun x : Nat × Option σ × List Res => x.1 ≤ h.evs.length ∧ IJ x.2.1 x.2.2 ∧ Rem step ok x.2.1 (((h.evs.drop x.1).flatMap evL) ++ (h.ords.flatMap ordL ++ (h.mats.flatMap matL ++ h.wants.flatMap wanL))) (goes step (some s0) (spokenL h))) (fun x => ⟨[(22, iv x.1), (21, iv (h.evs.map evR).length), (1, .v (.pointer (some ⟨b1, 0, none⟩))), (4, .v (.pointer (some ⟨bs, 0, none⟩))), (5, .fn (.func 38) [] [.v (.pointer (some ⟨bs, 0, none⟩))])], .box b1 76 [.v (.pointer (some ⟨bh, 0, none⟩))] :: .box bh 28 (histC h) :: .box bs 98 [.fn (.func 37) [] [.v (.pointer (some ⟨bm, 0, none⟩)), .v (.pointer (some ⟨by_, 0, none⟩))]] :: .box bm 4 [bv (x.2.1).isSome] :: .box by_ 97 [y] :: x.2.2, []⟩) (fun x => h.evs.length - x.1) (0, some s0, L0) ⟨by omega, h0, rfl, hok⟩
    (ent_trans (ent_perm ((pt3 _ _ _ _ _).trans (.cons _ (pt3 _ _ _ _ _)))) (ent_sub (.cons _ _ _ rfl (.cons _ _ _ rfl (.cons _ _ _ rfl (.cons _ _ _ rfl (.cons _ _ _ rfl (.nil)))))))) ?_
  rintro ⟨k, st, L⟩ ⟨hk, hI, hF⟩
  simp only at hk hI hF
  refine rn ?_
  refine aw_cond rfl (fun hc23 => ?_) (fun hc23 => ?_)
  · have k2 : k < h.evs.length := by simpa using hc23
    obtain ⟨e, he⟩ : ∃ e, e = h.evs[k] := ⟨_, rfl⟩
    have hrowe : (h.evs.map evR)[k]? = some (evR e) := by rw [he]; simp [k2]
    have hde := List.drop_eq_getElem_cons k2
    rw [hde, ← he] at hF
    simp only [List.flatMap_cons, evL, List.cons_append, List.append_assoc] at hF
    obtain ⟨hx, hF⟩ := hF.cons
    obtain ⟨hkx, hF⟩ := hF.app
    have hle := la.evs
    have hls := la.scans e (by rw [he]; simp)
    refine rn ?_
    refine aw_draw 4 rfl ?_
    refine rn ?_
    refine aops_e rfl (oe_call rfl rfl (FCall.fr3 (FCall.of_acall (fs := []) (cs := [.v (.pointer (some ⟨bm, 0, none⟩)), .v (.pointer (some ⟨by_, 0, none⟩))]) (sayR step ok IJ y hy 0 e.t hx _ bm by_ _ _ hI))) rfl ?_)
    rintro _ _ ⟨_, rfl, L, hI, rfl⟩
    refine rn0 ?_
    refine aw_cutE (fun L => IJ (goes step (goes step st [(0, e.t)]) (kindL e)) L) (fun L => ⟨[(7, .pp (evR e)), (22, iv k), (21, iv (h.evs.map evR).length), (1, .v (.pointer (some ⟨b1, 0, none⟩))), (4, .v (.pointer (some ⟨bs, 0, none⟩))), (5, .fn (.func 38) [] [.v (.pointer (some ⟨bs, 0, none⟩))])], .box b1 76 [.v (.pointer (some ⟨bh, 0, none⟩))] :: .box bh 28 (histC h) :: .box bs 98 [.fn (.func 37) [] [.v (.pointer (some ⟨bm, 0, none⟩)), .v (.pointer (some ⟨by_, 0, none⟩))]] :: .box bm 4 [bv (goes step (goes step st [(0, e.t)]) (kindL e)).isSome] :: .box by_ 97 [y] :: L, []⟩) ?_ ?_
    · refine rn ?_
      refine aw_cond rfl (fun hc40 => ?_) (fun hc40 => ?_)
      · have hkl := kindL_1 (e := e) (by simpa using hc40)
        refine aw_draw 4 rfl ?_
        refine rn ?_
        refine aops_e rfl (oe_call rfl rfl (FCall.fr3 (FCall.of_acall (fs := []) (cs := [.v (.pointer (some ⟨bm, 0, none⟩)), .v (.pointer (some ⟨by_, 0, none⟩))]) (sayR step ok IJ y hy 1 e.s (hkx _ (by rw [hkl]; simp)) _ bm by_ _ _ hI))) rfl ?_)
        rintro _ _ ⟨_, rfl, L, hI, rfl⟩
        refine rn ?_
        refine ⟨L, ?_, ?_⟩
        · show IJ (goes step _ (kindL e)) L
          rw [hkl]; exact hI
        · rw [hkl]; exact (ent_sub (.cons _ _ _ rfl (.cons _ _ _ rfl (.cons _ _ _ rfl (.cons _ _ _ rfl (.cons _ _ _ rfl (.cons _ _ _ rfl (.nil))))))))
      · have hn1 : e.kind ≠ 1 := by simpa using hc40
        refine rn ?_
        refine aw_cond rfl (fun hc47 => ?_) (fun hc47 => ?_)
        · have hk23 : e.kind = 2 ∨ e.kind = 3 := by simp at hc47; omega
          have hkl := kindL_2 hk23
          refine rn ?_
          refine aw_cond rfl (fun hc47 => ?_) (fun hc47 => ?_)
          · have hk23 : e.kind = 2 ∨ e.kind = 3 := by simp at hc47; omega
            have hkl := kindL_2 hk23
            refine rn ?_
            refine aw_draw 4 rfl ?_
            refine rn ?_
            refine aops_e rfl (oe_call rfl rfl (FCall.fr3 (FCall.of_acall (fs := []) (cs := [.v (.pointer (some ⟨bm, 0, none⟩)), .v (.pointer (some ⟨by_, 0, none⟩))]) (sayR step ok IJ y hy 2 e.o (hkx _ (by rw [hkl]; simp)) _ bm by_ _ _ hI))) rfl ?_)
            rintro _ _ ⟨_, rfl, L, hI, rfl⟩
            refine rn ?_
            refine aops_e rfl (oe_call rfl rfl (FCall.fr2 (FCall.of_acall (fs := []) (cs := [.v (.pointer (some ⟨bs, 0, none⟩))]) (madeR step ok IJ y hy e.v (fun x hx => hkx x (by rw [hkl]; simp [hx])) _ bs bm by_ _ _ hI))) rfl ?_)
            rintro _ _ ⟨_, rfl, L, hI, rfl⟩
            refine rn ?_
            refine ⟨L, ?_, ?_⟩
            · show IJ (goes step _ (kindL e)) L
              rw [hkl]; exact hI
            · rw [hkl]; exact (ent_sub (.cons _ _ _ rfl (.cons _ _ _ rfl (.cons _ _ _ rfl (.cons _ _ _ rfl (.cons _ _ _ rfl (.cons _ _ _ rfl (.nil))))))))
          · first | cases hc47 | exact absurd hc47 (by decide) | (exfalso; simp_all; done)
        · have hn23 := hc47
          simp at hn23
          refine rn ?_
          refine aw_cond rfl (fun hc47 => ?_) (fun hc47 => ?_)
          · have hk23 : e.kind = 2 ∨ e.kind = 3 := by simp at hc47; omega
            have hkl := kindL_2 hk23
            refine rn ?_
            refine aw_draw 4 rfl ?_
            refine rn ?_
            refine aops_e rfl (oe_call rfl rfl (FCall.fr3 (FCall.of_acall (fs := []) (cs := [.v (.pointer (some ⟨bm, 0, none⟩)), .v (.pointer (some ⟨by_, 0, none⟩))]) (sayR step ok IJ y hy 2 e.o (hkx _ (by rw [hkl]; simp)) _ bm by_ _ _ hI))) rfl ?_)
            rintro _ _ ⟨_, rfl, L, hI, rfl⟩
            refine rn ?_
            refine aops_e rfl (oe_call rfl rfl (FCall.fr2 (FCall.of_acall (fs := []) (cs := [.v (.pointer (some ⟨bs, 0, none⟩))]) (madeR step ok IJ y hy e.v (fun x hx => hkx x (by rw [hkl]; simp [hx])) _ bs bm by_ _ _ hI))) rfl ?_)
            rintro _ _ ⟨_, rfl, L, hI, rfl⟩
            refine rn ?_
            refine ⟨L, ?_, ?_⟩
            · show IJ (goes step _ (kindL e)) L
              rw [hkl]; exact hI
            · rw [hkl]; exact (ent_sub (.cons _ _ _ rfl (.cons _ _ _ rfl (.cons _ _ _ rfl (.cons _ _ _ rfl (.cons _ _ _ rfl (.cons _ _ _ rfl (.nil))))))))
          · have hn23 := hc47
            simp at hn23
            refine rn ?_
            refine aw_cond rfl (fun hc60 => ?_) (fun hc60 => ?_)
            · have hkl := kindL_4 (e := e) (by simpa using hc60)
              refine aw_draw 4 rfl ?_
              refine rn ?_
              refine aops_e rfl (oe_call rfl rfl (FCall.fr3 (FCall.of_acall (fs := []) (cs := [.v (.pointer (some ⟨bm, 0, none⟩)), .v (.pointer (some ⟨by_, 0, none⟩))]) (sayR step ok IJ y hy 3 e.p (hkx _ (by rw [hkl]; simp)) _ bm by_ _ _ hI))) rfl ?_)
              rintro _ _ ⟨_, rfl, L, hI, rfl⟩
              refine rn ?_
              refine ⟨L, ?_, ?_⟩
              · show IJ (goes step _ (kindL e)) L
                rw [hkl]; exact hI
              · rw [hkl]; exact (ent_sub (.cons _ _ _ rfl (.cons _ _ _ rfl (.cons _ _ _ rfl (.cons _ _ _ rfl (.cons _ _ _ rfl (.cons _ _ _ rfl (.nil))))))))
            · have hn4 : e.kind ≠ 4 := by simpa using hc60
              have hkl := kindL_0 (e := e) hn1 (by omega) (by omega) hn4
              refine rn ?_
              refine ⟨L, ?_, ?_⟩
              · show IJ (goes step _ (kindL e)) L
                rw [hkl]; exact hI
              · rw [hkl]; exact (ent_sub (.cons _ _ _ rfl (.cons _ _ _ rfl (.cons _ _ _ rfl (.cons _ _ _ rfl (.cons _ _ _ rfl (.cons _ _ _ rfl (.nil))))))))
    · rintro L hI
      revert hI hF
      generalize goes step (goes step st [(0, e.t)]) (kindL e) = st2
      intro hF hI
      refine rn ?_
      refine aw_loop' (fun x : Nat × Option σ × List Res => x.1 ≤ e.scan.length ∧ IJ x.2.1 x.2.2 ∧ Rem step ok x.2.1 (((e.scan.drop x.1).flatMap seenL) ++ (((h.evs.drop (k + 1)).flatMap evL) ++ (h.ords.flatMap ordL ++ (h.mats.flatMap matL ++ h.wants.flatMap wanL)))) (goes step (some s0) (spokenL h))) (fun x => ⟨[(72, iv x.1), (71, iv (e.scan.map seenR).length), (7, .pp (evR e)), (22, iv k), (21, iv (h.evs.map evR).length), (1, .v (.pointer (some ⟨b1, 0, none⟩))), (4, .v (.pointer (some ⟨bs, 0, none⟩))), (5, .fn (.func 38) [] [.v (.pointer (some ⟨bs, 0, none⟩))])], .box b1 76 [.v (.pointer (some ⟨bh, 0, none⟩))] :: .box bh 28 (histC h) :: .box bs 98 [.fn (.func 37) [] [.v (.pointer (some ⟨bm, 0, none⟩)), .v (.pointer (some ⟨by_, 0, none⟩))]] :: .box bm 4 [bv (x.2.1).isSome] :: .box by_ 97 [y] :: x.2.2, []⟩) (fun x => e.scan.length - x.1) (0, st2, L) ⟨by omega, hI, hF⟩
        (ent_sub (.cons _ _ _ rfl (.cons _ _ _ rfl (.cons _ _ _ rfl (.cons _ _ _ rfl (.cons _ _ _ rfl (.cons _ _ _ rfl (.cons _ _ _ rfl (.cons _ _ _ rfl (.nil)))))))))) ?_
      rintro ⟨j, st, L⟩ ⟨hj, hI, hF⟩
      simp only at hj hI hF
      refine rn ?_
      refine aw_cond rfl (fun hc73 => ?_) (fun hc73 => ?_)
      · have j2 : j < e.scan.length := by simpa using hc73
        obtain ⟨x, hx⟩ : ∃ x, x = e.scan[j] := ⟨_, rfl⟩
        have hrowx : (e.scan.map seenR)[j]? = some (seenR x) := by rw [hx]; simp [j2]
        have hdx := List.drop_eq_getElem_cons j2
        rw [hdx, ← hx] at hF
        simp only [List.flatMap_cons, seenL, List.cons_append, List.append_assoc] at hF
        obtain ⟨hx, hF⟩ := hF.cons
        obtain ⟨hkx, hF⟩ := hF.app
        refine rn ?_
        refine aw_draw 8 rfl ?_
        refine rn ?_
        refine aops_e rfl (oe_call rfl rfl (FCall.fr3 (FCall.of_acall (fs := []) (cs := [.v (.pointer (some ⟨bm, 0, none⟩)), .v (.pointer (some ⟨by_, 0, none⟩))]) (sayR step ok IJ y hy 2 x.o hx _ bm by_ _ _ hI))) rfl ?_)
        rintro _ _ ⟨_, rfl, L, hI, rfl⟩
        refine rn ?_
        refine aops_e rfl (oe_call rfl rfl (FCall.fr2 (FCall.of_acall (fs := []) (cs := [.v (.pointer (some ⟨bs, 0, none⟩))]) (madeR step ok IJ y hy x.v hkx _ bs bm by_ _ _ hI))) rfl ?_)
        rintro _ _ ⟨_, rfl, L, hI, rfl⟩
        refine rn ?_
        exact ⟨(j + 1, _, L), ⟨by omega, hI, hF⟩, (ent_sub (.cons _ _ _ rfl (.cons _ _ _ rfl (.cons _ _ _ rfl (.cons _ _ _ rfl (.cons _ _ _ rfl (.cons _ _ _ rfl (.cons _ _ _ rfl (.cons _ _ _ rfl (.nil)))))))))), by simp only; omega⟩
      · obtain rfl : j = e.scan.length := by
          have : e.scan.length ≤ j := by simpa using hc73
          omega
        rw [List.drop_length, List.flatMap_nil, List.nil_append] at hF
        refine rn ?_
        exact ⟨(k + 1, _, L), ⟨by omega, hI, hF⟩, (ent_sub (.cons _ _ _ rfl (.cons _ _ _ rfl (.cons _ _ _ rfl (.cons _ _ _ rfl (.cons _ _ _ rfl (.nil))))))), by simp only; omega⟩
  · obtain rfl : k = h.evs.length := by
      have : h.evs.length ≤ k := by simpa using hc23
      omega
    rw [List.drop_length, List.flatMap_nil, List.nil_append] at hF
    refine rn ?_
    refine aw_loop' (fun x : Nat × Option σ × List Res => x.1 ≤ h.ords.length ∧ IJ x.2.1 x.2.2 ∧ Rem step ok x.2.1 (((h.ords.drop x.1).flatMap ordL) ++ (h.mats.flatMap matL ++ h.wants.flatMap wanL)) (goes step (some s0) (spokenL h))) (fun x => ⟨[(100, iv x.1), (99, iv (h.ords.map ordR).length), (1, .v (.pointer (some ⟨b1, 0, none⟩))), (4, .v (.pointer (some ⟨bs, 0, none⟩))), (5, .fn (.func 38) [] [.v (.pointer (some ⟨bs, 0, none⟩))])], .box b1 76 [.v (.pointer (some ⟨bh, 0, none⟩))] :: .box bh 28 (histC h) :: .box bs 98 [.fn (.func 37) [] [.v (.pointer (some ⟨bm, 0, none⟩)), .v (.pointer (some ⟨by_, 0, none⟩))]] :: .box bm 4 [bv (x.2.1).isSome] :: .box by_ 97 [y] :: x.2.2, []⟩) (fun x => h.ords.length - x.1) (0, st, L) ⟨by omega, hI, hF⟩
      (ent_sub (.cons _ _ _ rfl (.cons _ _ _ rfl (.cons _ _ _ rfl (.cons _ _ _ rfl (.cons _ _ _ rfl (.nil))))))) ?_
    rintro ⟨k, st, L⟩ ⟨hk, hI, hF⟩
    simp only at hk hI hF
    refine rn ?_
    refine aw_cond rfl (fun hc101 => ?_) (fun hc101 => ?_)
    · have k2 : k < h.ords.length := by simpa using hc101
      obtain ⟨r, hr⟩ : ∃ r, r = h.ords[k] := ⟨_, rfl⟩
      have hrowr : (h.ords.map ordR)[k]? = some (ordR r) := by rw [hr]; simp [k2]
      have hdr := List.drop_eq_getElem_cons k2
      rw [hdr, ← hr] at hF
      simp only [List.flatMap_cons, ordL, List.cons_append, List.append_assoc] at hF
      obtain ⟨hx, hF⟩ := hF.cons
      have hle := la.ords
      have hls := la.ordts r (by rw [hr]; simp)
      refine rn ?_
      refine aw_draw 8 rfl ?_
      refine rn ?_
      refine aops_e rfl (oe_call rfl rfl (FCall.fr3 (FCall.of_acall (fs := []) (cs := [.v (.pointer (some ⟨bm, 0, none⟩)), .v (.pointer (some ⟨by_, 0, none⟩))]) (sayR step ok IJ y hy 2 r.o hx _ bm by_ _ _ hI))) rfl ?_)
      rintro _ _ ⟨_, rfl, L, hI, rfl⟩
      refine rn ?_
      refine aw_loop' (fun x : Nat × Option σ × List Res => x.1 ≤ r.ts.length ∧ IJ x.2.1 x.2.2 ∧ Rem step ok x.2.1 (((r.ts.drop x.1).map fun t => ((0 : Nat), t)) ++ (((h.ords.drop (k + 1)).flatMap ordL) ++ (h.mats.flatMap matL ++ h.wants.flatMap wanL))) (goes step (some s0) (spokenL h))) (fun x => ⟨[(121, iv x.1), (120, iv (r.ts.map intR).length), (9, iv k), (100, iv k), (99, iv (h.ords.map ordR).length), (1, .v (.pointer (some ⟨b1, 0, none⟩))), (4, .v (.pointer (some ⟨bs, 0, none⟩))), (5, .fn (.func 38) [] [.v (.pointer (some ⟨bs, 0, none⟩))])], .box b1 76 [.v (.pointer (some ⟨bh, 0, none⟩))] :: .box bh 28 (histC h) :: .box bs 98 [.fn (.func 37) [] [.v (.pointer (some ⟨bm, 0, none⟩)), .v (.pointer (some ⟨by_, 0, none⟩))]] :: .box bm 4 [bv (x.2.1).isSome] :: .box by_ 97 [y] :: x.2.2, []⟩) (fun x => r.ts.length - x.1) (0, _, L) ⟨by omega, hI, hF⟩
        (ent_sub (.cons _ _ _ rfl (.cons _ _ _ rfl (.cons _ _ _ rfl (.cons _ _ _ rfl (.cons _ _ _ rfl (.cons _ _ _ rfl (.cons _ _ _ rfl (.cons _ _ _ rfl (.nil)))))))))) ?_
      rintro ⟨j, st, L⟩ ⟨hj, hI, hF⟩
      simp only at hj hI hF
      refine rn ?_
      refine aw_cond rfl (fun hc122 => ?_) (fun hc122 => ?_)
      · have j2 : j < r.ts.length := by simpa using hc122
        obtain ⟨t, ht⟩ : ∃ t, t = r.ts[j] := ⟨_, rfl⟩
        have hrowt : (r.ts.map intR)[j]? = some (intR t) := by rw [ht]; simp [j2]
        have hdt := List.drop_eq_getElem_cons j2
        rw [hdt, ← ht] at hF
        simp only [List.map_cons, List.cons_append] at hF
        obtain ⟨hx, hF⟩ := hF.cons
        refine rn ?_
        refine aw_draw 11 rfl ?_
        refine rn ?_
        refine aops_e rfl (oe_call rfl rfl (FCall.fr3 (FCall.of_acall (fs := []) (cs := [.v (.pointer (some ⟨bm, 0, none⟩)), .v (.pointer (some ⟨by_, 0, none⟩))]) (sayR step ok IJ y hy 0 t hx _ bm by_ _ _ hI))) rfl ?_)
        rintro _ _ ⟨_, rfl, L, hI, rfl⟩
        refine rn ?_
        exact ⟨(j + 1, _, L), ⟨by omega, hI, hF⟩, (ent_sub (.cons _ _ _ rfl (.cons _ _ _ rfl (.cons _ _ _ rfl (.cons _ _ _ rfl (.cons _ _ _ rfl (.cons _ _ _ rfl (.cons _ _ _ rfl (.cons _ _ _ rfl (.nil)))))))))), by simp only; omega⟩
      · obtain rfl : j = r.ts.length := by
          have : r.ts.length ≤ j := by simpa using hc122
          omega
        rw [List.drop_length, List.map_nil, List.nil_append] at hF
        refine rn ?_
        exact ⟨(k + 1, _, L), ⟨by omega, hI, hF⟩, (ent_sub (.cons _ _ _ rfl (.cons _ _ _ rfl (.cons _ _ _ rfl (.cons _ _ _ rfl (.cons _ _ _ rfl (.nil))))))), by simp only; omega⟩
    · obtain rfl : k = h.ords.length := by
        have : h.ords.length ≤ k := by simpa using hc101
        omega
      rw [List.drop_length, List.flatMap_nil, List.nil_append] at hF
      refine rn ?_
      refine aw_loop' (fun x : Nat × Option σ × List Res => x.1 ≤ h.mats.length ∧ IJ x.2.1 x.2.2 ∧ Rem step ok x.2.1 (((h.mats.drop x.1).flatMap matL) ++ h.wants.flatMap wanL) (goes step (some s0) (spokenL h))) (fun x => ⟨[(143, iv x.1), (142, iv (h.mats.map matR).length), (1, .v (.pointer (some ⟨b1, 0, none⟩))), (4, .v (.pointer (some ⟨bs, 0, none⟩))), (5, .fn (.func 38) [] [.v (.pointer (some ⟨bs, 0, none⟩))])], .box b1 76 [.v (.pointer (some ⟨bh, 0, none⟩))] :: .box bh 28 (histC h) :: .box bs 98 [.fn (.func 37) [] [.v (.pointer (some ⟨bm, 0, none⟩)), .v (.pointer (some ⟨by_, 0, none⟩))]] :: .box bm 4 [bv (x.2.1).isSome] :: .box by_ 97 [y] :: x.2.2, []⟩) (fun x => h.mats.length - x.1) (0, st, L) ⟨by omega, hI, hF⟩
        (ent_sub (.cons _ _ _ rfl (.cons _ _ _ rfl (.cons _ _ _ rfl (.cons _ _ _ rfl (.cons _ _ _ rfl (.nil))))))) ?_
      rintro ⟨k, st, L⟩ ⟨hk, hI, hF⟩
      simp only at hk hI hF
      refine rn ?_
      refine aw_cond rfl (fun hc144 => ?_) (fun hc144 => ?_)
      · have k2 : k < h.mats.length := by simpa using hc144
        obtain ⟨r, hr⟩ : ∃ r, r = h.mats[k] := ⟨_, rfl⟩
        have hrowr : (h.mats.map matR)[k]? = some (matR r) := by rw [hr]; simp [k2]
        have hdr := List.drop_eq_getElem_cons k2
        rw [hdr, ← hr] at hF
        simp only [List.flatMap_cons, matL, List.cons_append, List.append_assoc] at hF
        obtain ⟨hx, hF⟩ := hF.cons
        obtain ⟨hx2, hF⟩ := hF.cons
        have hle := la.mats
        have hls := la.matts r (by rw [hr]; simp)
        refine rn ?_
        refine aw_draw 4 rfl ?_
        refine rn ?_
        refine aops_e rfl (oe_call rfl rfl (FCall.fr3 (FCall.of_acall (fs := []) (cs := [.v (.pointer (some ⟨bm, 0, none⟩)), .v (.pointer (some ⟨by_, 0, none⟩))]) (sayR step ok IJ y hy 3 r.p hx _ bm by_ _ _ hI))) rfl ?_)
        rintro _ _ ⟨_, rfl, L, hI, rfl⟩
        refine rn ?_
        refine aw_draw 4 rfl ?_
        refine rn ?_
        refine aops_e rfl (oe_call rfl rfl (FCall.fr3 (FCall.of_acall (fs := []) (cs := [.v (.pointer (some ⟨bm, 0, none⟩)), .v (.pointer (some ⟨by_, 0, none⟩))]) (sayR step ok IJ y hy 2 r.o hx2 _ bm by_ _ _ hI))) rfl ?_)
        rintro _ _ ⟨_, rfl, L, hI, rfl⟩
        refine rn ?_
        refine aw_loop' (fun x : Nat × Option σ × List Res => x.1 ≤ r.ts.length ∧ IJ x.2.1 x.2.2 ∧ Rem step ok x.2.1 (((r.ts.drop x.1).map fun t => ((0 : Nat), t)) ++ (((h.mats.drop (k + 1)).flatMap matL) ++ h.wants.flatMap wanL)) (goes step (some s0) (spokenL h))) (fun x => ⟨[(167, iv x.1), (166, iv (r.ts.map intR).length), (12, .pp (matR r)), (143, iv k), (142, iv (h.mats.map matR).length), (1, .v (.pointer (some ⟨b1, 0, none⟩))), (4, .v (.pointer (some ⟨bs, 0, none⟩))), (5, .fn (.func 38) [] [.v (.pointer (some ⟨bs, 0, none⟩))])], .box b1 76 [.v (.pointer (some ⟨bh, 0, none⟩))] :: .box bh 28 (histC h) :: .box bs 98 [.fn (.func 37) [] [.v (.pointer (some ⟨bm, 0, none⟩)), .v (.pointer (some ⟨by_, 0, none⟩))]] :: .box bm 4 [bv (x.2.1).isSome] :: .box by_ 97 [y] :: x.2.2, []⟩) (fun x => r.ts.length - x.1) (0, _, L) ⟨by omega, hI, hF⟩
          (ent_sub (.cons _ _ _ rfl (.cons _ _ _ rfl (.cons _ _ _ rfl (.cons _ _ _ rfl (.cons _ _ _ rfl (.cons _ _ _ rfl (.cons _ _ _ rfl (.cons _ _ _ rfl (.nil)))))))))) ?_
        rintro ⟨j, st, L⟩ ⟨hj, hI, hF⟩
        simp only at hj hI hF
        refine rn ?_
        refine aw_cond rfl (fun hc168 => ?_) (fun hc168 => ?_)
        · have j2 : j < r.ts.length := by simpa using hc168
          obtain ⟨t, ht⟩ : ∃ t, t = r.ts[j] := ⟨_, rfl⟩
          have hrowt : (r.ts.map intR)[j]? = some (intR t) := by rw [ht]; simp [j2]
          have hdt := List.drop_eq_getElem_cons j2
          rw [hdt, ← ht] at hF
          simp only [List.map_cons, List.cons_append] at hF
          obtain ⟨hx, hF⟩ := hF.cons
          refine rn ?_
          refine aw_draw 7 rfl ?_
          refine rn ?_
          refine aops_e rfl (oe_call rfl rfl (FCall.fr3 (FCall.of_acall (fs := []) (cs := [.v (.pointer (some ⟨bm, 0, none⟩)), .v (.pointer (some ⟨by_, 0, none⟩))]) (sayR step ok IJ y hy 0 t hx _ bm by_ _ _ hI))) rfl ?_)
          rintro _ _ ⟨_, rfl, L, hI, rfl⟩
          refine rn ?_
          exact ⟨(j + 1, _, L), ⟨by omega, hI, hF⟩, (ent_sub (.cons _ _ _ rfl (.cons _ _ _ rfl (.cons _ _ _ rfl (.cons _ _ _ rfl (.cons _ _ _ rfl (.cons _ _ _ rfl (.cons _ _ _ rfl (.cons _ _ _ rfl (.nil)))))))))), by simp only; omega⟩
        · obtain rfl : j = r.ts.length := by
            have : r.ts.length ≤ j := by simpa using hc168
            omega
          rw [List.drop_length, List.map_nil, List.nil_append] at hF
          refine rn ?_
          exact ⟨(k + 1, _, L), ⟨by omega, hI, hF⟩, (ent_sub (.cons _ _ _ rfl (.cons _ _ _ rfl (.cons _ _ _ rfl (.cons _ _ _ rfl (.cons _ _ _ rfl (.nil))))))), by simp only; omega⟩
      · obtain rfl : k = h.mats.length := by
          have : h.mats.length ≤ k := by simpa using hc144
          omega
        rw [List.drop_length, List.flatMap_nil, List.nil_append] at hF
        refine rn ?_
        refine aw_loop' (fun x : Nat × Option σ × List Res => x.1 ≤ h.wants.length ∧ IJ x.2.1 x.2.2 ∧ Rem step ok x.2.1 (((h.wants.drop x.1).flatMap wanL) ++ []) (goes step (some s0) (spokenL h))) (fun x => ⟨[(185, iv x.1), (184, iv (h.wants.map wanR).length), (1, .v (.pointer (some ⟨b1, 0, none⟩))), (4, .v (.pointer (some ⟨bs, 0, none⟩))), (5, .fn (.func 38) [] [.v (.pointer (some ⟨bs, 0, none⟩))])], .box b1 76 [.v (.pointer (some ⟨bh, 0, none⟩))] :: .box bh 28 (histC h) :: .box bs 98 [.fn (.func 37) [] [.v (.pointer (some ⟨bm, 0, none⟩)), .v (.pointer (some ⟨by_, 0, none⟩))]] :: .box bm 4 [bv (x.2.1).isSome] :: .box by_ 97 [y] :: x.2.2, []⟩) (fun x => h.wants.length - x.1) (0, st, L) ⟨by omega, hI, by rw [List.append_nil]; exact hF⟩
          (ent_sub (.cons _ _ _ rfl (.cons _ _ _ rfl (.cons _ _ _ rfl (.cons _ _ _ rfl (.cons _ _ _ rfl (.nil))))))) ?_
        rintro ⟨k, st, L⟩ ⟨hk, hI, hF⟩
        simp only at hk hI hF
        refine rn ?_
        refine aw_cond rfl (fun hc186 => ?_) (fun hc186 => ?_)
        · have k2 : k < h.wants.length := by simpa using hc186
          obtain ⟨r, hr⟩ : ∃ r, r = h.wants[k] := ⟨_, rfl⟩
          have hrowr : (h.wants.map wanR)[k]? = some (wanR r) := by rw [hr]; simp [k2]
          have hdr := List.drop_eq_getElem_cons k2
          rw [hdr, ← hr] at hF
          simp only [List.flatMap_cons, wanL, List.cons_append, List.append_assoc, List.nil_append] at hF
          obtain ⟨hx, hF⟩ := hF.cons
          have hle := la.wants
          refine rn ?_
          refine aw_draw 8 rfl ?_
          refine rn ?_
          refine aops_e rfl (oe_call rfl rfl (FCall.fr3 (FCall.of_acall (fs := []) (cs := [.v (.pointer (some ⟨bm, 0, none⟩)), .v (.pointer (some ⟨by_, 0, none⟩))]) (sayR step ok IJ y hy 1 r.s hx _ bm by_ _ _ hI))) rfl ?_)
          rintro _ _ ⟨_, rfl, L, hI, rfl⟩
          refine rn ?_
          exact ⟨(k + 1, _, L), ⟨by omega, hI, hF⟩, (ent_sub (.cons _ _ _ rfl (.cons _ _ _ rfl (.cons _ _ _ rfl (.cons _ _ _ rfl (.cons _ _ _ rfl (.nil))))))), by simp only; omega⟩
        · obtain rfl : k = h.wants.length := by
            have : h.wants.length ≤ k := by simpa using hc186
            omega
          rw [List.drop_length, List.flatMap_nil, List.nil_append] at hF
          refine rn ?_
          have hF' : st = goes step (some s0) (spokenL h) := hF.fin
          exact retq_n .nil (.trans (.perm ((pt2 _ _ _ _).trans (.cons _ ((pt2 _ _ _ _).trans (.cons _ (pt2 _ _ _ _))))) _) (.drop [_, _, _] _ _)) ⟨L, hF' ▸ hI, rfl⟩
theorem spoken (bh : Nat) (h : List Res) : ACall Tryd.prog 18 [.v (.pointer (some ⟨bh, 0, none⟩))] h (fun r h' => ∃ b1, h' = .box b1 76 [.v (.pointer (some ⟨bh, 0, none⟩))] :: h ∧ r = .fn (.func 36) [] [.v (.pointer (some ⟨b1, 0, none⟩))]) := by
  refine acall_of_aw Tryd.func18 rfl rfl rfl ?_
  refine rn ?_
  refine aops_e rfl (oe_box rfl rfl rfl fun b1 => ?_)
  refine rn ?_
  exact retq (.cons _ _ _ _ (.tmp _ _ rfl) .nil) (.refl _ _) ⟨_, rfl, rfl⟩
end Go.Proofs
/- The walk of history.Check. Conditions: none. -/
set_option linter.unusedVariables false
set_option linter.unusedSimpArgs false
set_option maxRecDepth 10000
namespace Go.Proofs
open Go Go.Ab
attribute [local irreducible] QR QV OE aops aw dsoup dsoupM dalloc dallocM thn inBlk
open Go.H
def IJC (lp : LP) (q b2 b3 : Nat) : Option (List Int) → List Res → Prop
  | some m, L => L = lp .ready none :: .defs q :: .box b3 72 ((m).map iv) :: .box b2 33 [iv 0] :: [.glob 1 72 limitsC, .glob 2 152 firstC, .glob 3 155 acceptC] ∧ m.length = 4
  | none, L => ∃ m : List Int, L = lp .done (some .ret) :: .defs q :: .box b3 72 ((m).map iv) :: .box b2 33 [iv 210] :: [.glob 1 72 limitsC, .glob 2 152 firstC, .glob 3 155 acceptC]
theorem check (h : Hist) (la : Lim 4611686018427387904 h) : ACall Tryd.prog 7 [.agg (histC h)] [.glob 1 72 limitsC, .glob 2 152 firstC, .glob 3 155 acceptC] (fun r h' => h' = [.glob 1 72 limitsC, .glob 2 152 firstC, .glob 3 155 acceptC] ∧ r = iv (checkE h)) := by
  refine acall_of_aw Tryd.func7 rfl rfl rfl ?_
  refine rn ?_
  refine aops_e rfl (oe_box rfl rfl rfl fun b1 => ?_)
  refine aops_e rfl (oe_alloc rfl fun b2 => ?_)
  refine rn ?_
  refine qv rfl rfl (qv_call rfl rfl (FCall.qt (FCall.of_fun (shaped h la)) ((pt2 _ _ _ _).trans (.cons _ ((pt2 _ _ _ _).trans (.cons _ (pt2 _ _ _ _))))))) ?_
  refine rn ?_
  refine aw_cond rfl (fun hc10 => ?_) (fun hc10 => ?_)
  · have hs : shapedB h = false := not_t hc10
    refine rn ?_
    exact retq (.cons _ _ _ _ (.one _ _ _ _ _ _ _ rfl inferInstance inferInstance rfl) .nil) (.drop [_, _] _ _) ⟨rfl, congrArg iv (check_no hs).symm⟩
  · have hs : shapedB h = true := not_f hc10
    refine rn ?_
    refine aops_e rfl (oe_alloc rfl fun b3 => ?_)
    refine rn ?_
    refine aops_e rfl (oe_call rfl rfl (FCall.of_fun (spoken b1 _)) rfl ?_)
    rintro _ _ ⟨b1', rfl, rfl⟩
    refine rn ?_
    refine aw_rf (fun pend h'' => (pend = none ∧ ∃ m : List Int, manyL h = some m ∧ m.length = 4 ∧ h'' = .box b1' 76 [.v (.pointer (some ⟨b1, 0, none⟩))] :: .box b1 28 (histC h) :: .box b3 72 ((m).map iv) :: .box b2 33 [iv 0] :: [.glob 1 72 limitsC, .glob 2 152 firstC, .glob 3 155 acceptC]) ∨ (pend = some .ret ∧ manyL h = none ∧ ∃ m : List Int, h'' = .box b1' 76 [.v (.pointer (some ⟨b1, 0, none⟩))] :: .box b1 28 (histC h) :: .box b3 72 ((m).map iv) :: .box b2 33 [iv 210] :: [.glob 1 72 limitsC, .glob 2 152 firstC, .glob 3 155 acceptC])) rfl (fun fn l q lp hlp => ?_) (fun q h'' hK => ?_) (fun q h'' c hK => ?_)
    · suffices hy : ∀ (s : List Int) (L : List Res) (sort : Nat) (n : Int) (cells : List AV), OkN h (sort, n) → IJC lp q b2 b3 (some s) L → FCall Tryd.prog (yv l) [iv sort, .pp (iv n :: cells)] L (fun r h' => r = bv (manyStep s (sort, n)).isSome ∧ IJC lp q b2 b3 (manyStep s (sort, n)) h') by
        refine ACall.mono (ACall.perm ((pt2 _ _ _ _).trans (.cons _ (pt4 _ _ _ _ _ _))) (spokenR manyStep (OkN h) (IJC lp q b2 b3) (yv l) rfl hy h la b1' b1 (shaped_ok hs) [0, 0, 0, 0] _ ⟨rfl, rfl⟩)) ?_
        rintro _ _ ⟨L', hI, rfl⟩
        cases hm : goes manyStep (some [0, 0, 0, 0]) (spokenL h) with
        | some m =>
          rw [hm] at hI
          obtain ⟨rfl, hl⟩ := hI
          exact ⟨_, _, _, ((pt2 _ _ _ _).trans (.cons _ (pt2 _ _ _ _))), by simp, .inl ⟨rfl, m, hm, hl, rfl⟩⟩
        | none =>
          rw [hm] at hI
          obtain ⟨m, rfl⟩ := hI
          exact ⟨_, _, _, ((pt2 _ _ _ _).trans (.cons _ (pt2 _ _ _ _))), by simp, .inr ⟨rfl, hm, m, rfl⟩⟩
      rintro m _ sort n cells ⟨hs4, hn0, hn1⟩ ⟨rfl, hl⟩
      simp only at hs4 hn0 hn1
      have hnm := la.nm sort
      refine fcall_yl hlp rfl rfl ?_
      refine rn ?_
      refine ⟨[(4, iv sort), (5, .pp (iv n :: cells)), (3, .v (.pointer (some ⟨b3, 0, none⟩))), (2, .v (.pointer (some ⟨b2, 0, none⟩)))], (ent_sub (.cons _ _ _ rfl (.cons _ _ _ rfl (.cons _ _ _ rfl (.cons _ _ _ rfl (.nil)))))), ?_⟩
      refine rn ?_
      refine aw_draw 6 rfl ?_
      refine dq rfl rfl qrA ?_
      refine dq rfl rfl qrA ?_
      refine dq rfl rfl qrA ?_
      refine dq rfl rfl qrA ?_
      refine dq rfl rfl (qr_indexAddr_arr rfl rfl hs4) ?_
      refine dq rfl rfl (qr_load_one rfl (get4 hl hs4)) ?_
      refine rn ?_
      refine aw_cond rfl (fun hc20 => ?_) (fun hc20 => ?_)
      · refine rn ?_
        have hst : manyStep m (sort, n) = none := by rw [manyStep]; exact if_pos (by simpa using hc20)
        exact round_r (.refl _) (by rw [hst]; exact ⟨rfl, _, rfl⟩)
      · refine rn ?_
        refine aw_draw 9 rfl ?_
        refine dq rfl rfl qrA ?_
        refine dq rfl rfl qrA ?_
        refine dq rfl rfl (qr_indexAddr_arr rfl rfl hs4) ?_
        refine dq rfl rfl (qr_load_one rfl (get4 hl hs4)) ?_
        refine rn2 ?_
        refine qq rfl rfl (qr_indexAddr_arr rfl rfl hs4) ?_
        refine aops_e rfl (oe_store rfl rfl rfl rfl (by simp [hl]; omega) ?_)
        refine rn ?_
        have hst : manyStep m (sort, n) = some (m.set sort (max (m.getD sort 0) (n + 1))) := by rw [manyStep]; exact if_neg (by simpa using hc20)
        exact round_n (.refl _) (by rw [hst]; exact ⟨rfl, by rw [← set4 hl hs4]; rfl, by simpa using hl⟩)
    · obtain ⟨_, m, hm, hl, rfl⟩ | ⟨hc, _⟩ := hK
      rotate_left
      · cases hc
      refine rn ?_
      refine qv rfl rfl (qv_call rfl rfl (pcall (names _) (Sbs.refl _))) ?_
      refine rn ?_
      refine aw_loop' (fun k : Nat => k ≤ 4 ∧ ∀ j, j < k → m.getD j 0 = (nmK h j).length) (fun k => ⟨[(33, iv k), (32, .agg (namesC h)), (3, .v (.pointer (some ⟨b3, 0, none⟩))), (2, .v (.pointer (some ⟨b2, 0, none⟩)))], .defs q :: .box b1' 76 [.v (.pointer (some ⟨b1, 0, none⟩))] :: .box b1 28 (histC h) :: .box b3 72 ((m).map iv) :: .box b2 33 [iv 0] :: [.glob 1 72 limitsC, .glob 2 152 firstC, .glob 3 155 acceptC], [q]⟩) (fun k => 4 - k) 0 ⟨by omega, fun j hj => absurd hj (Nat.not_lt_zero j)⟩
        (ent_sub (.cons _ _ _ rfl (.cons _ _ _ rfl (.cons _ _ _ rfl (.cons _ _ _ rfl (.nil)))))) ?_
      rintro k ⟨hk, hz⟩
      refine rn ?_
      refine aw_cond rfl (fun hc34 => ?_) (fun hc34 => ?_)
      · have hk4 : k < 4 := by simp at hc34; omega
        refine aw_skip ?_
        refine thn_n ?_
        refine aw_seq ?_
        refine aw_block ?_
        refine aw_seq (aw_region ?_)
        refine q1 ?_
        refine qq rfl rfl (qr_index_arr_one rfl rfl (by omega) (by have := nmK_get h hk4; simpa using this)) ?_
        refine q1 ?_
        refine q1 ?_
        refine aops_nil (thn_n ?_)
        refine aw_seq (aw_region ?_)
        refine q1 ?_
        refine qq rfl rfl (qr_indexAddr_arr rfl rfl hk4) ?_
        refine qq rfl rfl (qr_load_one rfl (get4 hl hk4)) ?_
        refine rn ?_
        refine aw_cond rfl (fun hc42 => ?_) (fun hc42 => ?_)
        · refine rn ?_
          exact retqd (.refl _) (.cons _ _ _ _ (.one _ _ _ _ _ _ _ rfl inferInstance inferInstance rfl) .nil) (.drop [_, _, _, _] _ _) ⟨rfl, congrArg iv (check_ne hm hk4 (by simpa using hc42)).symm⟩
        · refine rn ?_
          exact ⟨k + 1, ⟨by omega, fun j hj => by
            by_cases hjk : j = k
            · subst hjk; simpa using hc42
            · exact hz j (by omega)⟩, (ent_sub (.cons _ _ _ rfl (.cons _ _ _ rfl (.cons _ _ _ rfl (.cons _ _ _ rfl (.nil)))))), by omega⟩
      · have hk4 : k = 4 := by simp at hc34; omega
        subst hk4
        refine rn ?_
        exact retqd (.refl _) (.cons _ _ _ _ (.one _ _ _ _ _ _ _ rfl inferInstance inferInstance rfl) .nil) (.drop [_, _, _, _] _ _) ⟨rfl, congrArg iv (check_eq hs hm hl hz).symm⟩
    · obtain ⟨hc, _⟩ | ⟨hc, hm, m, rfl⟩ := hK
      · cases hc
      obtain rfl : c = .ret := by simpa using hc
      refine rn ?_
      exact retqd (.refl _) (.cons _ _ _ _ (.one _ _ _ _ _ _ _ rfl inferInstance inferInstance rfl) .nil) (.drop [_, _, _, _] _ _) ⟨rfl, congrArg iv (check_none hm).symm⟩
end Go.Proofs
/- The walks of rules.First, Place, Sound, Writers. Conditions: none. -/
set_option linter.unusedVariables false
set_option linter.unusedSimpArgs false
set_option maxRecDepth 10000
namespace Go.Proofs
open Go Go.Ab
attribute [local irreducible] QR QV OE aops aw dsoup dsoupM dalloc dallocM thn inBlk jsoup jch lsoup
open Go.H
/-- What the rules ask: the functions, as they are laid. -/
def asksC : List AV := [.any, .fn (.func 115) [] [], .fn (.func 117) [] [], .fn (.func 118) [] [], .fn (.func 119) [] [], .fn (.func 120) [] [], .fn (.func 121) [] [], .fn (.func 122) [] [], .fn (.func 123) [] [], .fn (.func 124) [] [], .fn (.func 125) [] []]
def askF (k : Nat) : AV := asksC.getD k .any
theorem ask_get {k : Nat} (h2 : k ≤ 10) : asksC[k]? = some (askF k) := by
  have : k < asksC.length := by show k < 11; omega
  rw [askF, List.getD_eq_getElem?_getD, List.getElem?_eq_getElem this]; rfl
theorem ask_call (h : Hist) (la : Lim 3000 h) (b : Nat) (G : List Res) {k : Nat} (h1 : 1 ≤ k) (h2 : k ≤ 10) : FCall Tryd.prog (askF k) [.v (.pointer (some ⟨b, 0, none⟩))] (.box b 71 (lookN h) :: G) (fun r h' => h' = G ∧ r = placeV (placeP h k)) := by
  match k, h1, h2 with
  | 1, _, _ => exact FCall.of_acall (fs := []) (cs := []) (rBegin h la b G)
  | 2, _, _ => exact FCall.of_acall (fs := []) (cs := []) (rEnd h la b G)
  | 3, _, _ => exact FCall.of_acall (fs := []) (cs := []) (rCount h la b G)
  | 4, _, _ => exact FCall.of_acall (fs := []) (cs := []) (rWritten h la b G)
  | 5, _, _ => exact FCall.of_acall (fs := []) (cs := []) (rOwn h la b G)
  | 6, _, _ => exact FCall.of_acall (fs := []) (cs := []) (rScan h la b G)
  | 7, _, _ => exact FCall.of_acall (fs := []) (cs := []) (rOrder h la b G)
  | 8, _, _ => exact FCall.of_acall (fs := []) (cs := []) (rMissing h la b G)
  | 9, _, _ => exact FCall.of_acall (fs := []) (cs := []) (rMatch h la b G)
  | 10, _, _ => exact FCall.of_acall (fs := []) (cs := []) (rWant h la b G)
  | k + 11, _, h2 => omega
theorem place_t {o : Option Nat} {i : Int} {b : Bool} (h : placeV o = .tup [iv i, bv b]) : i = natI o ∧ b = o.isSome := by
  cases o with
  | none => simp only [placeV, AV.tup.injEq, List.cons.injEq, AV.v.injEq, Value.int.injEq, Value.bool.injEq, true_and, and_true] at h; exact ⟨h.1.symm, h.2.symm⟩
  | some n => simp only [placeV, AV.tup.injEq, List.cons.injEq, AV.v.injEq, Value.int.injEq, Value.bool.injEq, true_and, and_true] at h; exact ⟨h.1.symm, h.2.symm⟩
theorem may3000 {h : Hist} (hm : mayB h = true) : Lim 3000 h := by
  unfold mayB at hm; simp only [Bool.and_eq_true] at hm; exact shaped_lim hm.1
theorem rFirst (h : Hist) (la : Lim 4611686018427387904 h) : ACall Tryd.prog 6 [.agg (histC h)] [.glob 1 72 limitsC, .glob 2 152 firstC, .glob 3 155 acceptC, .glob 0 64 asksC] (fun r h' => h' = [.glob 1 72 limitsC, .glob 2 152 firstC, .glob 3 155 acceptC, .glob 0 64 asksC] ∧ r = firstAns h) := by
  refine acall_of_aw Tryd.func6 rfl rfl rfl ?_
  refine rn ?_
  refine aops_e rfl (oe_box rfl rfl rfl fun b1 => ?_)
  refine aops_e rfl (oe_alloc rfl fun b2 => ?_)
  refine rn ?_
  refine qv rfl rfl (qv_call rfl rfl (FCall.qt (FCall.of_fun (check h la)) ((pt2 _ _ _ _).trans (.cons _ ((pt2 _ _ _ _).trans (.cons _ (pt2 _ _ _ _))))))) ?_
  refine rn ?_
  refine aw_cond rfl (fun hc12 => ?_) (fun hc12 => ?_)
  · have hm : ¬ mayB h = true := by intro q; rw [checkE, if_pos q] at hc12; cases hc12
    have he : checkE h = 210 := by rw [checkE, if_neg hm]
    refine rn ?_
    exact retq (.cons _ _ _ _ (.agg _ _ _ _ _ _ _ rfl inferInstance inferInstance inferInstance rfl) (.cons _ _ _ _ (.tmp _ _ rfl) (.cons _ _ _ _ (.tmp _ _ rfl) .nil))) (.drop [_, _] _ _) ⟨rfl, by rw [firstAns, if_neg hm, he]; rfl⟩
  · have hm : mayB h = true := check_0.1 (by simpa using hc12)
    have la3 := may3000 hm
    refine rn ?_
    refine aw_while (fun k : Nat => (1 ≤ k ∧ k ≤ 11) ∧ firstIn (placeP h) rules10 = firstIn (placeP h) (rules10.drop (k - 1))) (fun k => ⟨[(6, iv k), (1, .v (.pointer (some ⟨b1, 0, none⟩))), (2, .v (.pointer (some ⟨b2, 0, none⟩)))], (.box b2 32 [iv 0, iv 0] :: .box b1 28 (histC h) :: .glob 1 72 limitsC :: .glob 2 152 firstC :: .glob 3 155 acceptC :: .glob 0 64 asksC :: []), []⟩) (fun k => 11 - k) 1 ⟨by omega, rfl⟩ es ?_
    rintro k ⟨⟨k1, k3⟩, zk⟩
    obtain ⟨pi, pb, hpv⟩ : ∃ i b, placeV (placeP h k) = .tup [iv i, bv b] := place_ib _
    obtain ⟨ei, eb⟩ := place_t hpv
    refine rn ?_
    refine aw_cond rfl (fun hc16 => ?_) (fun hc16 => ?_)
    · have k2 : k ≤ 10 := by have := of_decide_eq_true hc16; omega
      refine aw_skip ?_
      refine rn0 ?_
      refine aw_seq ?_
      refine aw_block ?_
      refine aw_seq ?_
      refine aw_drawX 11 [5, 6] [7, 8, 9, 10] (fun he => he = (.box b2 32 [iv 0, iv 0] :: .box b1 28 (histC h) :: .glob 1 72 limitsC :: .glob 2 152 firstC :: .glob 3 155 acceptC :: .glob 0 64 asksC :: []) ∨ ∃ b, he = .box b 71 (lookN h) :: (.box b2 32 [iv 0, iv 0] :: .box b1 28 (histC h) :: .glob 1 72 limitsC :: .glob 2 152 firstC :: .glob 3 155 acceptC :: .glob 0 64 asksC :: [])) rfl rfl (.inl rfl) ?_
      refine jq rfl (fun he hC => by rcases hC with rfl | ⟨b, rfl⟩ <;> exact qrA) ?_
      refine jq rfl (fun he hC => by rcases hC with rfl | ⟨b, rfl⟩ <;> exact (by exact qr_indexAddr_arr rfl rfl (by show k < 11; omega))) ?_
      refine jq rfl (fun he hC => by rcases hC with rfl | ⟨b, rfl⟩ <;> exact (by exact qr_load_one rfl (show asksC[0 + k * 1]? = some (askF k) by rw [Nat.zero_add, Nat.mul_one]; exact ask_get k2))) ?_
      refine jq rfl (fun he hC => by rcases hC with rfl | ⟨b, rfl⟩ <;> exact qrA) ?_
      refine jq rfl (fun he hC => by rcases hC with rfl | ⟨b, rfl⟩ <;> exact (by exact qr_build (out := lookN h) rfl (by rfl))) ?_
      refine je rfl ?_
      refine je rfl ?_
      refine je rfl ?_
      refine je rfl ?_
      refine je rfl ?_
      refine je rfl ?_
      refine jnil ?_
      refine jce rfl fun u => ?_
      refine oe_box rfl rfl rfl fun b5 => ⟨_, _, rfl, .inr ⟨_, rfl⟩, ?_⟩
      refine jce rfl fun u => ?_
      refine oe_call rfl rfl (ask_call h la3 b5 _ k1 k2) rfl ?_
      rintro _ _ ⟨rfl, rfl⟩
      rw [hpv]
      refine ⟨_, _, rfl, .inl rfl, ?_⟩
      refine jcn ?_
      refine lq rfl rfl (by exact qrA) ?_
      refine lq rfl rfl (by exact qrA) ?_
      refine lq rfl rfl (by exact qrA) ?_
      refine lq rfl rfl (by exact qrA) ?_
      refine ln ?_
      refine rn ?_
      refine aw_cond rfl (fun hc29 => ?_) (fun hc29 => ?_)
      · refine rn ?_
        exact retq (.cons _ _ _ _ (.agg _ _ _ _ _ _ _ rfl inferInstance inferInstance inferInstance rfl) (.cons _ _ _ _ (.tmp _ _ rfl) (.cons _ _ _ _ (.tmp _ _ rfl) .nil))) (.drop [_, _] _ _) ⟨rfl, by
          cases hp : placeP h k with
          | none => rw [hp] at eb; rw [eb] at hc29; cases hc29
          | some n => rw [hp] at ei; subst ei; rw [firstAns, if_pos hm, firstH, first_hit k1 k2 zk hp]; rfl⟩
      · refine rn ?_
        exact ⟨k + 1, ⟨by omega, first_step k1 k2 zk (by cases hp : placeP h k with | none => rfl | some n => rw [hp] at eb; rw [eb] at hc29; cases hc29)⟩, eA, by omega⟩
    · have k2 : 11 ≤ k := by have := of_decide_eq_false hc16; omega
      refine rn ?_
      exact retq (.cons _ _ _ _ (.agg _ _ _ _ _ _ _ rfl inferInstance inferInstance inferInstance rfl) (.cons _ _ _ _ (.tmp _ _ rfl) (.cons _ _ _ _ (.tmp _ _ rfl) .nil))) (.drop [_, _] _ _) ⟨rfl, by rw [firstAns, if_pos hm, firstH, first_over k2 k3 zk]; rfl⟩
theorem rPlace (h : Hist) (x : Int) (la : Lim 4611686018427387904 h) : ACall Tryd.prog 9 [.agg (histC h), iv x] [.glob 1 72 limitsC, .glob 2 152 firstC, .glob 3 155 acceptC, .glob 0 64 asksC] (fun r h' => h' = [.glob 1 72 limitsC, .glob 2 152 firstC, .glob 3 155 acceptC, .glob 0 64 asksC] ∧ r = placeW h x) := by
  refine acall_of_aw Tryd.func9 rfl rfl rfl ?_
  refine rn ?_
  refine aops_e rfl (oe_box rfl rfl rfl fun b2 => ?_)
  refine rn ?_
  refine qv rfl rfl (qv_call rfl rfl (FCall.qt (FCall.of_fun (check h la)) ((pt1 _ _ _).trans (.cons _ ((pt1 _ _ _).trans (.cons _ (pt1 _ _ _))))))) ?_
  refine rn ?_
  refine aw_cond rfl (fun hc9 => ?_) (fun hc9 => ?_)
  · have hm : ¬ mayB h = true := by intro q; rw [checkE, if_pos q] at hc9; cases hc9
    refine rn ?_
    refine rq 1 ?_
    exact ⟨rfl, by simp only [placeW, placeI, ruleE]; rw [if_neg hm, if_neg (fun q => hm q.1)]; rfl⟩
  · have hm : mayB h = true := check_0.1 (by simpa using hc9)
    have la3 := may3000 hm
    refine rn ?_
    refine asplit (fun hg3_2 => ?_) (fun hg3_2 => ?_)
    · refine rn ?_
      refine aw_ct rfl ?_
      have hx : ¬ (1 ≤ x ∧ x ≤ 10) := by simp_all; omega
      refine rn ?_
      refine rq 1 ?_
      exact ⟨rfl, by simp only [placeW, placeI, ruleE]; rw [if_pos hm, if_neg hx, if_neg (fun q => hx q.2)]; rfl⟩
    · refine rn ?_
      refine aw_cond rfl (fun hc13 => ?_) (fun hc13 => ?_)
      · have hx : ¬ (1 ≤ x ∧ x ≤ 10) := by simp_all; omega
        refine rn ?_
        refine rq 1 ?_
        exact ⟨rfl, by simp only [placeW, placeI, ruleE]; rw [if_pos hm, if_neg hx, if_neg (fun q => hx q.2)]; rfl⟩
      · have hx : 1 ≤ x ∧ x ≤ 10 := by simp_all; omega
        obtain ⟨k, rfl⟩ : ∃ k : Nat, x = k := ⟨x.toNat, by omega⟩
        have k1 : 1 ≤ k := by omega
        have k2 : k ≤ 10 := by omega
        obtain ⟨pi, pb, hpv⟩ : ∃ i b, placeV (placeP h k) = .tup [iv i, bv b] := place_ib _
        obtain ⟨ei, eb⟩ := place_t hpv
        refine aw_skip ?_
        refine rn0 ?_
        refine aw_seq ?_
        refine aw_drawX 11 [5, 6] [7, 8, 9, 10] (fun he => he = (.box b2 28 (histC h) :: .glob 1 72 limitsC :: .glob 2 152 firstC :: .glob 3 155 acceptC :: .glob 0 64 asksC :: []) ∨ ∃ b, he = .box b 71 (lookN h) :: (.box b2 28 (histC h) :: .glob 1 72 limitsC :: .glob 2 152 firstC :: .glob 3 155 acceptC :: .glob 0 64 asksC :: [])) rfl rfl (.inl rfl) ?_
        refine jq rfl (fun he hC => by rcases hC with rfl | ⟨b, rfl⟩ <;> exact qrA) ?_
        refine jq rfl (fun he hC => by rcases hC with rfl | ⟨b, rfl⟩ <;> exact (by exact qr_indexAddr_arr rfl rfl (by show k < 11; omega))) ?_
        refine jq rfl (fun he hC => by rcases hC with rfl | ⟨b, rfl⟩ <;> exact (by exact qr_load_one rfl (show asksC[0 + k * 1]? = some (askF k) by rw [Nat.zero_add, Nat.mul_one]; exact ask_get k2))) ?_
        refine jq rfl (fun he hC => by rcases hC with rfl | ⟨b, rfl⟩ <;> exact qrA) ?_
        refine jq rfl (fun he hC => by rcases hC with rfl | ⟨b, rfl⟩ <;> exact (by exact qr_build (out := lookN h) rfl (by rfl))) ?_
        refine je rfl ?_
        refine je rfl ?_
        refine je rfl ?_
        refine je rfl ?_
        refine je rfl ?_
        refine je rfl ?_
        refine jnil ?_
        refine jce rfl fun u => ?_
        refine oe_box rfl rfl rfl fun b5 => ⟨_, _, rfl, .inr ⟨_, rfl⟩, ?_⟩
        refine jce rfl fun u => ?_
        refine oe_call rfl rfl (ask_call h la3 b5 _ k1 k2) rfl ?_
        rintro _ _ ⟨rfl, rfl⟩
        rw [hpv]
        refine ⟨_, _, rfl, .inl rfl, ?_⟩
        refine jcn ?_
        refine lq rfl rfl (by exact qrA) ?_
        refine lq rfl rfl (by exact qrA) ?_
        refine lq rfl rfl (by exact qrA) ?_
        refine lq rfl rfl (by exact qrA) ?_
        refine ln ?_
        refine rn ?_
        refine rq 1 ?_
        exact ⟨rfl, by simp only [placeW, placeI, ruleE]; rw [if_pos hm, if_pos hx, if_pos ⟨hm, hx⟩, Int.toNat_natCast, ← ei, ← eb]; rfl⟩
theorem rSound (h : Hist) (la : Lim 4611686018427387904 h) : ACall Tryd.prog 8 [.agg (histC h)] [.glob 1 72 limitsC, .glob 2 152 firstC, .glob 3 155 acceptC, .glob 0 64 asksC] (fun r h' => h' = [.glob 1 72 limitsC, .glob 2 152 firstC, .glob 3 155 acceptC, .glob 0 64 asksC] ∧ r = bv (soundB h)) := by
  refine acall_of_aw Tryd.func8 rfl rfl rfl ?_
  refine rn ?_
  refine aops_e rfl (oe_box rfl rfl rfl fun b1 => ?_)
  refine q1 ?_
  refine aops_nil (thn_n ?_)
  refine aw_seq (aw_region ?_)
  obtain ⟨fi, fj, fb, fe, hf, hfb⟩ := firstAns_tup h
  refine rn ?_
  refine qv rfl rfl (qv_call rfl rfl (FCall.qt (FCall.of_fun (rFirst h la)) ((pt1 _ _ _).trans (.cons _ ((pt1 _ _ _).trans (.cons _ ((pt1 _ _ _).trans (.cons _ (pt1 _ _ _))))))))) ?_
  rw [hf]
  refine rn ?_
  refine aops_e rfl (oe_alloc rfl fun b3 => ?_)
  refine rn ?_
  refine asplit (fun hg2_2 => ?_) (fun hg2_2 => ?_)
  · refine rn ?_
    refine rq 2 ?_
    exact ⟨rfl, congrArg bv (by rw [hfb]; simp_all)⟩
  · refine rn ?_
    refine rq 2 ?_
    exact ⟨rfl, congrArg bv (by rw [hfb]; simp_all)⟩
theorem rWritersF (h : Hist) (x : Int) (la : Lim 4611686018427387904 h) : ACall Tryd.prog 11 [.agg (histC h), iv x] [.glob 1 72 limitsC, .glob 2 152 firstC, .glob 3 155 acceptC, .glob 0 64 asksC] (fun r h' => h' = [.glob 1 72 limitsC, .glob 2 152 firstC, .glob 3 155 acceptC, .glob 0 64 asksC] ∧ r = writersW h x) := by
  refine acall_of_aw Tryd.func11 rfl rfl rfl ?_
  refine rn ?_
  refine aops_e rfl (oe_box rfl rfl rfl fun b2 => ?_)
  refine rn ?_
  refine qv rfl rfl (qv_call rfl rfl (FCall.qt (FCall.of_fun (check h la)) ((pt1 _ _ _).trans (.cons _ ((pt1 _ _ _).trans (.cons _ (pt1 _ _ _))))))) ?_
  refine rn ?_
  refine aw_cond rfl (fun hc10 => ?_) (fun hc10 => ?_)
  · have hm : ¬ mayB h = true := by intro q; rw [checkE, if_pos q] at hc10; cases hc10
    have he : checkE h = 210 := by rw [checkE, if_neg hm]
    refine rn ?_
    exact retq (.cons _ _ _ _ (.tmp _ _ rfl) (.cons _ _ _ _ (.tmp _ _ rfl) .nil)) (.trans (.drop [_] _ _) (vent_tup2 (.nil _ _) (.refl _))) ⟨rfl, by rw [writersW, if_neg hm, he]; rfl⟩
  · have hm : mayB h = true := check_0.1 (by simpa using hc10)
    have la3 := may3000 hm
    refine aw_skip ?_
    refine thn_n ?_
    refine aw_seq (aw_region ?_)
    refine q1 ?_
    refine qq rfl rfl (qr_build (out := lookN h) rfl (by rfl)) ?_
    refine aops_e rfl (oe_box rfl rfl rfl fun b14 => ?_)
    refine rn ?_
    refine qv rfl rfl (qv_call rfl rfl (FCall.of_fun (rWriters h la3 b14 x (.box b2 28 (histC h) :: .glob 1 72 limitsC :: .glob 2 152 firstC :: .glob 3 155 acceptC :: .glob 0 64 asksC :: [])))) ?_
    refine rn ?_
    refine rq 2 ?_
    exact ⟨rfl, by rw [writersW, if_pos hm]; rfl⟩
end Go.Proofs
/- The listed table of functions, as the walk looks at it. Conditions: none. -/
set_option linter.unusedVariables false
set_option maxRecDepth 100000
namespace Go.Proofs.YtmbbjpoljcmhlaaDoor
open Go Go.Ab Go.H
def asksD : DataW Unit := match (Rows.laid_yardarm_rules_asks : DataW Unit) with | .iface _ d => d | d => d
def namesA : List (List UInt8) := match asksD with | .agg ds => ds.map (fun d => match d with | .iface _ (.lit (.string b)) => b | _ => []) | _ => []
def nm (k : Nat) : List UInt8 := namesA.getD (k + 1) []
theorem asksD_out : asksD.funcsOut = .agg (.nil :: (namesA.drop 1).map .held) := by kernel_rfl
theorem glob_any {w : World} {c : Array Value} {T0 : TypeId} {fr : Nat × Nat} {g : Nat} {T : TypeId} {vs : List AV} (hh : w.heap[g]? = some (.cells c T0 fr)) (hl : vs.length = c.size) (h : ∀ j (h1 : j < vs.length) (h2 : j < c.size), Rel w noX vs[j] c[j]) : (Res.glob g T vs).holds w noX :=
  ⟨fun h => h, (Array.getElem?_eq_some_iff.1 hh).1, c, T0, fr, hh, hl, fun j h1 h2 => h j h1 h2⟩
theorem fn_rel (w : World) (f : Nat) : Rel w noX (.fn (.func f) [] []) (.func (.func f) #[] #[]) := .fn _ _ _ _ _ rfl rfl (fun j h => absurd h (Nat.not_lt_zero _)) (fun j h => absurd h (Nat.not_lt_zero _))
def fnA : List Nat := [115, 117, 118, 119, 120, 121, 122, 123, 124, 125]
theorem asks_one (k : Nat) (hk : k < 10) : ∃ b r, namesA[k + 1]? = some (b :: r) ∧ ((List.range Tryd.prog.funcs.size).filter fun f => (Tryd.prog.funcs[f]?).any (·.name.toUTF8.data.toList == b :: r)) = [fnA.getD k 0] ∧ asksC[k + 1]? = some (.fn (.func (fnA.getD k 0)) [] []) := by
  match k, hk with
  | 0, _ => exact ⟨(nm 0).headD 0, (nm 0).tail, by kernel_rfl, by kernel_rfl, by kernel_rfl⟩
  | 1, _ => exact ⟨(nm 1).headD 0, (nm 1).tail, by kernel_rfl, by kernel_rfl, by kernel_rfl⟩
  | 2, _ => exact ⟨(nm 2).headD 0, (nm 2).tail, by kernel_rfl, by kernel_rfl, by kernel_rfl⟩
  | 3, _ => exact ⟨(nm 3).headD 0, (nm 3).tail, by kernel_rfl, by kernel_rfl, by kernel_rfl⟩
  | 4, _ => exact ⟨(nm 4).headD 0, (nm 4).tail, by kernel_rfl, by kernel_rfl, by kernel_rfl⟩
  | 5, _ => exact ⟨(nm 5).headD 0, (nm 5).tail, by kernel_rfl, by kernel_rfl, by kernel_rfl⟩
  | 6, _ => exact ⟨(nm 6).headD 0, (nm 6).tail, by kernel_rfl, by kernel_rfl, by kernel_rfl⟩
  | 7, _ => exact ⟨(nm 7).headD 0, (nm 7).tail, by kernel_rfl, by kernel_rfl, by kernel_rfl⟩
  | 8, _ => exact ⟨(nm 8).headD 0, (nm 8).tail, by kernel_rfl, by kernel_rfl, by kernel_rfl⟩
  | 9, _ => exact ⟨(nm 9).headD 0, (nm 9).tail, by kernel_rfl, by kernel_rfl, by kernel_rfl⟩
theorem glob3 {w : World} (h : laidMetH Tryd.prog laid4 w) : (Res.glob 0 64 asksC).holds w noX := by
  obtain ⟨g, t, cs, fuel, p, hg, ht, hv, hd⟩ := h.funcs (n := "yardarm/rules.asks") (d := asksD) (.tail _ (.tail _ (.head _)))
  obtain rfl := Option.some.inj ((show Tryd.prog.globalNamed "yardarm/rules.asks" = some 0 by kernel_rfl).symm.trans hg)
  obtain rfl := Option.some.inj ((show (Tryd.prog.globals[0]?).map (·.type) = some 64 by kernel_rfl).symm.trans ht)
  rw [asksD_out] at hd
  have c1 : Tryd.prog.cellsOf 63 = 1 := by kernel_rfl
  have c11 : Tryd.prog.cellsOf 64 = 11 := by kernel_rfl
  have hlen : cs.toList.length = 11 := by
    obtain ⟨_, _, _, _, hl, _⟩ := DataW.trod_array Tryd.underlying64 hd
    rw [hl, c11]
  unfold World.var? at hv
  rw [hg] at hv
  simp only [Option.bind_some] at hv
  split at hv
  · rename_i c T0 fr hh
    cases hv
    refine glob_any hh (by rw [show asksC.length = 11 from rfl]; simpa using hlen.symm) fun j h1 h2 => ?_
    cases j with
    | zero => exact .any _
    | succ k =>
      have hk : k < 10 := by have : asksC.length = 11 := rfl; omega
      obtain ⟨b, r, hn, hone, ha⟩ := asks_one k hk
      obtain ⟨f', d, q, e1, e2⟩ := Lib.array_elem Tryd.underlying64 hd (k + 1) (by omega)
      have e1' : d = .held (b :: r) := by
        rw [List.getElem?_cons_succ, List.getElem?_map, List.getElem?_drop, Nat.add_comm 1 k, hn] at e1
        exact (Option.some.inj e1).symm
      subst e1'
      rw [c1, Nat.mul_one, List.drop_eq_getElem_cons (by simpa using h2), List.take_succ_cons, List.take_zero] at e2
      have := func_of_trod (f0 := fnA.getD k 0) Tryd.underlying63 hone e2
      rw [Array.getElem_toList] at this
      rw [this, show asksC[k + 1] = .fn (.func (fnA.getD k 0)) [] [] from Option.some.inj ((List.getElem?_eq_getElem h1).symm.trans ha)]
      exact fn_rel _ _
  · cases hv
theorem laid_hrel4 {W : World} (h : laidMetH Tryd.prog laid4 W) : HRel noX W [.glob 1 72 limitsC, .glob 2 152 firstC, .glob 3 155 acceptC, .glob 0 64 asksC] := by
  obtain ⟨a, b, c, d⟩ := laid_hrel h
  have hO : OO [.glob 1 72 limitsC, .glob 2 152 firstC, .glob 3 155 acceptC] noX = noX := OO_G3
  have hO' : OO [.glob 1 72 limitsC, .glob 2 152 firstC, .glob 3 155 acceptC, .glob 0 64 asksC] noX = noX := by funext b; simp [OO, owns, noX, Res.own]
  refine ⟨by simp [owns, Res.own], fun b hb => by simp [owns, Res.own] at hb, fun b hb => hb.elim, fun r hr => ?_⟩
  rw [hO']
  rw [hO] at d
  simp only [List.mem_cons, List.not_mem_nil, or_false] at hr
  rcases hr with rfl | rfl | rfl | rfl
  · exact d _ (by simp)
  · exact d _ (by simp)
  · exact d _ (by simp)
  · exact glob3 h
theorem OO_G4 : OO [.glob 1 72 limitsC, .glob 2 152 firstC, .glob 3 155 acceptC, .glob 0 64 asksC] noX = noX := by funext b; simp [OO, owns, noX, Res.own]
end Go.Proofs.YtmbbjpoljcmhlaaDoor
/- The walks of law 15's cut and few. Conditions: none. -/
set_option linter.unusedVariables false
set_option linter.unusedSimpArgs false
set_option maxRecDepth 10000
namespace Go.Proofs
open Go Go.Ab
attribute [local irreducible] QR QV OE aops aw dsoup dsoupM dalloc dallocM thn inBlk jsoup jch lsoup
open Go.H
theorem cut {full : Bool} (l : List ByteArray) (most : Nat) (hm : most ≤ 1000) : ACall Tryd.prog 13 [.list full 1 (l.map strR), iv most] [] (fun r h' => h' = [] ∧ r = strsA (cutL most l)) := by
  refine acall_of_aw Tryd.func13 rfl rfl rfl ?_
  refine aw_seq (aw_region ?_)
  refine q1 ?_
  refine aops_nil (thn_n ?_)
  refine aw_seq (aw_region ?_)
  refine q1 ?_
  refine q1 ?_
  refine q1 ?_
  refine q1 ?_
  refine qq rfl rfl (qr_minN (l.map strR).length most rfl rfl) ?_
  refine qq rfl rfl (qr_slice_hE (rows' := (l.take most).map strR) rfl rfl (by omega) (by rw [List.length_map]; exact take_min strR l most)) ?_
  refine aops_e rfl (oe_call rfl rfl (FCall.rowS (FCall.of_fun (cloneRowStr _ (by simp; omega) (one_str _)))) rfl ?_)
  rintro _ _ ⟨s, rfl, rfl⟩
  refine rn ?_
  refine aw_loop' (fun k : Nat => k ≤ (l.take most).length) (fun k => ⟨[(17, iv k), (16, iv ((l.take most).map strR).length), (15, .v s.v), (5, .v s.v)], [.row s.v 1 9 ((((l.take most).take k).map cutS).map strR ++ ((l.take most).drop k).map strR)], []⟩) (fun k => (l.take most).length - k) 0 (by omega)
    (by simp only [List.take_zero, List.map_nil, List.nil_append, List.drop_zero]; exact (ent_sub (.cons _ _ _ rfl (.cons _ _ _ rfl (.cons _ _ _ rfl (.cons _ _ _ rfl (.nil))))))) ?_
  intro k hk
  refine rn ?_
  refine aw_cond rfl (fun hc18 => ?_) (fun hc18 => ?_)
  · have hk2 : k < (l.take most).length := by simpa using hc18
    obtain ⟨b, hb⟩ : ∃ b, b = (l.take most)[k] := ⟨_, rfl⟩
    have hd := List.drop_eq_getElem_cons hk2
    rw [← hb] at hd
    have hL := List.length_take_le most l
    have hkl : (((l.take most).take k).map cutS).length = k := by rw [List.length_map, List.length_take]; omega
    have hrow := mid_get (f := strR) (g := strR) (xs := ((l.take most).take k).map cutS) (k := k) hkl hd
    have hk3 : k < ((((l.take most).take k).map cutS).map strR ++ ((l.take most).drop k).map strR).length := by rw [mid_len hkl hk]; exact hk2
    refine aw_skip ?_
    refine thn_n ?_
    refine aw_seq ?_
    refine aw_block ?_
    refine aw_seq (aw_region ?_)
    refine q1 ?_
    refine q1 ?_
    refine qq rfl rfl (qr_load_rp_one rfl hrow rfl) ?_
    refine q1 ?_
    refine q1 ?_
    refine aops_nil (thn_n ?_)
    refine aw_region ?_
    refine q1 ?_
    refine q1 ?_
    refine q1 ?_
    refine q1 ?_
    refine q1 ?_
    refine qq rfl rfl (qr_minN b.size 40 rfl rfl) ?_
    refine qq rfl rfl (qr_slice_string_h rfl rfl (by omega)) ?_
    refine rn ?_
    refine aops_e rfl (oe_store_rp rfl rfl rfl hrow rfl (Nat.le_of_ble_eq_true rfl) ?_)
    refine rn ?_
    have hset := mid_set (f := strR) (g := strR) (l := (l.take most)) (xs := ((l.take most).take k).map cutS) (a := cutS b) (r := (strR b).take 0 ++ [sv (cutS b)] ++ (strR b).drop (0 + 1)) hkl hd rfl
    have hx : ((l.take most).take k).map cutS ++ [cutS b] = ((l.take most).take (k + 1)).map cutS := by rw [List.take_succ_eq_append_getElem hk2, hb]; simp
    rw [hx] at hset
    exact ⟨k + 1, by omega, (by rw [← hset]; exact (ent_sub (.cons _ _ _ rfl (.cons _ _ _ rfl (.cons _ _ _ rfl (.cons _ _ _ rfl (.nil))))))), by omega⟩
  · obtain rfl : k = (l.take most).length := by
      have : ¬ k < (l.take most).length := by simpa using hc18
      omega
    rw [List.take_length, List.drop_length, List.map_nil, List.append_nil]
    refine rn ?_
    exact retq (.cons _ _ _ _ (.tmp _ _ rfl) .nil) vent_freeze ⟨rfl, rfl⟩
set_option maxHeartbeats 4000000 in
theorem few (h : Hist) (la : Lim 4611686018427387904 h) : ACall Tryd.prog 5 [.agg (histC h)] [] (fun r h' => h' = [] ∧ r = .agg (histC (fewA h))) := by
  refine acall_of_aw Tryd.func5 rfl rfl rfl ?_
  refine rn ?_
  refine aops_e rfl (oe_box rfl rfl rfl fun b1 => ?_)
  refine aops_e rfl (oe_alloc rfl fun b2 => ?_)
  refine rn0 ?_
  refine aw_cutE (fun _ : Nat => True) (fun b3 => ⟨[(1, .v (.pointer (some ⟨b1, 0, none⟩))), (2, .v (.pointer (some ⟨b2, 0, none⟩))), (3, .v (.pointer (some ⟨b3, 0, none⟩)))], [.box b3 28 [strsA (cutL 12 h.ts), strsA (cutL 8 h.ss), strsA (cutL 10 h.os), strsA (cutL 6 h.ps), nilA, nilA, nilA, nilA], .box b2 28 histZ, .box b1 28 (histC h)], []⟩) ?_ ?_
  · refine aw_draw 14 rfl ?_
    refine rn ?_
    refine dv rfl rfl (by exact qv_call rfl rfl (pcall (cut h.ts 12 (by decide)) (Sbs.refl _))) ?_
    refine rn ?_
    refine dv rfl rfl (by exact qv_call rfl rfl (pcall (cut h.ss 8 (by decide)) (Sbs.refl _))) ?_
    refine rn ?_
    refine dv rfl rfl (by exact qv_call rfl rfl (pcall (cut h.os 10 (by decide)) (Sbs.refl _))) ?_
    refine rn ?_
    refine dv rfl rfl (by exact qv_call rfl rfl (pcall (cut h.ps 6 (by decide)) (Sbs.refl _))) ?_
    refine rn ?_
    refine dalloc_a rfl fun b3 => ?_
    refine rn ?_
    exact ⟨b3, trivial, (ent_sub (.cons _ _ _ rfl (.cons _ _ _ rfl (.cons _ _ _ rfl (.nil)))))⟩
  · intro b3 _
    refine rn ?_
    refine aw_loop' (fun x : Nat × SV => x.1 ≤ h.evs.length) (fun x => ⟨[(26, iv x.1), (25, iv (h.evs.map evR).length), (24, evsA h.evs), (1, .v (.pointer (some ⟨b1, 0, none⟩))), (2, .v (.pointer (some ⟨b2, 0, none⟩))), (3, .v (.pointer (some ⟨b3, 0, none⟩)))], [.row x.2.v 9 45 (((h.evs.take (min x.1 70)).map cutE2).map evR), .box b3 28 [strsA (cutL 12 h.ts), strsA (cutL 8 h.ss), strsA (cutL 10 h.os), strsA (cutL 6 h.ps), .v x.2.v, nilA, nilA, nilA], .box b2 28 histZ, .box b1 28 (histC h)], []⟩) (fun x => h.evs.length - x.1) (0, nilS) (by simp)
      (ent_trans (ent_nilrow 9 45) (ent_sub (.cons _ _ _ rfl (.cons _ _ _ rfl (.cons _ _ _ rfl (.cons _ _ _ rfl (.cons _ _ _ rfl (.cons _ _ _ rfl (.nil))))))))) ?_
    rintro ⟨k, s⟩ hk
    simp only at hk
    refine rn ?_
    refine aw_cond rfl (fun hc27 => ?_) (fun hc27 => ?_)
    · have hk2 : k < h.evs.length := by simpa using hc27
      obtain ⟨e, he⟩ : ∃ e, e = h.evs[k] := ⟨_, rfl⟩
      have hrow : (h.evs.map evR)[k]? = some (evR e) := by rw [he]; simp [hk2]
      have hle := la.evs
      refine rn ?_
      refine aops_e rfl (oe_alloc rfl fun b5 => ?_)
      refine rn ?_
      refine aw_cond rfl (fun hc32 => ?_) (fun hc32 => ?_)
      · have hlt : k < 70 := by have := hc32; simp at this; omega
        refine aw_seq (aw_region ?_)
        refine q1 ?_
        refine q1 ?_
        refine q1 ?_
        refine q1 ?_
        refine q1 ?_
        refine qq rfl rfl (qr_minN (e.scan.map seenR).length 12 rfl rfl) ?_
        refine qq rfl rfl (qr_slice_hE (rows' := (e.scan.take 12).map seenR) rfl rfl (by omega) (by rw [List.length_map]; exact take_min seenR e.scan 12)) ?_
        refine qv rfl rfl (qv_call rfl rfl (pcall (cloneSeen ((e.scan.take 12).map seenR) (by simp; omega)) (Sbs.refl _))) ?_
        refine rn ?_
        refine qv rfl rfl (qv_buildSlice rfl rfl) ?_
        refine aops_e rfl (oe_append_row rfl rfl (by have := tk_len h.evs k 70; simp at this ⊢; omega) rfl (fun s46 => ?_) (fun r hr => by simp at hr; subst hr; rfl))
        refine aops_slice s46 fun sv hsv => ?_
        subst hsv
        refine rn ?_
        have hx : ((h.evs.take (min (k + 1) 70)).map cutE2).map evR = ((h.evs.take (min k 70)).map cutE2).map evR ++ [evR (cutE2 e)] := by rw [tk_go hk2 hlt he]; simp
        exact ⟨(k + 1, sv), by simp only; omega, (by rw [hx]; exact (ent_trans (ent_drop (h1 := [_])) (ent_sub (.cons _ _ _ rfl (.cons _ _ _ rfl (.cons _ _ _ rfl (.cons _ _ _ rfl (.cons _ _ _ rfl (.cons _ _ _ rfl (.nil)))))))))), by simp only; omega⟩
      · have hlt : ¬ k < 70 := by have := hc32; simp at this; omega
        refine rn ?_
        exact ⟨(k + 1, s), by simp only; omega, (by rw [tk_no hlt]; exact (ent_trans (ent_drop (h1 := [_])) (ent_sub (.cons _ _ _ rfl (.cons _ _ _ rfl (.cons _ _ _ rfl (.cons _ _ _ rfl (.cons _ _ _ rfl (.cons _ _ _ rfl (.nil)))))))))), by simp only; omega⟩
    · obtain rfl : k = h.evs.length := by
        have : ¬ k < h.evs.length := by simpa using hc27
        omega
      obtain ⟨sE, hsE⟩ : ∃ sE : SV, sE = s := ⟨_, rfl⟩
      simp only [tk_end, ← hsE]
      refine rn ?_
      refine aw_loop' (fun x : Nat × SV => x.1 ≤ h.ords.length) (fun x => ⟨[(52, iv x.1), (51, iv (h.ords.map ordR).length), (50, ordsA h.ords), (1, .v (.pointer (some ⟨b1, 0, none⟩))), (2, .v (.pointer (some ⟨b2, 0, none⟩))), (3, .v (.pointer (some ⟨b3, 0, none⟩)))], [.row x.2.v 2 55 (((h.ords.take (min x.1 14)).map cutO2).map ordR), .row sE.v 9 45 (((h.evs.take 70).map cutE2).map evR), .box b3 28 [strsA (cutL 12 h.ts), strsA (cutL 8 h.ss), strsA (cutL 10 h.os), strsA (cutL 6 h.ps), .v sE.v, .v x.2.v, nilA, nilA], .box b2 28 histZ, .box b1 28 (histC h)], []⟩) (fun x => h.ords.length - x.1) (0, nilS) (by simp)
        (ent_trans (ent_nilrow 2 55) (ent_sub (.cons _ _ _ rfl (.cons _ _ _ rfl (.cons _ _ _ rfl (.cons _ _ _ rfl (.cons _ _ _ rfl (.cons _ _ _ rfl (.nil))))))))) ?_
      rintro ⟨k, s⟩ hk
      simp only at hk
      refine rn ?_
      refine aw_cond rfl (fun hc53 => ?_) (fun hc53 => ?_)
      · have hk2 : k < h.ords.length := by simpa using hc53
        obtain ⟨e, he⟩ : ∃ e, e = h.ords[k] := ⟨_, rfl⟩
        have hrow : (h.ords.map ordR)[k]? = some (ordR e) := by rw [he]; simp [hk2]
        have hle := la.ords
        refine rn ?_
        refine aops_e rfl (oe_alloc rfl fun b7 => ?_)
        refine rn ?_
        refine aw_cond rfl (fun hc58 => ?_) (fun hc58 => ?_)
        · have hlt : k < 14 := by have := hc58; simp at this; omega
          refine aw_draw 14 rfl ?_
          refine dq rfl rfl qrA ?_
          refine dq rfl rfl qrA ?_
          refine dq rfl rfl qrA ?_
          refine dq rfl rfl qrA ?_
          refine dq rfl rfl qrA ?_
          refine dq rfl rfl qrA ?_
          refine dq rfl rfl qrA ?_
          refine dq rfl rfl qrA ?_
          refine dq rfl rfl qrA ?_
          refine dq rfl rfl (qr_minN (e.ts.map intR).length 14 rfl rfl) ?_
          refine dq rfl rfl (qr_slice_hE (rows' := (e.ts.take 14).map intR) rfl rfl (by omega) (by rw [List.length_map]; exact take_min intR e.ts 14)) ?_
          refine dv rfl rfl (by exact qv_call rfl rfl (pcall (cloneInt ((e.ts.take 14).map intR) (by simp; omega)) (Sbs.refl _))) ?_
          refine rn ?_
          refine dv rfl rfl (qv_buildSlice rfl rfl) ?_
          refine rn ?_
          refine aops_e rfl (oe_append_row rfl rfl (by have := tk_len h.ords k 14; simp at this ⊢; omega) rfl (fun s73 => ?_) (fun r hr => by simp at hr; subst hr; rfl))
          refine aops_slice s73 fun sv hsv => ?_
          subst hsv
          refine rn ?_
          have hx : ((h.ords.take (min (k + 1) 14)).map cutO2).map ordR = ((h.ords.take (min k 14)).map cutO2).map ordR ++ [ordR (cutO2 e)] := by rw [tk_go hk2 hlt he]; simp
          exact ⟨(k + 1, sv), by simp only; omega, (by rw [hx]; exact (ent_trans (ent_drop (h1 := [_])) (ent_sub (.cons _ _ _ rfl (.cons _ _ _ rfl (.cons _ _ _ rfl (.cons _ _ _ rfl (.cons _ _ _ rfl (.cons _ _ _ rfl (.nil)))))))))), by simp only; omega⟩
        · have hlt : ¬ k < 14 := by have := hc58; simp at this; omega
          refine rn ?_
          exact ⟨(k + 1, s), by simp only; omega, (by rw [tk_no hlt]; exact (ent_trans (ent_drop (h1 := [_])) (ent_sub (.cons _ _ _ rfl (.cons _ _ _ rfl (.cons _ _ _ rfl (.cons _ _ _ rfl (.cons _ _ _ rfl (.cons _ _ _ rfl (.nil)))))))))), by simp only; omega⟩
      · obtain rfl : k = h.ords.length := by
          have : ¬ k < h.ords.length := by simpa using hc53
          omega
        obtain ⟨sO, hsO⟩ : ∃ sO : SV, sO = s := ⟨_, rfl⟩
        simp only [tk_end, ← hsO]
        refine rn ?_
        refine aw_loop' (fun x : Nat × SV => x.1 ≤ h.mats.length) (fun x => ⟨[(79, iv x.1), (78, iv (h.mats.map matR).length), (77, matsA h.mats), (1, .v (.pointer (some ⟨b1, 0, none⟩))), (2, .v (.pointer (some ⟨b2, 0, none⟩))), (3, .v (.pointer (some ⟨b3, 0, none⟩)))], [.row x.2.v 4 58 (((h.mats.take (min x.1 20)).map cutM2).map matR), .row sO.v 2 55 (((h.ords.take 14).map cutO2).map ordR), .row sE.v 9 45 (((h.evs.take 70).map cutE2).map evR), .box b3 28 [strsA (cutL 12 h.ts), strsA (cutL 8 h.ss), strsA (cutL 10 h.os), strsA (cutL 6 h.ps), .v sE.v, .v sO.v, .v x.2.v, nilA], .box b2 28 histZ, .box b1 28 (histC h)], []⟩) (fun x => h.mats.length - x.1) (0, nilS) (by simp)
          (ent_trans (ent_nilrow 4 58) (ent_sub (.cons _ _ _ rfl (.cons _ _ _ rfl (.cons _ _ _ rfl (.cons _ _ _ rfl (.cons _ _ _ rfl (.cons _ _ _ rfl (.nil))))))))) ?_
        rintro ⟨k, s⟩ hk
        simp only at hk
        refine rn ?_
        refine aw_cond rfl (fun hc80 => ?_) (fun hc80 => ?_)
        · have hk2 : k < h.mats.length := by simpa using hc80
          obtain ⟨e, he⟩ : ∃ e, e = h.mats[k] := ⟨_, rfl⟩
          have hrow : (h.mats.map matR)[k]? = some (matR e) := by rw [he]; simp [hk2]
          have hle := la.mats
          refine rn ?_
          refine aops_e rfl (oe_alloc rfl fun b9 => ?_)
          refine rn ?_
          refine aw_cond rfl (fun hc85 => ?_) (fun hc85 => ?_)
          · have hlt : k < 20 := by have := hc85; simp at this; omega
            refine aw_seq (aw_region ?_)
            refine q1 ?_
            refine q1 ?_
            refine q1 ?_
            refine q1 ?_
            refine q1 ?_
            refine qq rfl rfl (qr_minN (e.ts.map intR).length 14 rfl rfl) ?_
            refine qq rfl rfl (qr_slice_hE (rows' := (e.ts.take 14).map intR) rfl rfl (by omega) (by rw [List.length_map]; exact take_min intR e.ts 14)) ?_
            refine qv rfl rfl (qv_call rfl rfl (pcall (cloneInt ((e.ts.take 14).map intR) (by simp; omega)) (Sbs.refl _))) ?_
            refine rn ?_
            refine qv rfl rfl (qv_buildSlice rfl rfl) ?_
            refine aops_e rfl (oe_append_row rfl rfl (by have := tk_len h.mats k 20; simp at this ⊢; omega) rfl (fun s99 => ?_) (fun r hr => by simp at hr; subst hr; rfl))
            refine aops_slice s99 fun sv hsv => ?_
            subst hsv
            refine rn ?_
            have hx : ((h.mats.take (min (k + 1) 20)).map cutM2).map matR = ((h.mats.take (min k 20)).map cutM2).map matR ++ [matR (cutM2 e)] := by rw [tk_go hk2 hlt he]; simp
            exact ⟨(k + 1, sv), by simp only; omega, (by rw [hx]; exact (ent_trans (ent_drop (h1 := [_])) (ent_sub (.cons _ _ _ rfl (.cons _ _ _ rfl (.cons _ _ _ rfl (.cons _ _ _ rfl (.cons _ _ _ rfl (.cons _ _ _ rfl (.nil)))))))))), by simp only; omega⟩
          · have hlt : ¬ k < 20 := by have := hc85; simp at this; omega
            refine rn ?_
            exact ⟨(k + 1, s), by simp only; omega, (by rw [tk_no hlt]; exact (ent_trans (ent_drop (h1 := [_])) (ent_sub (.cons _ _ _ rfl (.cons _ _ _ rfl (.cons _ _ _ rfl (.cons _ _ _ rfl (.cons _ _ _ rfl (.cons _ _ _ rfl (.nil)))))))))), by simp only; omega⟩
        · obtain rfl : k = h.mats.length := by
            have : ¬ k < h.mats.length := by simpa using hc80
            omega
          obtain ⟨sM, hsM⟩ : ∃ sM : SV, sM = s := ⟨_, rfl⟩
          simp only [tk_end, ← hsM]
          refine aw_exit ?_
          refine thn_e ?_
          refine thn_e ?_
          refine inBlk_hit ?_
          refine thn_n ?_
          refine aw_seq (aw_region ?_)
          refine q1 ?_
          refine q1 ?_
          refine q1 ?_
          refine q1 ?_
          refine q1 ?_
          refine qq rfl rfl (qr_minN (h.wants.map wanR).length 12 rfl rfl) ?_
          refine qq rfl rfl (qr_slice_hE (rows' := (h.wants.take 12).map wanR) rfl rfl (by omega) (by rw [List.length_map]; exact take_min wanR h.wants 12)) ?_
          refine qv rfl rfl (qv_call rfl rfl (pcall (cloneWan ((h.wants.take 12).map wanR) (by simp; omega)) (Sbs.refl _))) ?_
          refine rn ?_
          exact retq (.cons _ _ _ _ (.agg _ _ _ _ _ _ _ rfl inferInstance inferInstance inferInstance rfl) .nil) (.trans (vent_freeze_cell [_, _, _, _, _, _] _) (.trans (vent_freeze_cell [_, _, _, _, _] _) (.trans (vent_freeze_cell [_, _, _, _] _) (.drop [_, _, _] _ _)))) ⟨rfl, rfl⟩
end Go.Proofs
/- The walk of law 15's wakes. Conditions: none. -/
set_option linter.unusedVariables false
set_option linter.unusedSimpArgs false
set_option maxRecDepth 10000
namespace Go.Proofs
open Go Go.Ab
attribute [local irreducible] QR QV OE aops aw dsoup dsoupM dalloc dallocM thn inBlk jsoup jch lsoup
open Go.H
theorem smallA  : ACall Tryd.prog 10 [] [] (fun r h' => h' = [] ∧ r = .agg (histC smallH)) := by
  refine acall_of_aw Tryd.func10 rfl rfl rfl ?_
  refine rn ?_
  refine aops_e rfl (oe_alloc rfl fun b0 => ?_)
  refine rn ?_
  refine qv rfl rfl (qv_buildSlice rfl rfl) ?_
  refine qv rfl rfl (qv_buildSlice rfl rfl) ?_
  refine qv rfl rfl (qv_buildSlice rfl rfl) ?_
  refine rn ?_
  refine qv rfl rfl (qv_buildSlice rfl rfl) ?_
  refine rn ?_
  exact retq (.cons _ _ _ _ (.agg _ _ _ _ _ _ _ rfl inferInstance inferInstance inferInstance rfl) .nil) (.trans (.drop1 _ _ _) (.le (Sb.aggs (bs := histC smallH) (by exact ⟨.unfull, .unfull, .unfull, .nil _ _, (.lists (by simp) ⟨⟨.refl _, .refl _, .refl _, .refl _, .refl _, .refl _, .refl _, .refl _, .nil _ _, trivial⟩, ⟨.refl _, .refl _, .refl _, .refl _, .refl _, .refl _, .refl _, .refl _, .nil _ _, trivial⟩, ⟨.refl _, .refl _, .refl _, .refl _, .refl _, .refl _, .refl _, .refl _, .nil _ _, trivial⟩, trivial⟩), .nil _ _, .nil _ _, .nil _ _, trivial⟩)).le)) ⟨rfl, rfl⟩
theorem smallB  : ACall Tryd.prog 10 [] [] (fun r h' => h' = [] ∧ r = .agg [strsA smallH.ts, strsA smallH.ss, strsA smallH.os, strsA [], .list true 9 (smallH.evs.map evR), ordsA [], matsA [], wansA []]) := by
  refine acall_of_aw Tryd.func10 rfl rfl rfl ?_
  refine rn ?_
  refine aops_e rfl (oe_alloc rfl fun b0 => ?_)
  refine rn ?_
  refine qv rfl rfl (qv_buildSlice rfl rfl) ?_
  refine qv rfl rfl (qv_buildSlice rfl rfl) ?_
  refine qv rfl rfl (qv_buildSlice rfl rfl) ?_
  refine rn ?_
  refine qv rfl rfl (qv_buildSlice rfl rfl) ?_
  refine rn ?_
  exact retq (.cons _ _ _ _ (.agg _ _ _ _ _ _ _ rfl inferInstance inferInstance inferInstance rfl) .nil) (.trans (.drop1 _ _ _) (.le (Sb.aggs (bs := [strsA smallH.ts, strsA smallH.ss, strsA smallH.os, strsA [], .list true 9 (smallH.evs.map evR), ordsA [], matsA [], wansA []]) (by exact ⟨.unfull, .unfull, .unfull, .nil _ _, (.lists (by simp) ⟨⟨.refl _, .refl _, .refl _, .refl _, .refl _, .refl _, .refl _, .refl _, .nil _ _, trivial⟩, ⟨.refl _, .refl _, .refl _, .refl _, .refl _, .refl _, .refl _, .refl _, .nil _ _, trivial⟩, ⟨.refl _, .refl _, .refl _, .refl _, .refl _, .refl _, .refl _, .refl _, .nil _ _, trivial⟩, trivial⟩), .nil _ _, .nil _ _, .nil _ _, trivial⟩)).le)) ⟨rfl, rfl⟩
theorem limA : Lim 4611686018427387904 smallH := ⟨by decide, by decide, by decide, by decide, by decide, by decide, by decide, by decide, by decide, by decide, by decide⟩
theorem limB : Lim 4611686018427387904 lateH := ⟨by decide, by decide, by decide, by decide, by decide, by decide, by decide, by decide, by decide, by decide, by decide⟩
theorem firstA : ACall Tryd.prog 6 [.agg (histC smallH)] [.glob 1 72 limitsC, .glob 2 152 firstC, .glob 3 155 acceptC, .glob 0 64 asksC] (fun r h' => h' = [.glob 1 72 limitsC, .glob 2 152 firstC, .glob 3 155 acceptC, .glob 0 64 asksC] ∧ r = .tup [.agg [iv 0, iv 0], bv false, iv 0]) := (rFirst smallH limA).mono fun _ _ q => ⟨q.1, by rw [q.2, v15a]⟩
theorem firstB : ACall Tryd.prog 6 [.agg (histC lateH)] [.glob 1 72 limitsC, .glob 2 152 firstC, .glob 3 155 acceptC, .glob 0 64 asksC] (fun r h' => h' = [.glob 1 72 limitsC, .glob 2 152 firstC, .glob 3 155 acceptC, .glob 0 64 asksC] ∧ r = .tup [.agg [iv 2, iv 3], bv true, iv 0]) := (rFirst lateH limB).mono fun _ _ q => ⟨q.1, by rw [q.2, v15b]⟩
theorem writersA : ACall Tryd.prog 11 [.agg (histC smallH), iv 0] [.glob 1 72 limitsC, .glob 2 152 firstC, .glob 3 155 acceptC, .glob 0 64 asksC] (fun r h' => h' = [.glob 1 72 limitsC, .glob 2 152 firstC, .glob 3 155 acceptC, .glob 0 64 asksC] ∧ r = .tup [intsA [0], iv 0]) := (rWritersF smallH 0 limA).mono fun _ _ q => ⟨q.1, by rw [q.2, v15c]⟩
theorem soundA : ACall Tryd.prog 8 [.agg (histC smallH)] [.glob 1 72 limitsC, .glob 2 152 firstC, .glob 3 155 acceptC, .glob 0 64 asksC] (fun r h' => h' = [.glob 1 72 limitsC, .glob 2 152 firstC, .glob 3 155 acceptC, .glob 0 64 asksC] ∧ r = bv true) := (rSound smallH limA).mono fun _ _ q => ⟨q.1, by rw [q.2, v15d]⟩
theorem equalA : ACall Tryd.prog 12 [.list false 1 ([0].map intR), .list true 1 ([0].map intR)] [] (fun r h' => h' = [] ∧ r = bv true) := (equalInt [0] [0] (by decide) (by decide)).mono fun _ _ q => ⟨q.1, by rw [q.2]; rfl⟩
set_option maxHeartbeats 4000000 in
theorem wakesA  : ACall Tryd.prog 4 [] [.glob 1 72 limitsC, .glob 2 152 firstC, .glob 3 155 acceptC, .glob 0 64 asksC] (fun r h' => h' = [.glob 1 72 limitsC, .glob 2 152 firstC, .glob 3 155 acceptC, .glob 0 64 asksC] ∧ r = bv true) := by
  refine acall_of_aw Tryd.func4 rfl rfl rfl ?_
  refine rn ?_
  refine qv rfl rfl (qv_call rfl rfl (pcall smallA (Sbs.refl _))) ?_
  refine aops_e rfl (oe_alloc rfl fun b1 => ?_)
  refine rn ?_
  refine qv rfl rfl (qv_call rfl rfl (FCall.qt (FCall.of_fun firstA) ((pt1 _ _ _).trans (.cons _ ((pt1 _ _ _).trans (.cons _ ((pt1 _ _ _).trans (.cons _ (pt1 _ _ _))))))))) ?_
  refine rn ?_
  refine aops_e rfl (oe_alloc rfl fun b2 => ?_)
  refine rn ?_
  refine qv rfl rfl (qv_call rfl rfl (pcall smallB (Sbs.refl _))) ?_
  refine aops_e rfl (oe_alloc rfl fun b5 => ?_)
  refine rn ?_
  refine qv rfl rfl (qv_buildSlice rfl rfl) ?_
  refine qv rfl rfl (qv_append rfl rfl (by decide)) ?_
  refine rn ?_
  refine qv rfl rfl (qv_call rfl rfl (FCall.le (FCall.qt (FCall.of_fun firstB) ((pt3 _ _ _ _ _).trans (.cons _ ((pt3 _ _ _ _ _).trans (.cons _ ((pt3 _ _ _ _ _).trans (.cons _ (pt3 _ _ _ _ _)))))))) (Sbs.les (bs := [.agg (histC lateH)]) ⟨.aggs ⟨.refl _, .refl _, .refl _, .refl _, .lists (by simp) ⟨.refl _, .refl _, .refl _, ⟨.refl _, .refl _, .refl _, .refl _, .refl _, .refl _, .refl _, .refl _, .nil _ _, trivial⟩, trivial⟩, .refl _, .refl _, .refl _, trivial⟩, trivial⟩))) ?_
  refine rn ?_
  refine aops_e rfl (oe_alloc rfl fun b6 => ?_)
  refine rn ?_
  refine qv rfl rfl (qv_call rfl rfl (FCall.qt (FCall.of_fun writersA) ((pt4 _ _ _ _ _ _).trans (.cons _ ((pt4 _ _ _ _ _ _).trans (.cons _ ((pt4 _ _ _ _ _ _).trans (.cons _ (pt4 _ _ _ _ _ _))))))))) ?_
  refine rn ?_
  refine qv rfl rfl (qv_call rfl rfl (FCall.qt (FCall.of_fun soundA) ((pt4 _ _ _ _ _ _).trans (.cons _ ((pt4 _ _ _ _ _ _).trans (.cons _ ((pt4 _ _ _ _ _ _).trans (.cons _ (pt4 _ _ _ _ _ _))))))))) ?_
  refine rn ?_
  refine qv rfl rfl (qv_buildSlice rfl rfl) ?_
  refine qv rfl rfl (qv_call rfl rfl (pcall equalA (Sbs.refl _))) ?_
  refine rn ?_
  first | (refine rq 4 ?_; exact ⟨rfl, rfl⟩) | (exfalso; simp_all; done)
end Go.Proofs
/- The walk of RulesOrder. Conditions: none. -/
set_option linter.unusedVariables false
set_option linter.unusedSimpArgs false
set_option maxRecDepth 10000
namespace Go.Proofs
open Go Go.Ab
attribute [local irreducible] QR QV OE aops aw dsoup dsoupM dalloc dallocM thn inBlk jsoup jch lsoup
open Go.H
theorem tri3 {p : Prop} (k r : Nat) (a : k < r → p) (b : k = r → p) (c : r < k → p) : p := by
  rcases Nat.lt_trichotomy k r with h | h | h
  · exact a h
  · exact b h
  · exact c h
theorem mem10 {k : Nat} (h1 : 1 ≤ k) (h2 : k ≤ 10) : k ∈ rules10 := by
  have : ∀ k, k < 11 → 1 ≤ k → k ∈ rules10 := by decide
  exact this k (by omega) h1
theorem firstN (h : Hist) (la : Lim 4611686018427387904 h) (hm : ¬ mayB h = true) : ACall Tryd.prog 6 [.agg (histC h)] [.glob 1 72 limitsC, .glob 2 152 firstC, .glob 3 155 acceptC, .glob 0 64 asksC] (fun r h' => h' = [.glob 1 72 limitsC, .glob 2 152 firstC, .glob 3 155 acceptC, .glob 0 64 asksC] ∧ r = .tup [.agg [iv 0, iv 0], bv false, iv 210]) := (rFirst h la).mono fun _ _ q => ⟨q.1, by rw [q.2, firstAns, if_neg hm]⟩
theorem firstO (h : Hist) (hm : mayB h = true) (hf : firstH h = none) : ACall Tryd.prog 6 [.agg (histC h)] [.glob 1 72 limitsC, .glob 2 152 firstC, .glob 3 155 acceptC, .glob 0 64 asksC] (fun r h' => h' = [.glob 1 72 limitsC, .glob 2 152 firstC, .glob 3 155 acceptC, .glob 0 64 asksC] ∧ r = .tup [.agg [iv 0, iv 0], bv false, iv 0]) := (rFirst h ((may3000 hm).mono (by decide))).mono fun _ _ q => ⟨q.1, by rw [q.2, firstAns, if_pos hm, hf]; rfl⟩
theorem firstS (h : Hist) (hm : mayB h = true) (m i : Nat) (hf : firstH h = some (m, i)) : ACall Tryd.prog 6 [.agg (histC h)] [.glob 1 72 limitsC, .glob 2 152 firstC, .glob 3 155 acceptC, .glob 0 64 asksC] (fun r h' => h' = [.glob 1 72 limitsC, .glob 2 152 firstC, .glob 3 155 acceptC, .glob 0 64 asksC] ∧ r = .tup [.agg [iv m, iv i], bv true, iv 0]) := (rFirst h ((may3000 hm).mono (by decide))).mono fun _ _ q => ⟨q.1, by rw [q.2, firstAns, if_pos hm, hf]; rfl⟩
theorem soundV (h : Hist) (la : Lim 4611686018427387904 h) (b : Bool) (hs : soundB h = b) : ACall Tryd.prog 8 [.agg (histC h)] [.glob 1 72 limitsC, .glob 2 152 firstC, .glob 3 155 acceptC, .glob 0 64 asksC] (fun r h' => h' = [.glob 1 72 limitsC, .glob 2 152 firstC, .glob 3 155 acceptC, .glob 0 64 asksC] ∧ r = bv b) := (rSound h la).mono fun _ _ q => ⟨q.1, by rw [q.2, hs]⟩
theorem placeX (h : Hist) (k : Nat) (hm : mayB h = true) (h1 : 1 ≤ k) (h2 : k ≤ 10) (o : Option Nat) (hp : placeP h k = o) : ACall Tryd.prog 9 [.agg (histC h), iv k] [.glob 1 72 limitsC, .glob 2 152 firstC, .glob 3 155 acceptC, .glob 0 64 asksC] (fun r h' => h' = [.glob 1 72 limitsC, .glob 2 152 firstC, .glob 3 155 acceptC, .glob 0 64 asksC] ∧ r = .tup [iv (natI o), bv o.isSome, iv 0]) :=
  (rPlace h k ((may3000 hm).mono (by decide))).mono fun _ _ q => ⟨q.1, by
    have c : mayB h = true ∧ (1 : Int) ≤ k ∧ (k : Int) ≤ 10 := ⟨hm, by omega, by omega⟩
    rw [q.2, placeW, placeI, if_pos c, ruleE, if_pos hm, if_pos c.2, Int.toNat_natCast, hp]⟩
set_option maxHeartbeats 4000000 in
theorem orderN (x : Hist) (la : Lim 4611686018427387904 x) (hm : ¬ mayB (fewA x) = true) : ACall Tryd.prog 3 [.agg (histC x)] [.glob 1 72 limitsC, .glob 2 152 firstC, .glob 3 155 acceptC, .glob 0 64 asksC] (fun r h' => h' = [.glob 1 72 limitsC, .glob 2 152 firstC, .glob 3 155 acceptC, .glob 0 64 asksC] ∧ r = bv true) := by
  refine acall_of_aw Tryd.func3 rfl rfl rfl ?_
  refine rn ?_
  refine aops_e rfl (oe_box rfl rfl rfl fun b1 => ?_)
  refine rn ?_
  refine qv rfl rfl (qv_call rfl rfl (FCall.qt (FCall.of_fun wakesA) ((pt1 _ _ _).trans (.cons _ ((pt1 _ _ _).trans (.cons _ ((pt1 _ _ _).trans (.cons _ (pt1 _ _ _))))))))) ?_
  refine rn ?_
  refine aw_cond rfl (fun hc12 => ?_) (fun hc12 => ?_)
  · exact absurd hc12 (by decide)
  · refine rn ?_
    refine qv rfl rfl (qv_call rfl rfl (pcall (few x la) (Sbs.refl _))) ?_
    refine aops_e rfl (oe_alloc rfl fun b3 => ?_)
    refine rn ?_
    refine qv rfl rfl (qv_call rfl rfl (FCall.qt (FCall.of_fun (firstN (fewA x) ((fewA_lim x).mono (by decide)) hm)) ((pt2 _ _ _ _).trans (.cons _ ((pt2 _ _ _ _).trans (.cons _ ((pt2 _ _ _ _).trans (.cons _ (pt2 _ _ _ _))))))))) ?_
    refine rn ?_
    refine aops_e rfl (oe_alloc rfl fun b4 => ?_)
    refine rn ?_
    refine aw_cond rfl (fun hc22 => ?_) (fun hc22 => ?_)
    · refine rn ?_
      refine qv rfl rfl (qv_call rfl rfl (FCall.qt (FCall.of_fun (check (fewA x) ((fewA_lim x).mono (by decide)))) ((pt3 _ _ _ _ _).trans (.cons _ ((pt3 _ _ _ _ _).trans (.cons _ (pt3 _ _ _ _ _))))))) ?_
      refine q1 ?_
      refine qq rfl rfl (qr_cmp (c := true) rfl rfl (by rw [checkE, if_neg hm]; rfl)) ?_
      refine rn ?_
      refine qv rfl rfl (qv_call rfl rfl (FCall.qt (FCall.of_fun (soundV (fewA x) ((fewA_lim x).mono (by decide)) false (by rw [soundB, Bool.eq_false_iff.2 hm]; rfl))) ((pt3 _ _ _ _ _).trans (.cons _ ((pt3 _ _ _ _ _).trans (.cons _ ((pt3 _ _ _ _ _).trans (.cons _ (pt3 _ _ _ _ _))))))))) ?_
      refine rn ?_
      refine rq 3 ?_
      exact ⟨rfl, rfl⟩
    · exact absurd hc22 (by decide)
set_option maxHeartbeats 4000000 in
theorem orderO (x : Hist) (la : Lim 4611686018427387904 x) (hm : mayB (fewA x) = true) (hf : firstH (fewA x) = none) : ACall Tryd.prog 3 [.agg (histC x)] [.glob 1 72 limitsC, .glob 2 152 firstC, .glob 3 155 acceptC, .glob 0 64 asksC] (fun r h' => h' = [.glob 1 72 limitsC, .glob 2 152 firstC, .glob 3 155 acceptC, .glob 0 64 asksC] ∧ r = bv true) := by
  refine acall_of_aw Tryd.func3 rfl rfl rfl ?_
  refine rn ?_
  refine aops_e rfl (oe_box rfl rfl rfl fun b1 => ?_)
  refine rn ?_
  refine qv rfl rfl (qv_call rfl rfl (FCall.qt (FCall.of_fun wakesA) ((pt1 _ _ _).trans (.cons _ ((pt1 _ _ _).trans (.cons _ ((pt1 _ _ _).trans (.cons _ (pt1 _ _ _))))))))) ?_
  refine rn ?_
  refine aw_cond rfl (fun hc12 => ?_) (fun hc12 => ?_)
  · exact absurd hc12 (by decide)
  · refine rn ?_
    refine qv rfl rfl (qv_call rfl rfl (pcall (few x la) (Sbs.refl _))) ?_
    refine aops_e rfl (oe_alloc rfl fun b3 => ?_)
    refine rn ?_
    refine qv rfl rfl (qv_call rfl rfl (FCall.qt (FCall.of_fun (firstO (fewA x) hm hf)) ((pt2 _ _ _ _).trans (.cons _ ((pt2 _ _ _ _).trans (.cons _ ((pt2 _ _ _ _).trans (.cons _ (pt2 _ _ _ _))))))))) ?_
    refine rn ?_
    refine aops_e rfl (oe_alloc rfl fun b4 => ?_)
    refine rn ?_
    refine aw_cond rfl (fun hc22 => ?_) (fun hc22 => ?_)
    · exact absurd hc22 (by decide)
    · refine rn ?_
      refine aw_while (fun k : Nat => 1 ≤ k ∧ k ≤ 11) (fun k => ⟨[(7, iv k), (3, .v (.pointer (some ⟨b3, 0, none⟩))), (4, .v (.pointer (some ⟨b4, 0, none⟩))), (5, bv false)], (.box b4 32 [iv 0, iv 0] :: .box b3 28 (histC (fewA x)) :: .box b1 28 (histC x) :: .glob 1 72 limitsC :: .glob 2 152 firstC :: .glob 3 155 acceptC :: .glob 0 64 asksC :: []), []⟩) (fun k => 11 - k) 1 ⟨by omega, by omega⟩ es ?_
      rintro k ⟨k1, k3⟩
      refine rn ?_
      refine aw_cond rfl (fun hc33 => ?_) (fun hc33 => ?_)
      · have k2 : k ≤ 10 := by have := of_decide_eq_true hc33; omega
        refine rn ?_
        refine qv rfl rfl (qv_call rfl rfl (FCall.qt (FCall.of_fun (placeX (fewA x) k hm k1 k2 none (first_none hf k (mem10 k1 k2)))) ((pt3 _ _ _ _ _).trans (.cons _ ((pt3 _ _ _ _ _).trans (.cons _ ((pt3 _ _ _ _ _).trans (.cons _ (pt3 _ _ _ _ _))))))))) ?_
        refine rn ?_
        refine aw_cond rfl (fun hc82 => ?_) (fun hc82 => ?_)
        · first | cases hc82 | exact absurd hc82 (by decide) | (exfalso; simp_all; done)
        · refine rn ?_
          exact ⟨k + 1, ⟨by omega, by omega⟩, eA, by omega⟩
      · refine rn ?_
        refine qv rfl rfl (qv_call rfl rfl (FCall.qt (FCall.of_fun (soundV (fewA x) ((fewA_lim x).mono (by decide)) true (may_sound hm hf))) ((pt3 _ _ _ _ _).trans (.cons _ ((pt3 _ _ _ _ _).trans (.cons _ ((pt3 _ _ _ _ _).trans (.cons _ (pt3 _ _ _ _ _))))))))) ?_
        refine rn ?_
        refine rq 3 ?_
        exact ⟨rfl, rfl⟩
set_option maxHeartbeats 4000000 in
theorem orderS (x : Hist) (la : Lim 4611686018427387904 x) (m i : Nat) (hm : mayB (fewA x) = true) (hf : firstH (fewA x) = some (m, i)) : ACall Tryd.prog 3 [.agg (histC x)] [.glob 1 72 limitsC, .glob 2 152 firstC, .glob 3 155 acceptC, .glob 0 64 asksC] (fun r h' => h' = [.glob 1 72 limitsC, .glob 2 152 firstC, .glob 3 155 acceptC, .glob 0 64 asksC] ∧ r = bv true) := by
  refine acall_of_aw Tryd.func3 rfl rfl rfl ?_
  refine rn ?_
  refine aops_e rfl (oe_box rfl rfl rfl fun b1 => ?_)
  refine rn ?_
  refine qv rfl rfl (qv_call rfl rfl (FCall.qt (FCall.of_fun wakesA) ((pt1 _ _ _).trans (.cons _ ((pt1 _ _ _).trans (.cons _ ((pt1 _ _ _).trans (.cons _ (pt1 _ _ _))))))))) ?_
  refine rn ?_
  refine aw_cond rfl (fun hc12 => ?_) (fun hc12 => ?_)
  · exact absurd hc12 (by decide)
  · refine rn ?_
    refine qv rfl rfl (qv_call rfl rfl (pcall (few x la) (Sbs.refl _))) ?_
    refine aops_e rfl (oe_alloc rfl fun b3 => ?_)
    refine rn ?_
    refine qv rfl rfl (qv_call rfl rfl (FCall.qt (FCall.of_fun (firstS (fewA x) hm m i hf)) ((pt2 _ _ _ _).trans (.cons _ ((pt2 _ _ _ _).trans (.cons _ ((pt2 _ _ _ _).trans (.cons _ (pt2 _ _ _ _))))))))) ?_
    refine rn ?_
    refine aops_e rfl (oe_alloc rfl fun b4 => ?_)
    refine rn ?_
    refine aw_cond rfl (fun hc22 => ?_) (fun hc22 => ?_)
    · exact absurd hc22 (by decide)
    · obtain ⟨f1, f2, f3⟩ := first_some (by decide) hf
      refine rn ?_
      refine aw_while (fun k : Nat => 1 ≤ k ∧ k ≤ 11) (fun k => ⟨[(7, iv k), (3, .v (.pointer (some ⟨b3, 0, none⟩))), (4, .v (.pointer (some ⟨b4, 0, none⟩))), (5, bv true)], (.box b4 32 [iv m, iv i] :: .box b3 28 (histC (fewA x)) :: .box b1 28 (histC x) :: .glob 1 72 limitsC :: .glob 2 152 firstC :: .glob 3 155 acceptC :: .glob 0 64 asksC :: []), []⟩) (fun k => 11 - k) 1 ⟨by omega, by omega⟩ es ?_
      rintro k ⟨k1, k3⟩
      refine rn ?_
      refine aw_cond rfl (fun hc33 => ?_) (fun hc33 => ?_)
      · have k2 : k ≤ 10 := by have := of_decide_eq_true hc33; omega
        refine aw_skip ?_
        refine thn_n ?_
        refine aw_seq ?_
        refine aw_block ?_
        refine aw_seq (aw_region ?_)
        refine q1 ?_
        refine q1 ?_
        refine tri3 k m (fun hlt => qv rfl rfl (qv_call rfl rfl (FCall.qt (FCall.of_fun (placeX (fewA x) k hm k1 k2 none (f3 k (mem10 k1 k2) hlt))) ((pt3 _ _ _ _ _).trans (.cons _ ((pt3 _ _ _ _ _).trans (.cons _ ((pt3 _ _ _ _ _).trans (.cons _ (pt3 _ _ _ _ _))))))))) ?_) (fun heq => qv rfl rfl (qv_call rfl rfl (FCall.qt (FCall.of_fun (placeX (fewA x) k hm k1 k2 (some i) (heq ▸ f1))) ((pt3 _ _ _ _ _).trans (.cons _ ((pt3 _ _ _ _ _).trans (.cons _ ((pt3 _ _ _ _ _).trans (.cons _ (pt3 _ _ _ _ _))))))))) ?_) (fun hgt => qv rfl rfl (qv_call rfl rfl (FCall.qt (FCall.of_fun (placeX (fewA x) k hm k1 k2 _ rfl)) ((pt3 _ _ _ _ _).trans (.cons _ ((pt3 _ _ _ _ _).trans (.cons _ ((pt3 _ _ _ _ _).trans (.cons _ (pt3 _ _ _ _ _))))))))) ?_)
        · refine q1 ?_
          refine q1 ?_
          refine q1 ?_
          refine q1 ?_
          refine q1 ?_
          refine q1 ?_
          refine q1 ?_
          refine aops_nil (thn_n ?_)
          refine aw_seq (aw_region ?_)
          refine q1 ?_
          refine q1 ?_
          refine q1 ?_
          refine q1 ?_
          refine q1 ?_
          refine q1 ?_
          refine qs rfl rfl ?_
          refine q1 ?_
          refine q1 ?_
          refine q1 ?_
          refine q1 ?_
          refine q1 ?_
          refine q1 ?_
          refine q1 ?_
          refine q1 ?_
          first | refine qq rfl rfl (qr_cmp (c := true) rfl rfl (congrArg some (decide_eq_true (by omega)))) ?_ | refine qq rfl rfl (qr_cmp (c := false) rfl rfl (congrArg some (decide_eq_false (by omega)))) ?_
          refine q1 ?_
          refine q1 ?_
          refine q1 ?_
          refine q1 ?_
          refine q1 ?_
          refine q1 ?_
          refine q1 ?_
          refine q1 ?_
          refine q1 ?_
          refine q1 ?_
          refine q1 ?_
          first | refine qq rfl rfl (qr_cmp (c := true) rfl rfl (congrArg some (beq_iff_eq.2 (by omega)))) ?_ | refine qq rfl rfl (qr_cmp (c := false) rfl rfl (congrArg some (beq_eq_false_iff_ne.2 (by omega)))) ?_
          refine q1 ?_
          refine q1 ?_
          refine qs rfl rfl ?_
          refine qs rfl rfl ?_
          refine qs rfl rfl ?_
          first | refine qs rfl rfl ?_ | refine qq rfl rfl qrA ?_
          first | refine qs rfl rfl ?_ | refine qq rfl rfl qrA ?_
          first | refine qs rfl rfl ?_ | refine qq rfl rfl qrA ?_
          first | refine qs rfl rfl ?_ | refine qq rfl rfl (qr_cmp (c := false) rfl rfl (congrArg some (by simp [natI]))) ?_
          refine rn ?_
          refine aw_cond rfl (fun hc82 => ?_) (fun hc82 => ?_)
          · first | cases hc82 | exact absurd hc82 (by decide) | (exfalso; simp_all; done)
          · refine rn ?_
            exact ⟨k + 1, ⟨by omega, by omega⟩, eA, by omega⟩
        · refine q1 ?_
          refine q1 ?_
          refine q1 ?_
          refine q1 ?_
          refine q1 ?_
          refine q1 ?_
          refine q1 ?_
          refine aops_nil (thn_n ?_)
          refine aw_seq (aw_region ?_)
          refine q1 ?_
          refine q1 ?_
          refine q1 ?_
          refine q1 ?_
          refine q1 ?_
          refine q1 ?_
          refine qs rfl rfl ?_
          refine q1 ?_
          refine q1 ?_
          refine q1 ?_
          refine q1 ?_
          refine q1 ?_
          refine q1 ?_
          refine q1 ?_
          refine q1 ?_
          first | refine qq rfl rfl (qr_cmp (c := true) rfl rfl (congrArg some (decide_eq_true (by omega)))) ?_ | refine qq rfl rfl (qr_cmp (c := false) rfl rfl (congrArg some (decide_eq_false (by omega)))) ?_
          refine q1 ?_
          refine q1 ?_
          refine qs rfl rfl ?_
          refine q1 ?_
          refine q1 ?_
          refine q1 ?_
          refine q1 ?_
          refine q1 ?_
          refine q1 ?_
          refine q1 ?_
          refine q1 ?_
          first | refine qq rfl rfl (qr_cmp (c := true) rfl rfl (congrArg some (beq_iff_eq.2 (by omega)))) ?_ | refine qq rfl rfl (qr_cmp (c := false) rfl rfl (congrArg some (beq_eq_false_iff_ne.2 (by omega)))) ?_
          refine q1 ?_
          refine q1 ?_
          refine q1 ?_
          refine q1 ?_
          refine q1 ?_
          refine q1 ?_
          refine q1 ?_
          refine q1 ?_
          first | refine qs rfl rfl ?_ | refine qq rfl rfl (qr_cmp (c := false) rfl rfl (congrArg some (by simp [natI]))) ?_
          refine rn ?_
          refine aw_cond rfl (fun hc82 => ?_) (fun hc82 => ?_)
          · exact absurd hc82 (by decide)
          · refine rn ?_
            exact ⟨k + 1, ⟨by omega, by omega⟩, eA, by omega⟩
        · refine q1 ?_
          refine q1 ?_
          refine q1 ?_
          refine q1 ?_
          refine q1 ?_
          refine q1 ?_
          refine q1 ?_
          refine aops_nil (thn_n ?_)
          refine aw_seq (aw_region ?_)
          refine q1 ?_
          refine q1 ?_
          refine q1 ?_
          refine q1 ?_
          refine q1 ?_
          refine q1 ?_
          refine qs rfl rfl ?_
          refine q1 ?_
          refine q1 ?_
          refine q1 ?_
          refine q1 ?_
          refine q1 ?_
          refine q1 ?_
          refine q1 ?_
          refine q1 ?_
          first | refine qq rfl rfl (qr_cmp (c := true) rfl rfl (congrArg some (decide_eq_true (by omega)))) ?_ | refine qq rfl rfl (qr_cmp (c := false) rfl rfl (congrArg some (decide_eq_false (by omega)))) ?_
          refine q1 ?_
          refine q1 ?_
          refine qs rfl rfl ?_
          refine q1 ?_
          refine q1 ?_
          refine q1 ?_
          refine q1 ?_
          refine q1 ?_
          refine q1 ?_
          refine q1 ?_
          refine q1 ?_
          first | refine qq rfl rfl (qr_cmp (c := true) rfl rfl (congrArg some (beq_iff_eq.2 (by omega)))) ?_ | refine qq rfl rfl (qr_cmp (c := false) rfl rfl (congrArg some (beq_eq_false_iff_ne.2 (by omega)))) ?_
          refine q1 ?_
          refine q1 ?_
          refine qs rfl rfl ?_
          refine qs rfl rfl ?_
          refine qs rfl rfl ?_
          first | refine qs rfl rfl ?_ | refine qq rfl rfl qrA ?_
          first | refine qs rfl rfl ?_ | refine qq rfl rfl qrA ?_
          first | refine qs rfl rfl ?_ | refine qq rfl rfl qrA ?_
          first | refine qs rfl rfl ?_ | refine qq rfl rfl (qr_cmp (c := false) rfl rfl (congrArg some (by simp [natI]))) ?_
          refine rn ?_
          refine aw_cond rfl (fun hc82 => ?_) (fun hc82 => ?_)
          · first | cases hc82 | exact absurd hc82 (by decide) | (exfalso; simp_all; done)
          · refine rn ?_
            exact ⟨k + 1, ⟨by omega, by omega⟩, eA, by omega⟩
      · refine rn ?_
        refine qv rfl rfl (qv_call rfl rfl (FCall.qt (FCall.of_fun (soundV (fewA x) ((fewA_lim x).mono (by decide)) false (by rw [soundB, hf, hm]; rfl))) ((pt3 _ _ _ _ _).trans (.cons _ ((pt3 _ _ _ _ _).trans (.cons _ ((pt3 _ _ _ _ _).trans (.cons _ (pt3 _ _ _ _ _))))))))) ?_
        refine rn ?_
        refine rq 3 ?_
        exact ⟨rfl, rfl⟩
theorem rulesOrder (x : Hist) (la : Lim 4611686018427387904 x) : ACall Tryd.prog 3 [.agg (histC x)] [.glob 1 72 limitsC, .glob 2 152 firstC, .glob 3 155 acceptC, .glob 0 64 asksC] (fun r h' => h' = [.glob 1 72 limitsC, .glob 2 152 firstC, .glob 3 155 acceptC, .glob 0 64 asksC] ∧ r = bv true) := by
  by_cases hm : mayB (fewA x) = true
  · cases hf : firstH (fewA x) with
    | none => exact orderO x la hm hf
    | some p => exact orderS x la p.1 p.2 hm hf
  · exact orderN x la hm
end Go.Proofs
/- RulesOrder: the row and the tied card. Conditions: none. -/
set_option linter.unusedVariables false
set_option maxRecDepth 100000
namespace Go.Proofs.YtmbbjpoljcmhlaaDoor
open Go Go.Ab Go.H Go.ChangeShapes Go.WideShapes Go.ChangeAt Go.RowKit
theorem rulesOrder_lifted (os : Os) (started : os.Started) (K : Type) (enc : TypeId × Value → K) :
    ReturnsInHanded {} Tryd.checked os 3 .any (fun w args => (Rows.rulesOrderSpec.pre enc Tryd.prog Tryd.f3 [] false w args ∧ laidMetH Tryd.prog laid4 w) ∧ sizedMet enc Tryd.prog Tryd.f3 (OpenSpec.ofChange Rows.rulesOrderSpec) false w args)
      (Rows.rulesOrderSpec.post enc Tryd.prog Tryd.f3 false true false false) := by
  refine returnsInHanded_of_change_and (C := Tryd.checked) (X := fun w _ => laidMetH Tryd.prog laid4 w) (fun _ _ _ hh h => h.of_heap hh) own started (by kernel_rfl) Tryd.func3
    (ChangeSpec.witness_shaped (enc := enc) (C := Tryd.checked) (os := os) (X := fun w _ => laidMetH Tryd.prog laid4 w) false (wit os)
      #[.agg #[.slice none 0 0, .slice none 0 0, .slice none 0 0, .slice none 0 0, .slice none 0 0, .slice none 0 0, .slice none 0 0, .slice none 0 0]] 8 (wit_os _)
      (World.shaped_of_ZipB (by kernel_rfl) (by kernel_rfl)) (by kernel_rfl) (by kernel_rfl) (by kernel_rfl)
      (wit_met _ _)) ?_
  intro W base args ds gs before hval0 hW _ hsz hL _
  have hval : ∀ (j : Nat) t v, Tryd.f3.params[j]? = some t → args[j]? = some v → Value.okWide Tryd.prog W .any base t v := hval0
  have hlt := hW.lt
  have hW' := hW
  obtain ⟨p, q, hA0, hV, rfl, hfz, hnd⟩ := hW
  have hA : DataW.TrodAll enc Tryd.prog W 0 (fun _ => true) true Tryd.f3.params.toList args.toList ds p := hA0
  rw [Tryd.params3] at hA hval
  obtain ⟨v0, d0, rfl, rfl, h0⟩ := trodAll_one hA
  have hlt0 : ∀ x ∈ p, x.block < W.heap.size := fun x hx => hlt x (by simp [hx])
  obtain ⟨rfl, rfl⟩ := trodVars_none hV
  have hw0 : ∀ n ∈ d0.weights Tryd.prog 28, n ≤ reachBytes := fun n hn => by
    have := List.all_eq_true.1 hsz n (DataW.weights_mem_each (j := 0) (t := 28) (d := d0) (by kernel_rfl) rfl n hn)
    simpa using this
  have hv0 := hval 0 28 v0 rfl rfl
  unfold Value.okWide at hv0
  rw [Tryd.underlying28] at hv0
  obtain ⟨cs0, rfl, _, _⟩ := hv0
  obtain ⟨x0, hlim0, hrel0⟩ := hist_of h0 hw0
  refine (((rulesOrder x0 hlim0) noX W [.agg cs0] (laid_hrel4 hL) ⟨by rw [OO_G4]; exact hrel0, trivial⟩).calls (fun k => room_FW none k)).mono fun e W' hp => ?_
  obtain ⟨v, av, h', rfl, ⟨rfl, rfl⟩, hr, _, hk⟩ := hp
  obtain rfl := hr.v_eq
  simp only [List.append_nil] at hW'
  refine ⟨_, rfl, _, _, _, [], _, [], hW', trodAll_mk1 (shut_bool Tryd.underlying4 _), trodAll_mk1 (trod_keep hk h0 hlt0), rfl, keep_but hk _, fun h => by cases h⟩
theorem rulesOrder_holds : Rows.RulesOrderSaid :=
  OpenClaim.holds_of_wide 3 Tryd.f3 rfl rfl rfl rfl rfl rfl rfl ⟨rfl, rfl, rfl, rfl, rfl⟩ rfl rfl rfl rfl rfl (by kernel_rfl) Tryd.func3 (by kernel_rfl)
    (of_decide_eq_true (by kernel_rfl)) (by unfold Func.isWrapper; first | (rw [if_pos (by decide +kernel)]; kernel_rfl) | (rw [if_neg (by decide +kernel)]; exact ⟨rfl, rfl⟩))
    (fun os started H enc _ => rulesOrder_lifted os started H enc)
theorem rulesOrder_card : Rows.RulesOrderCardSaid :=
  Claim7.holds_tied_plain_at .later [] [.data, .data, .funcs, .pinned] true (true, "c325ac119b958a11479f5236776403c64f5d775ceb0eb6aa0c23dd0ab6fce671") false rulesOrder_holds (fun _ h => by cases h) (by kernel_rfl) (fun _ h => by cases h) rulesOrder_row_tie rfl ⟨rfl, rfl⟩ (by kernel_rfl) rfl
    (fun f fn hf hfn => by
      obtain rfl : f = 3 := Option.some.inj ((show Tryd.prog.funcNamed "yardarm/yardarmlaw15.RulesOrder" = some 3 by kernel_rfl).symm.trans hf) |>.symm
      obtain rfl : fn = Tryd.f3 := (Option.some.inj (Tryd.func3.symm.trans hfn)).symm
      exact ⟨by kernel_rfl, fun j t ht => by
        rw [Tryd.params3] at ht
        have hm : t ∈ [28] := by simpa using Array.mem_of_getElem? ht
        have hall : ([28].all fun u => !Tryd.prog.wantsStandIn u) = true := by kernel_rfl
        exact (show Tryd.prog.wantsStandIn t = false by simpa using List.all_eq_true.1 hall t hm)⟩)
    (by kernel_rfl)
#print axioms rulesOrder_card
end Go.Proofs.YtmbbjpoljcmhlaaDoor
