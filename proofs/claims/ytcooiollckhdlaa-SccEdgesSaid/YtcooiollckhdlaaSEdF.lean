/- The walks of scc's components. Conditions: none. -/
import Derived.Test.YtcooiollckhdlaaSEdE
set_option linter.unusedSectionVars false
set_option linter.unusedSimpArgs false
set_option linter.unusedVariables false
set_option linter.unusedVariables false
set_option linter.unusedSimpArgs false
set_option maxRecDepth 10000
namespace Go.Proofs
open Go Go.Ab
attribute [local irreducible] QR QV OE aops aw dsoup dsoupM dalloc dallocM thn inBlk jsoup jch lsoup
open Go.H
theorem fcall_yrow {P : Program} {fv : AV} {args : List AV} {A I : List Res} {r : Res} {R : AV → List Res → Prop} (hc : FCall P fv args (r :: I) R) : FCall P fv args (r :: (A ++ I)) (fun x h' => ∃ h'', h' = A ++ h'' ∧ R x h'') := (hc.frL A).perm List.perm_middle.symm
def OutsOk (g : Gr) (L : List (List Nat)) : Prop := (∀ x, x ∈ L.flatten ↔ x < nG g) ∧ (∀ C ∈ L, IsScc (adjG g) C) ∧ L.flatten.Nodup
theorem len_flat : ∀ {L : List (List Nat)}, (∀ C ∈ L, C ≠ []) → L.length ≤ L.flatten.length
  | [], _ => Nat.le_refl _
  | C :: L, h => by
    have h1 := len_flat (L := L) fun C hC => h C (List.mem_cons_of_mem _ hC)
    have h2 := List.length_pos_iff.2 (h C (by simp))
    rw [List.length_cons, List.flatten_cons, List.length_append]; omega
theorem outs_len {n : Nat} {adj : Nat → List Nat} {w : TJ} (h : TInv n adj w) : w.outs.length ≤ n := by
  have h1 : w.outs.length ≤ w.outs.flatten.length := len_flat fun C hC => (h.outs C hC).1
  have h2 := h.outn.length_le_of_subset (l₂ := List.range n) fun x hx => List.mem_range.2 ((h.outm x).1 hx).1
  rw [List.length_range] at h2; omega
theorem seen_0 {g : Gr} : seenA (nG g) (fun _ => 0) = List.replicate (nG g) [iv 0] := (rwI_zero _).symm
theorem open_0 {g : Gr} : openA (nG g) [] = List.replicate (nG g) [bv false] := by rw [rwB_zero]; unfold openA; congr 1
theorem neq_y {s : SV} (h : ∃ a, s.a = some a) : AV.v (.bool (!s.a.isNone)) = bv true := by
  obtain ⟨a, h⟩ := h
  rw [h]; rfl
theorem scComp (g : Gr) (W : List Res) : ACall Try.prog 32 [.agg (grR g), intsA (staL g)] W (fun r h' => ∃ bs bg, h' = .box bs 27 [intsA (staL g)] :: .box bg 24 (grR g) :: W ∧ r = .fn (.func 53) [] [.v (.pointer (some ⟨bg, 0, none⟩)), .v (.pointer (some ⟨bs, 0, none⟩))]) := by
  refine acall_of_aw Try.func32 rfl rfl rfl ?_
  refine rn ?_
  refine aops_e rfl (oe_box rfl rfl rfl fun b2 => ?_)
  refine aops_e rfl (oe_box rfl rfl rfl fun b3 => ?_)
  refine rn ?_
  exact retq (.cons _ _ _ _ (.tmp _ _ rfl) .nil) (.refl _ _) ⟨_, _, rfl, rfl⟩
theorem oSpl {p : Prop} (o : Option (SV × List Nat)) (h1 : o = none → p) (h2 : ∀ s C, o = some (s, C) → p) : p := by
  cases o with
  | none => exact h1 rfl
  | some x => exact h2 x.1 x.2 rfl
set_option maxHeartbeats 4000000 in
theorem scComp1 {σ : Type} (g : Gr) (hok : GOk g) (y : AV) (bg bs : Nat) (I : List (List Nat) → σ → List Res) (x0 : σ) (hy : ∀ pre C (sv : SV) s, C ≠ [] → C.length ≤ nG g → pre.length ≤ nG g → FCall Try.prog y [.v sv.v] (.row sv.v 1 3 (C.map natR) :: I pre s) (fun r h' => ∃ s', r = bv true ∧ h' = I (pre ++ [C]) s')) : ACall Try.prog 53 [y, .v (.pointer (some ⟨bg, 0, none⟩)), .v (.pointer (some ⟨bs, 0, none⟩))] (.box bs 27 [intsA (staL g)] :: .box bg 24 (grR g) :: I [] x0) (fun r h' => ∃ L x, OutsOk g L ∧ h' = .box bs 27 [intsA (staL g)] :: .box bg 24 (grR g) :: I L x) := by
  refine acall_of_aw Try.func53 rfl rfl rfl ?_
  have hn0 := hok.n0
  have hn1 := hok.n1
  have hng : nG g ≤ 300 := by unfold nG; omega
  have hnn : ((nG g : Nat) : Int) = g.n := by unfold nG; omega
  refine aw_scope ?_
  refine rn ?_
  refine aw_drawM 11 rfl ?_
  refine mq rfl rfl qrA ?_
  refine mq rfl rfl qrA ?_
  refine mq rfl rfl qrA ?_
  refine mq rfl rfl (qr_as (qr_load_one rfl rfl) (show iv _ = iv ((nG g : Nat) : Int) from congrArg iv hnn.symm)) ?_
  refine mmake (n := nG g) rfl rfl rfl (by omega) ?_
  refine mq rfl rfl qrA ?_
  refine mq rfl rfl (qr_as (qr_load_one rfl rfl) (show iv _ = iv ((nG g : Nat) : Int) from congrArg iv hnn.symm)) ?_
  refine mmake (n := nG g) rfl rfl rfl (by omega) ?_
  refine mq rfl rfl qrA ?_
  refine mq rfl rfl (qr_as (qr_load_one rfl rfl) (show iv _ = iv ((nG g : Nat) : Int) from congrArg iv hnn.symm)) ?_
  refine mmake (n := nG g) rfl rfl rfl (by omega) ?_
  refine mnil ⟨.refl _, ?_⟩
  refine rn ?_
  refine mal_row fun s11 => ?_
  refine rn ?_
  refine mal_row fun s14 => ?_
  refine rn ?_
  refine mal_row fun s17 => ?_
  refine rn ?_
  refine aops_e rfl (oe_box rfl rfl rfl fun bw => ?_)
  refine q1 ?_
  refine aops_nil (thn_n ?_)
  refine aw_seq ?_
  refine aw_label ?_
  refine thn_n ?_
  refine aw_seq (aw_region ?_)
  refine q1 ?_
  refine qq rfl rfl (qr_as (qr_load_one rfl rfl) (show iv _ = iv ((nG g : Nat) : Int) from congrArg iv hnn.symm)) ?_
  refine rn ?_
  rw [← seen_0, ← open_0]
  refine aw_rngX (nG g) (fun k (x : TJ × SV × SV × σ) => TOk (nG g) (adjG g) x.1 ∧ x.1.cls = [] ∧ ∀ v, v < k → 0 < x.1.seen v) (fun k x => ⟨[(22, iv k), (0, y), (4, .v (.pointer (some ⟨bw, 0, none⟩))), (21, iv (nG g : Nat))], .box bw 90 [iv g.n, edsA g.es, intsA (staL g), .v s11.v, .v s14.v, .v s17.v, .v x.2.1.v, .v x.2.2.1.v, iv (x.1.many : Nat)] :: .row s11.v 1 3 (seenA (nG g) x.1.seen) :: .row s14.v 1 3 (seenA (nG g) x.1.low) :: .row s17.v 1 4 (openA (nG g) x.1.stk) :: .row x.2.1.v 1 3 (stkA x.1.stk) :: .row x.2.2.1.v 2 107 (clsA x.1.cls) :: .box bs 27 [intsA (staL g)] :: .box bg 24 (grR g) :: I x.1.outs x.2.2.2, []⟩) (.start, nilV, nilV, x0) ⟨TOk.start (adj_in hok), rfl, fun v q => absurd q (Nat.not_lt_zero _)⟩ (ent_trans (ent_nilrow 2 107) (ent_trans (ent_nilrow 1 3) (ent_trans (ent_perm ((pt2 _ _ _ _).trans (.cons _ ((pt4 _ _ _ _ _ _).trans (.cons _ ((pt3 _ _ _ _ _).trans (.cons _ (pt2 _ _ _ _)))))))) es))) ?_
  rintro k ⟨w, st, ca, s⟩ lk ⟨hw, hc0, hsn⟩
  simp only at hw hc0 hsn
  show aw _ _ _ _ _ ⟨[(22, iv k), (0, y), (4, .v (.pointer (some ⟨bw, 0, none⟩))), (21, iv (nG g : Nat))], .box bw 90 [iv g.n, edsA g.es, intsA (staL g), .v s11.v, .v s14.v, .v s17.v, .v st.v, .v ca.v, iv (w.many : Nat)] :: .row s11.v 1 3 (seenA (nG g) w.seen) :: .row s14.v 1 3 (seenA (nG g) w.low) :: .row s17.v 1 4 (openA (nG g) w.stk) :: .row st.v 1 3 (stkA w.stk) :: .row ca.v 2 107 (clsA w.cls) :: .box bs 27 [intsA (staL g)] :: .box bg 24 (grR g) :: I w.outs s, []⟩
  refine rn ?_
  refine aw_cond rfl (fun hc23 => ?_) (fun hc23 => ?_)
  · have hk : k < nG g := by have q := of_decide_eq_true hc23; omega
    refine aw_skip ?_
    refine thn_n ?_
    refine aw_seq ?_
    refine aw_block ?_
    refine aw_seq (aw_region ?_)
    refine q1 ?_
    refine q1 ?_
    refine aops_nil (thn_n ?_)
    refine aw_seq ?_
    refine aw_seq (aw_region ?_)
    refine q1 ?_
    refine q1 ?_
    refine q1 ?_
    refine q1 ?_
    refine q1 ?_
    refine qq rfl rfl (qr_index_row (k := k) rfl rfl (by rw [seenA_len]; exact hk)) ?_
    refine qq rfl rfl (qr_load_rp_one rfl (seenA_at _ hk) rfl) ?_
    refine rn ?_
    refine aw_cond rfl (fun hc32 => ?_) (fun hc32 => ?_)
    · have h0 : 0 < w.seen k := by have q := of_decide_eq_true hc32; omega
      have hsn : ∀ v, v < k + 1 → 0 < w.seen v := fun v hv => (Nat.lt_succ_iff_lt_or_eq.1 hv).elim (hsn v) (fun e => e ▸ h0)
      refine rn ?_
      first | exact ⟨hk, (w, st, ca, s), ⟨hw, hc0, hsn⟩, eA⟩
    · have h0 : w.seen k = 0 := by have q := of_decide_eq_false hc32; omega
      have hmn : w.many ≤ 1000 := by have := hw.manyle; omega
      have hsk : w.stk.length ≤ 1000 := by have := stk_len hw.inv; omega
      refine rn ?_
      refine aops_e rfl (oe_call rfl rfl (FCall.fr (h2 := .box bs 27 [intsA (staL g)] :: .box bg 24 (grR g) :: I w.outs s) (FCall.of_fun (scEnter g w s11 s14 s17 st ca bw (clsA w.cls) k hk hmn hsk (by rw [clsA_len, hc0]; exact Nat.zero_le _))) (.refl _)) rfl ?_)
      rintro _ _ ⟨_, rfl, st', ca', rfl, rfl⟩
      simp only [List.cons_append, List.nil_append]
      rw [show clsA w.cls ++ [frR (k, 0)] = clsA (w.enter k).cls by show clsA w.cls ++ [frR (k, 0)] = clsA ((k, 0) :: w.cls); rw [hc0]; rfl]
      have hsn1 : ∀ v, v < k + 1 → 0 < (w.enter k).seen v := fun v hv => by show 0 < upd w.seen k (w.many + 1) v; exact (Nat.lt_succ_iff_lt_or_eq.1 hv).elim (fun q => seen_more (hsn v q)) (fun e => by rw [e, upd_same]; exact Nat.succ_pos _)
      have hw1 := hw.root hk h0 hc0
      refine rn ?_
      refine aw_while (fun (x : TJ × SV × SV × σ) => TOk (nG g) (adjG g) x.1 ∧ ∀ v, v < k + 1 → 0 < x.1.seen v) (fun x => ⟨[(0, y), (4, .v (.pointer (some ⟨bw, 0, none⟩))), (21, iv (nG g : Nat)), (22, iv k)], .box bw 90 [iv g.n, edsA g.es, intsA (staL g), .v s11.v, .v s14.v, .v s17.v, .v x.2.1.v, .v x.2.2.1.v, iv (x.1.many : Nat)] :: .row s11.v 1 3 (seenA (nG g) x.1.seen) :: .row s14.v 1 3 (seenA (nG g) x.1.low) :: .row s17.v 1 4 (openA (nG g) x.1.stk) :: .row x.2.1.v 1 3 (stkA x.1.stk) :: .row x.2.2.1.v 2 107 (clsA x.1.cls) :: .box bs 27 [intsA (staL g)] :: .box bg 24 (grR g) :: I x.1.outs x.2.2.2, []⟩) (fun x => muT (nG g) (adjG g) x.1) (w.enter k, st', ca', s) ⟨hw1, hsn1⟩ es ?_
      rintro ⟨w, st, ca, s⟩ ⟨hw, hsn⟩
      simp only at hw hsn
      show aw _ _ _ _ _ ⟨[(0, y), (4, .v (.pointer (some ⟨bw, 0, none⟩))), (21, iv (nG g : Nat)), (22, iv k)], .box bw 90 [iv g.n, edsA g.es, intsA (staL g), .v s11.v, .v s14.v, .v s17.v, .v st.v, .v ca.v, iv (w.many : Nat)] :: .row s11.v 1 3 (seenA (nG g) w.seen) :: .row s14.v 1 3 (seenA (nG g) w.low) :: .row s17.v 1 4 (openA (nG g) w.stk) :: .row st.v 1 3 (stkA w.stk) :: .row ca.v 2 107 (clsA w.cls) :: .box bs 27 [intsA (staL g)] :: .box bg 24 (grR g) :: I w.outs s, []⟩
      refine rn ?_
      refine aw_cond rfl (fun hc41 => ?_) (fun hc41 => ?_)
      · obtain ⟨⟨u, d⟩, rr, hc⟩ : ∃ c r, w.cls = c :: r := by cases e : w.cls with | nil => (rw [e] at hc41; exact absurd hc41 (by decide)) | cons c r => exact ⟨c, r, rfl⟩
        rw [hc]
        refine rn ?_
        refine aops_e rfl (oe_call rfl rfl (FCall.fr (h2 := .box bs 27 [intsA (staL g)] :: .box bg 24 (grR g) :: I w.outs s) (FCall.of_fun (scStep g hok w hw s11 s14 s17 st ca bw u d rr hc)) (.refl _)) rfl ?_)
        rintro _ _ ⟨_, rfl, b, w', st', ca', rfl, rfl, hw', ho', hsn', hmt, hmf⟩
        simp only [List.cons_append, List.nil_append]
        refine rn ?_
        refine aw_cond rfl (fun hc43 => ?_) (fun hc43 => ?_)
        · have hmu := hmt hc43
          have hsn2 : ∀ v, v < k + 1 → 0 < w'.seen v := fun v hv => hsn' v (hsn v hv)
          rw [← ho']
          refine rn ?_
          first | exact ⟨(w2, st2, ca2, s'), ⟨hw2, hsn3⟩, eA, hmu⟩ | exact ⟨(w2, st2, ca2, s), ⟨hw2, hsn3⟩, eA, hmu⟩ | exact ⟨(w', st', ca', s), ⟨hw', hsn2⟩, eA, hmu⟩
        · obtain ⟨hwe, hd⟩ := hmf hc43
          rw [hwe, hc]
          refine rn ?_
          refine aops_e rfl (oe_call rfl rfl (FCall.fr (h2 := .box bs 27 [intsA (staL g)] :: .box bg 24 (grR g) :: I w.outs s) (FCall.of_fun (scLeave g hok w hw s11 s14 s17 st' ca' bw u d rr hc hd)) (.refl _)) rfl ?_)
          rintro _ _ ⟨_, rfl, w2, st2, ca2, o, rfl, rfl, hw2, hmu, hsn2, ho2, hO⟩
          refine rn0 ?_
          refine aw_seq ?_
          refine oSpl o (fun q => ?_) (fun s6 C q => ?_)
          · have hsn3 : ∀ v, v < k + 1 → 0 < w2.seen v := fun v hv => by rw [hsn2]; exact hsn v hv
            rw [q] at ho2 hO ⊢
            simp only [oV, oH, oC, List.cons_append, List.nil_append, List.append_nil] at ho2 ⊢
            first | rw [← ho2] | skip
            refine aw_region ?_
            refine q1 ?_
            first | refine qq rfl rfl (qr_as (qr_neqnil rfl rfl) (neq_y hO.2.2)) ?_ | refine qq rfl rfl (qr_neqnil (a := none) rfl rfl) ?_
            refine rn ?_
            refine aw_cond rfl (fun hc53 => ?_) (fun hc53 => ?_)
            · first | cases hc53 | exact absurd hc53 (by decide) | (exfalso; simp_all; done)
            · refine rn ?_
              first | exact ⟨(w2, st2, ca2, s'), ⟨hw2, hsn3⟩, eA, hmu⟩ | exact ⟨(w2, st2, ca2, s), ⟨hw2, hsn3⟩, eA, hmu⟩ | exact ⟨(w', st', ca', s), ⟨hw', hsn2⟩, eA, hmu⟩
          · have hsn3 : ∀ v, v < k + 1 → 0 < w2.seen v := fun v hv => by rw [hsn2]; exact hsn v hv
            rw [q] at ho2 hO ⊢
            simp only [oV, oH, oC, List.cons_append, List.nil_append, List.append_nil] at ho2 ⊢
            first | rw [← ho2] | skip
            refine aw_region ?_
            refine q1 ?_
            first | refine qq rfl rfl (qr_as (qr_neqnil rfl rfl) (neq_y hO.2.2)) ?_ | refine qq rfl rfl (qr_neqnil (a := none) rfl rfl) ?_
            refine rn ?_
            refine aops_e rfl (oe_call rfl rfl (fcall_yrow (A := [_, _, _, _, _, _, _, _]) (hy w.outs C s6 s hO.1 hO.2.1 (outs_len hw.inv))) rfl ?_)
            rintro _ _ ⟨_, rfl, s', rfl, rfl⟩
            simp only [List.cons_append, List.nil_append]
            rw [← ho2]
            refine rn ?_
            refine aw_cond rfl (fun hc53 => ?_) (fun hc53 => ?_)
            · exact absurd hc53 (by decide)
            · refine rn ?_
              first | exact ⟨(w2, st2, ca2, s'), ⟨hw2, hsn3⟩, eA, hmu⟩ | exact ⟨(w2, st2, ca2, s), ⟨hw2, hsn3⟩, eA, hmu⟩ | exact ⟨(w', st', ca', s), ⟨hw', hsn2⟩, eA, hmu⟩
      · have hc0 : w.cls = [] := by cases e : w.cls with | nil => rfl | cons c r => (exfalso; have q := of_decide_eq_false hc41; rw [clsA_len, e, List.length_cons] at q; omega)
        refine rn ?_
        first | exact ⟨hk, (w, st, ca, s), ⟨hw, hc0, hsn⟩, eA⟩
  · have qk : k = nG g := by have q := of_decide_eq_false hc23; omega
    refine rn ?_
    refine ⟨fun l h => (by cases h), ?_⟩
    exact retq_n .nil (.drop [_, _, _, _, _, _] _ _) ⟨w.outs, s, hw.inv.all hc0 (fun v hv => hsn v (qk ▸ hv)), rfl⟩
end Go.Proofs
