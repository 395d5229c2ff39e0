/- The walks of scc's components. Conditions: none. -/
import Derived.Test.YtcooiollckhdlaaGreatDoorPWyE
import Derived.Lib.TrailingZeros
import Derived.Laws.Bits64b
import Derived.Laws.Append
set_option linter.unusedSectionVars false
set_option linter.unusedSimpArgs false
set_option linter.unusedVariables false
set_option linter.unusedVariables false
set_option linter.unusedSimpArgs false
set_option maxRecDepth 10000
namespace Go.Proofs
open Go Go.Ab
attribute [local irreducible] QR QV OE aops aw dsoup dsoupM dalloc dallocM thn inBlk jsoup jch lsoup
open Go.H
theorem fcall_yrow {P : Program} {fv : AV} {args : List AV} {A I : List Res} {r : Res} {R : AV → List Res → Prop} (hc : FCall P fv args (r :: I) R) : FCall P fv args (r :: (A ++ I)) (fun x h' => ∃ h'', h' = A ++ h'' ∧ R x h'') := (hc.frL A).perm List.perm_middle.symm
def OutsOk (g : Gr) (L : List (List Nat)) : Prop := (∀ x, x ∈ L.flatten ↔ x < nG g) ∧ (∀ C ∈ L, IsScc (adjG g) C) ∧ L.flatten.Nodup
theorem len_flat : ∀ {L : List (List Nat)}, (∀ C ∈ L, C ≠ []) → L.length ≤ L.flatten.length
  | [], _ => Nat.le_refl _
  | C :: L, h => by
    have h1 := len_flat (L := L) fun C hC => h C (List.mem_cons_of_mem _ hC)
    have h2 := List.length_pos_iff.2 (h C (by simp))
    rw [List.length_cons, List.flatten_cons, List.length_append]; omega
theorem outs_len {n : Nat} {adj : Nat → List Nat} {w : TJ} (h : TInv n adj w) : w.outs.length ≤ n := by
  have h1 : w.outs.length ≤ w.outs.flatten.length := len_flat fun C hC => (h.outs C hC).1
  have h2 := h.outn.length_le_of_subset (l₂ := List.range n) fun x hx => List.mem_range.2 ((h.outm x).1 hx).1
  rw [List.length_range] at h2; omega
theorem seen_0 {g : Gr} : seenA (nG g) (fun _ => 0) = List.replicate (nG g) [iv 0] := (rwI_zero _).symm
theorem open_0 {g : Gr} : openA (nG g) [] = List.replicate (nG g) [bv false] := by rw [rwB_zero]; unfold openA; congr 1
theorem neq_y {s : SV} (h : ∃ a, s.a = some a) : AV.v (.bool (!s.a.isNone)) = bv true := by
  obtain ⟨a, h⟩ := h
  rw [h]; rfl
theorem scComp (g : Gr) (W : List Res) : ACall Tryz.prog 82 [.agg (grR g), intsA (staL g)] W (fun r h' => ∃ bs bg, h' = .box bs 30 [intsA (staL g)] :: .box bg 24 (grR g) :: W ∧ r = .fn (.func 102) [] [.v (.pointer (some ⟨bg, 0, none⟩)), .v (.pointer (some ⟨bs, 0, none⟩))]) := by
  refine acall_of_aw Tryz.func82 rfl rfl rfl ?_
  refine rn ?_
  refine aops_e rfl (oe_box rfl rfl rfl fun b2 => ?_)
  refine aops_e rfl (oe_box rfl rfl rfl fun b3 => ?_)
  refine rn ?_
  exact retq (.cons _ _ _ _ (.tmp _ _ rfl) .nil) (.refl _ _) ⟨_, _, rfl, rfl⟩
theorem oSpl {p : Prop} (o : Option (SV × List Nat)) (h1 : o = none → p) (h2 : ∀ s C, o = some (s, C) → p) : p := by
  cases o with
  | none => exact h1 rfl
  | some x => exact h2 x.1 x.2 rfl
set_option maxHeartbeats 4000000 in
theorem scComp1 {σ : Type} (g : Gr) (hok : GOk g) (y : AV) (bg bs : Nat) (I : List (List Nat) → σ → List Res) (x0 : σ) (hy : ∀ pre C (sv : SV) s, C ≠ [] → C.length ≤ nG g → pre.length ≤ nG g → FCall Tryz.prog y [.v sv.v] (.row sv.v 1 3 (C.map natR) :: I pre s) (fun r h' => ∃ s', r = bv true ∧ h' = I (pre ++ [C]) s')) : ACall Tryz.prog 102 [y, .v (.pointer (some ⟨bg, 0, none⟩)), .v (.pointer (some ⟨bs, 0, none⟩))] (.box bs 30 [intsA (staL g)] :: .box bg 24 (grR g) :: I [] x0) (fun r h' => ∃ L x, OutsOk g L ∧ h' = .box bs 30 [intsA (staL g)] :: .box bg 24 (grR g) :: I L x) := by
  refine acall_of_aw Tryz.func102 rfl rfl rfl ?_
  have hn0 := hok.n0
  have hn1 := hok.n1
  have hng : nG g ≤ 300 := by unfold nG; omega
  have hnn : ((nG g : Nat) : Int) = g.n := by unfold nG; omega
  refine aw_scope ?_
  refine rn ?_
  refine aw_drawM 11 rfl ?_
  refine mq rfl rfl qrA ?_
  refine mq rfl rfl qrA ?_
  refine mq rfl rfl qrA ?_
  refine mq rfl rfl (qr_as (qr_load_one rfl rfl) (show iv _ = iv ((nG g : Nat) : Int) from congrArg iv hnn.symm)) ?_
  refine mmake (n := nG g) rfl rfl rfl (by omega) ?_
  refine mq rfl rfl qrA ?_
  refine mq rfl rfl (qr_as (qr_load_one rfl rfl) (show iv _ = iv ((nG g : Nat) : Int) from congrArg iv hnn.symm)) ?_
  refine mmake (n := nG g) rfl rfl rfl (by omega) ?_
  refine mq rfl rfl qrA ?_
  refine mq rfl rfl (qr_as (qr_load_one rfl rfl) (show iv _ = iv ((nG g : Nat) : Int) from congrArg iv hnn.symm)) ?_
  refine mmake (n := nG g) rfl rfl rfl (by omega) ?_
  refine mnil ⟨.refl _, ?_⟩
  refine rn ?_
  refine mal_row fun s11 => ?_
  refine rn ?_
  refine mal_row fun s14 => ?_
  refine rn ?_
  refine mal_row fun s17 => ?_
  refine rn ?_
  refine aops_e rfl (oe_box rfl rfl rfl fun bw => ?_)
  refine q1 ?_
  refine aops_nil (thn_n ?_)
  refine aw_seq ?_
  refine aw_label ?_
  refine thn_n ?_
  refine aw_seq (aw_region ?_)
  refine q1 ?_
  refine qq rfl rfl (qr_as (qr_load_one rfl rfl) (show iv _ = iv ((nG g : Nat) : Int) from congrArg iv hnn.symm)) ?_
  refine rn ?_
  rw [← seen_0, ← open_0]
  refine aw_rngX (nG g) (fun k (x : TJ × SV × SV × σ) => TOk (nG g) (adjG g) x.1 ∧ x.1.cls = [] ∧ ∀ v, v < k → 0 < x.1.seen v) (fun k x => ⟨[(22, iv k), (0, y), (4, .v (.pointer (some ⟨bw, 0, none⟩))), (21, iv (nG g : Nat))], .box bw 140 [iv g.n, edsA g.es, intsA (staL g), .v s11.v, .v s14.v, .v s17.v, .v x.2.1.v, .v x.2.2.1.v, iv (x.1.many : Nat)] :: .row s11.v 1 3 (seenA (nG g) x.1.seen) :: .row s14.v 1 3 (seenA (nG g) x.1.low) :: .row s17.v 1 4 (openA (nG g) x.1.stk) :: .row x.2.1.v 1 3 (stkA x.1.stk) :: .row x.2.2.1.v 2 149 (clsA x.1.cls) :: .box bs 30 [intsA (staL g)] :: .box bg 24 (grR g) :: I x.1.outs x.2.2.2, []⟩) (.start, nilV, nilV, x0) ⟨TOk.start (adj_in hok), rfl, fun v q => absurd q (Nat.not_lt_zero _)⟩ (ent_trans (ent_nilrow 2 149) (ent_trans (ent_nilrow 1 3) (ent_trans (ent_perm ((pt2 _ _ _ _).trans (.cons _ ((pt4 _ _ _ _ _ _).trans (.cons _ ((pt3 _ _ _ _ _).trans (.cons _ (pt2 _ _ _ _)))))))) es))) ?_
  rintro k ⟨w, st, ca, s⟩ lk ⟨hw, hc0, hsn⟩
  simp only at hw hc0 hsn
  show aw _ _ _ _ _ ⟨[(22, iv k), (0, y), (4, .v (.pointer (some ⟨bw, 0, none⟩))), (21, iv (nG g : Nat))], .box bw 140 [iv g.n, edsA g.es, intsA (staL g), .v s11.v, .v s14.v, .v s17.v, .v st.v, .v ca.v, iv (w.many : Nat)] :: .row s11.v 1 3 (seenA (nG g) w.seen) :: .row s14.v 1 3 (seenA (nG g) w.low) :: .row s17.v 1 4 (openA (nG g) w.stk) :: .row st.v 1 3 (stkA w.stk) :: .row ca.v 2 149 (clsA w.cls) :: .box bs 30 [intsA (staL g)] :: .box bg 24 (grR g) :: I w.outs s, []⟩
  refine rn ?_
  refine aw_cond rfl (fun hc23 => ?_) (fun hc23 => ?_)
  · have hk : k < nG g := by have q := of_decide_eq_true hc23; omega
    refine aw_skip ?_
    refine thn_n ?_
    refine aw_seq ?_
    refine aw_block ?_
    refine aw_seq (aw_region ?_)
    refine q1 ?_
    refine q1 ?_
    refine aops_nil (thn_n ?_)
    refine aw_seq ?_
    refine aw_seq (aw_region ?_)
    refine q1 ?_
    refine q1 ?_
    refine q1 ?_
    refine q1 ?_
    refine q1 ?_
    refine qq rfl rfl (qr_index_row (k := k) rfl rfl (by rw [seenA_len]; exact hk)) ?_
    refine qq rfl rfl (qr_load_rp_one rfl (seenA_at _ hk) rfl) ?_
    refine rn ?_
    refine aw_cond rfl (fun hc32 => ?_) (fun hc32 => ?_)
    · have h0 : 0 < w.seen k := by have q := of_decide_eq_true hc32; omega
      have hsn : ∀ v, v < k + 1 → 0 < w.seen v := fun v hv => (Nat.lt_succ_iff_lt_or_eq.1 hv).elim (hsn v) (fun e => e ▸ h0)
      refine rn ?_
      first | exact ⟨hk, (w, st, ca, s), ⟨hw, hc0, hsn⟩, eA⟩
    · have h0 : w.seen k = 0 := by have q := of_decide_eq_false hc32; omega
      have hmn : w.many ≤ 1000 := by have := hw.manyle; omega
      have hsk : w.stk.length ≤ 1000 := by have := stk_len hw.inv; omega
      refine rn ?_
      refine aops_e rfl (oe_call rfl rfl (FCall.fr (h2 := .box bs 30 [intsA (staL g)] :: .box bg 24 (grR g) :: I w.outs s) (FCall.of_fun (scEnter g w s11 s14 s17 st ca bw (clsA w.cls) k hk hmn hsk (by rw [clsA_len, hc0]; exact Nat.zero_le _))) (.refl _)) rfl ?_)
      rintro _ _ ⟨_, rfl, st', ca', rfl, rfl⟩
      simp only [List.cons_append, List.nil_append]
      rw [show clsA w.cls ++ [frR (k, 0)] = clsA (w.enter k).cls by show clsA w.cls ++ [frR (k, 0)] = clsA ((k, 0) :: w.cls); rw [hc0]; rfl]
      have hsn1 : ∀ v, v < k + 1 → 0 < (w.enter k).seen v := fun v hv => by show 0 < upd w.seen k (w.many + 1) v; exact (Nat.lt_succ_iff_lt_or_eq.1 hv).elim (fun q => seen_more (hsn v q)) (fun e => by rw [e, upd_same]; exact Nat.succ_pos _)
      have hw1 := hw.root hk h0 hc0
      refine rn ?_
      refine aw_while (fun (x : TJ × SV × SV × σ) => TOk (nG g) (adjG g) x.1 ∧ ∀ v, v < k + 1 → 0 < x.1.seen v) (fun x => ⟨[(0, y), (4, .v (.pointer (some ⟨bw, 0, none⟩))), (21, iv (nG g : Nat)), (22, iv k)], .box bw 140 [iv g.n, edsA g.es, intsA (staL g), .v s11.v, .v s14.v, .v s17.v, .v x.2.1.v, .v x.2.2.1.v, iv (x.1.many : Nat)] :: .row s11.v 1 3 (seenA (nG g) x.1.seen) :: .row s14.v 1 3 (seenA (nG g) x.1.low) :: .row s17.v 1 4 (openA (nG g) x.1.stk) :: .row x.2.1.v 1 3 (stkA x.1.stk) :: .row x.2.2.1.v 2 149 (clsA x.1.cls) :: .box bs 30 [intsA (staL g)] :: .box bg 24 (grR g) :: I x.1.outs x.2.2.2, []⟩) (fun x => muT (nG g) (adjG g) x.1) (w.enter k, st', ca', s) ⟨hw1, hsn1⟩ es ?_
      rintro ⟨w, st, ca, s⟩ ⟨hw, hsn⟩
      simp only at hw hsn
      show aw _ _ _ _ _ ⟨[(0, y), (4, .v (.pointer (some ⟨bw, 0, none⟩))), (21, iv (nG g : Nat)), (22, iv k)], .box bw 140 [iv g.n, edsA g.es, intsA (staL g), .v s11.v, .v s14.v, .v s17.v, .v st.v, .v ca.v, iv (w.many : Nat)] :: .row s11.v 1 3 (seenA (nG g) w.seen) :: .row s14.v 1 3 (seenA (nG g) w.low) :: .row s17.v 1 4 (openA (nG g) w.stk) :: .row st.v 1 3 (stkA w.stk) :: .row ca.v 2 149 (clsA w.cls) :: .box bs 30 [intsA (staL g)] :: .box bg 24 (grR g) :: I w.outs s, []⟩
      refine rn ?_
      refine aw_cond rfl (fun hc41 => ?_) (fun hc41 => ?_)
      · obtain ⟨⟨u, d⟩, rr, hc⟩ : ∃ c r, w.cls = c :: r := by cases e : w.cls with | nil => (rw [e] at hc41; exact absurd hc41 (by decide)) | cons c r => exact ⟨c, r, rfl⟩
        rw [hc]
        refine rn ?_
        refine aops_e rfl (oe_call rfl rfl (FCall.fr (h2 := .box bs 30 [intsA (staL g)] :: .box bg 24 (grR g) :: I w.outs s) (FCall.of_fun (scStep g hok w hw s11 s14 s17 st ca bw u d rr hc)) (.refl _)) rfl ?_)
        rintro _ _ ⟨_, rfl, b, w', st', ca', rfl, rfl, hw', ho', hsn', hmt, hmf⟩
        simp only [List.cons_append, List.nil_append]
        refine rn ?_
        refine aw_cond rfl (fun hc43 => ?_) (fun hc43 => ?_)
        · have hmu := hmt hc43
          have hsn2 : ∀ v, v < k + 1 → 0 < w'.seen v := fun v hv => hsn' v (hsn v hv)
          rw [← ho']
          refine rn ?_
          first | exact ⟨(w2, st2, ca2, s'), ⟨hw2, hsn3⟩, eA, hmu⟩ | exact ⟨(w2, st2, ca2, s), ⟨hw2, hsn3⟩, eA, hmu⟩ | exact ⟨(w', st', ca', s), ⟨hw', hsn2⟩, eA, hmu⟩
        · obtain ⟨hwe, hd⟩ := hmf hc43
          rw [hwe, hc]
          refine rn ?_
          refine aops_e rfl (oe_call rfl rfl (FCall.fr (h2 := .box bs 30 [intsA (staL g)] :: .box bg 24 (grR g) :: I w.outs s) (FCall.of_fun (scLeave g hok w hw s11 s14 s17 st' ca' bw u d rr hc hd)) (.refl _)) rfl ?_)
          rintro _ _ ⟨_, rfl, w2, st2, ca2, o, rfl, rfl, hw2, hmu, hsn2, ho2, hO⟩
          refine rn0 ?_
          refine aw_seq ?_
          refine oSpl o (fun q => ?_) (fun s6 C q => ?_)
          · have hsn3 : ∀ v, v < k + 1 → 0 < w2.seen v := fun v hv => by rw [hsn2]; exact hsn v hv
            rw [q] at ho2 hO ⊢
            simp only [oV, oH, oC, List.cons_append, List.nil_append, List.append_nil] at ho2 ⊢
            first | rw [← ho2] | skip
            refine aw_region ?_
            refine q1 ?_
            first | refine qq rfl rfl (qr_as (qr_neqnil rfl rfl) (neq_y hO.2.2)) ?_ | refine qq rfl rfl (qr_neqnil (a := none) rfl rfl) ?_
            refine rn ?_
            refine aw_cond rfl (fun hc53 => ?_) (fun hc53 => ?_)
            · first | cases hc53 | exact absurd hc53 (by decide) | (exfalso; simp_all; done)
            · refine rn ?_
              first | exact ⟨(w2, st2, ca2, s'), ⟨hw2, hsn3⟩, eA, hmu⟩ | exact ⟨(w2, st2, ca2, s), ⟨hw2, hsn3⟩, eA, hmu⟩ | exact ⟨(w', st', ca', s), ⟨hw', hsn2⟩, eA, hmu⟩
          · have hsn3 : ∀ v, v < k + 1 → 0 < w2.seen v := fun v hv => by rw [hsn2]; exact hsn v hv
            rw [q] at ho2 hO ⊢
            simp only [oV, oH, oC, List.cons_append, List.nil_append, List.append_nil] at ho2 ⊢
            first | rw [← ho2] | skip
            refine aw_region ?_
            refine q1 ?_
            first | refine qq rfl rfl (qr_as (qr_neqnil rfl rfl) (neq_y hO.2.2)) ?_ | refine qq rfl rfl (qr_neqnil (a := none) rfl rfl) ?_
            refine rn ?_
            refine aops_e rfl (oe_call rfl rfl (fcall_yrow (A := [_, _, _, _, _, _, _, _]) (hy w.outs C s6 s hO.1 hO.2.1 (outs_len hw.inv))) rfl ?_)
            rintro _ _ ⟨_, rfl, s', rfl, rfl⟩
            simp only [List.cons_append, List.nil_append]
            rw [← ho2]
            refine rn ?_
            refine aw_cond rfl (fun hc53 => ?_) (fun hc53 => ?_)
            · exact absurd hc53 (by decide)
            · refine rn ?_
              first | exact ⟨(w2, st2, ca2, s'), ⟨hw2, hsn3⟩, eA, hmu⟩ | exact ⟨(w2, st2, ca2, s), ⟨hw2, hsn3⟩, eA, hmu⟩ | exact ⟨(w', st', ca', s), ⟨hw', hsn2⟩, eA, hmu⟩
      · have hc0 : w.cls = [] := by cases e : w.cls with | nil => rfl | cons c r => (exfalso; have q := of_decide_eq_false hc41; rw [clsA_len, e, List.length_cons] at q; omega)
        refine rn ?_
        first | exact ⟨hk, (w, st, ca, s), ⟨hw, hc0, hsn⟩, eA⟩
  · have qk : k = nG g := by have q := of_decide_eq_false hc23; omega
    refine rn ?_
    refine ⟨fun l h => (by cases h), ?_⟩
    exact retq_n .nil (.drop [_, _, _, _, _, _] _ _) ⟨w.outs, s, hw.inv.all hc0 (fun v hv => hsn v (qk ▸ hv)), rfl⟩
end Go.Proofs
/- The walk of path's lines. Conditions: none. -/
set_option linter.unusedVariables false
set_option linter.unusedSimpArgs false
set_option maxRecDepth 10000
namespace Go.Proofs
open Go Go.Ab
attribute [local irreducible] QR QV OE aops aw dsoup dsoupM dalloc dallocM thn inBlk jsoup jch lsoup
open Go.H
theorem addN_y {l : List Nat} {b : Nat} (h : ∀ h : l.length - 1 < l.length, l[l.length - 1] ≠ b) : addN l b = l ++ [b] := by
  unfold addN
  rw [if_neg]
  intro q
  have hm := List.mem_of_getLast? q
  have hp := List.length_pos_of_mem hm
  have hne : l ≠ [] := List.ne_nil_of_mem hm
  rw [List.getLast?_eq_some_getLast hne] at q
  injection q with q
  rw [List.getLast_eq_getElem hne] at q
  exact h (by omega) q
theorem addN_n {l : List Nat} {b : Nat} (hl : l.length - 1 < l.length) (h : l[l.length - 1] = b) : addN l b = l := by
  unfold addN
  rw [if_pos]
  have hne : l ≠ [] := fun q => by rw [q] at hl; simp at hl
  rw [List.getLast?_eq_some_getLast hne, List.getLast_eq_getElem hne, h]
theorem lin_ab {g : Gr} (hok : GOk g) (out : Bool) {k : Nat} (hk : k < g.es.length) : ∃ a b : Nat, a < nG g ∧ b < nG g ∧ (a : Int) = lfr out g.es[k] ∧ (b : Int) = lto out g.es[k] := by
  obtain ⟨h1, h2, h3, h4, _⟩ := ed_nat hok (List.getElem_mem hk)
  cases out
  · exact ⟨_, _, h2, h1, h4, h3⟩
  · exact ⟨_, _, h1, h2, h3, h4⟩
theorem linF_at {out : Bool} {l : List Ed} {k a b : Nat} (hk : k < l.length) (ea : (a : Int) = lfr out l[k]) (eb : (b : Int) = lto out l[k]) : linF out (l.take (k + 1)) = updI (linF out (l.take k)) a (addN (linF out (l.take k) a) b) := by
  rw [linF_s hk (by omega), ← ea, ← eb, Int.toNat_natCast, Int.toNat_natCast]
theorem updI_id {α : Type} {f : Nat → α} {a : Nat} {x : α} (h : x = f a) : updI f a x = f := by
  subst h; funext i; unfold updI; split
  · rename_i e; rw [e]
  · rfl
theorem linF_tk (out : Bool) (l : List Ed) (k a : Nat) : (linF out (l.take k) a).length ≤ k := Nat.le_trans (linF_len _ _ _) (by rw [List.length_take]; exact Nat.min_le_left _ _)
set_option maxHeartbeats 4000000 in
theorem pLines (g : Gr) (hok : GOk g) (out : Bool) : ACall Tryz.prog 39 [.agg (grR g), bv out] [] (fun r h' => h' = [] ∧ r = .list false 1 (linesA (nG g) (linF out g.es))) := by
  refine acall_of_aw Tryz.func39 rfl rfl rfl ?_
  have hn0 := hok.n0
  have hn1 := hok.n1
  have hmany := hok.many
  have hng : nG g ≤ 300 := by unfold nG; omega
  have hnn : ((nG g : Nat) : Int) = g.n := by unfold nG; omega
  refine rn ?_
  refine aops_e rfl (oe_box rfl rfl rfl fun b2 => ?_)
  refine q1 ?_
  refine aops_nil (thn_n ?_)
  refine aw_seq (aw_region ?_)
  refine q1 ?_
  refine qq rfl rfl (qr_as (qr_load_one rfl rfl) (show iv _ = iv ((nG g : Nat) : Int) from congrArg iv hnn.symm)) ?_
  refine aops_e rfl (oe_makeSlice rfl rfl rfl (by omega) (hk := fun bm => ?_))
  refine aops_slice (.slice (some ⟨bm, 0, none⟩) (nG g) (nG g)) fun so hso => ?_
  rw [hso]
  clear hso
  rw [cellsO_zero]
  refine rn ?_
  refine aw_rngX g.es.length (fun _ (σ : Nat → SV) => True) (fun k σ => ⟨[(17, iv k), (1, bv out), (5, .v so.v), (15, edsA g.es), (16, iv (g.es.map edR).length)], .row so.v 1 30 (cellsO (nG g) σ) :: .box b2 24 (grR g) :: innR 3 (nG g) σ (linF out (g.es.take k)), []⟩) (fun _ => nilV) trivial (by simp only [List.take_zero, linF_0]; exact ent_trans (ent_nilrows 3 (nG g)) (ent_trans (ent_perm List.perm_append_comm) es)) ?_
  intro k σ lk _
  refine rn ?_
  refine aw_cond rfl (fun hc18 => ?_) (fun hc18 => ?_)
  · have hk : k < g.es.length := by have q := of_decide_eq_true hc18; rw [List.length_map] at q; omega
    obtain ⟨a, b, ha, hb, ea, eb⟩ := lin_ab hok out hk
    have hfl := linF_tk out g.es k a
    refine aw_skip ?_
    refine thn_n ?_
    refine aw_seq ?_
    refine aw_block ?_
    refine aw_seq (aw_region ?_)
    refine qq rfl rfl (qr_index_list (i := k) rfl rfl (edR_at hk)) ?_
    refine rn ?_
    refine aops_e rfl (oe_alloc rfl fun b7 => ?_)
    refine rn0 ?_
    refine aw_seq ?_
    refine aw_drawX 5 [] [] (fun he => he = .box b7 53 (edR g.es[k]) :: .row so.v 1 30 (cellsO (nG g) σ) :: .box b2 24 (grR g) :: innR 3 (nG g) σ (linF out (g.es.take k))) rfl rfl rfl ?_
    refine jq rfl (fun he hC => by obtain rfl := hC <;> exact qrA) ?_
    refine jq rfl (fun he hC => by obtain rfl := hC <;> exact qrA) ?_
    refine jq rfl (fun he hC => by obtain rfl := hC <;> exact qrA) ?_
    refine jq rfl (fun he hC => by obtain rfl := hC <;> exact qrA) ?_
    refine jq rfl (fun he hC => by obtain rfl := hC <;> exact qrA) ?_
    refine jnil ?_
    refine jcn ?_
    refine ln ?_
    refine rn0 ?_
    refine aw_cut (⟨[(8, iv (a : Int)), (9, iv (b : Int)), (17, iv k), (1, bv out), (5, .v so.v), (15, edsA g.es), (16, iv (g.es.map edR).length)], .box b7 53 (edR g.es[k]) :: .row so.v 1 30 (cellsO (nG g) σ) :: .box b2 24 (grR g) :: innR 3 (nG g) σ (linF out (g.es.take k)), []⟩) ?_ ?_
    · refine rn ?_
      refine aw_cond rfl (fun hc26 => ?_) (fun hc26 => ?_)
      · refine rn ?_
        first | (have ho : out = false := (by simpa using hc26); subst ho; rw [ea, eb]; exact es) | (have ho : out = true := (by simpa using hc26); subst ho; rw [ea, eb]; exact es)
      · refine rn ?_
        first | (have ho : out = false := (by simpa using hc26); subst ho; rw [ea, eb]; exact es) | (have ho : out = true := (by simpa using hc26); subst ho; rw [ea, eb]; exact es)
    · refine aw_seq ?_
      refine aw_ent (s' := ⟨[(8, iv (a : Int)), (9, iv (b : Int)), (17, iv k), (1, bv out), (5, .v so.v), (15, edsA g.es), (16, iv (g.es.map edR).length)], .row (σ a).v 1 3 (((linF out (g.es.take k)) a).map natR) :: .row so.v 1 30 (cellsO (nG g) σ) :: .box b7 53 (edR g.es[k]) :: .box b2 24 (grR g) :: innX 3 (nG g) σ (linF out (g.es.take k)) a, []⟩) (ent_trans (ent_perm (.trans (.cons _ (.cons _ (.cons _ (inn_perm ha)))) ((pt3 _ _ _ _ _).trans (.cons _ (pt1 _ _ _))))) es) ?_
      refine aw_region ?_
      refine q1 ?_
      refine q1 ?_
      refine qq rfl rfl (qr_index_row (k := a) rfl rfl (by rw [cellsO_len]; exact ha)) ?_
      refine qq rfl rfl (qr_load_rp_one rfl (cellsO_at σ ha) rfl) ?_
      refine qq rfl rfl (qr_as (qr_len_row rfl) (show iv _ = iv (((linF out (g.es.take k) a).length : Nat) : Int) from congrArg iv (by rw [List.length_map]))) ?_
      refine rn ?_
      refine asplit (fun hg9_2 => ?_) (fun hg9_2 => ?_)
      · refine rn ?_
        refine aw_ct rfl ?_
        have hadd : addN (linF out (g.es.take k) a) b = (linF out (g.es.take k) a) ++ [b] := by first | exact addN_y (fun h => by have q := beq_iff_eq.1 hg9_2; omega) | exact addN_y (fun h => by have q := hc47; simp at q; omega)
        refine aw_region ?_
        refine q1 ?_
        refine q1 ?_
        refine q1 ?_
        refine q1 ?_
        refine qq rfl rfl (qr_index_row (k := a) rfl rfl (by rw [cellsO_len]; exact ha)) ?_
        refine qq rfl rfl (qr_load_rp_one rfl (cellsO_at σ ha) rfl) ?_
        refine rn ?_
        refine qv rfl rfl (qv_buildSlice rfl rfl) ?_
        refine aops_e rfl (oe_append_row rfl rfl (by simp only [List.length_map, List.length_append, List.length_cons, List.length_nil]; omega) rfl (fun s27 => ?_) (fun r hr => by rw [List.mem_singleton.1 hr]; rfl))
        refine aops_slice s27 fun sv hsv => ?_
        subst hsv
        refine qq rfl rfl (qr_index_row (k := a) rfl rfl (by rw [cellsO_len]; exact ha)) ?_
        refine aops_e rfl (oe_store_rp (k := a) rfl rfl rfl (cellsO_at σ ha) rfl (Nat.le_of_ble_eq_true rfl) ?_)
        rw [st1, cellsO_set]
        refine rn ?_
        first | exact ⟨hk, updI σ a sv, trivial, by rw [linF_at hk ea eb, hadd, show (linF out (g.es.take k) a).map natR ++ [[iv (b : Int)]] = ((linF out (g.es.take k) a) ++ [b]).map natR by rw [List.map_append]; rfl]; exact ent_trans (ent_perm ((pt2 _ _ _ _).trans (.cons _ ((pt1 _ _ _).trans (.cons _ (pt1 _ _ _)))))) (ent_trans ent_drop1 (ent_trans (ent_perm (.cons _ (.cons _ (inn_back ha sv ((linF out (g.es.take k) a) ++ [b]))))) es))⟩ | exact ⟨hk, σ, trivial, by rw [linF_at hk ea eb, hadd, updI_id rfl]; exact ent_trans (ent_perm ((pt2 _ _ _ _).trans (.cons _ ((pt1 _ _ _).trans (.cons _ (pt1 _ _ _)))))) (ent_trans ent_drop1 (ent_trans (ent_perm (.cons _ (.cons _ ((inn_perm ha).symm)))) es))⟩
      · refine q1 ?_
        refine q1 ?_
        refine qq rfl rfl (qr_index_row (k := a) rfl rfl (by rw [cellsO_len]; exact ha)) ?_
        refine qq rfl rfl (qr_load_rp_one rfl (cellsO_at σ ha) rfl) ?_
        refine q1 ?_
        refine qq rfl rfl (qr_as (qr_ari rfl rfl rfl (by omega)) (show iv _ = iv (((linF out (g.es.take k) a).length - 1 : Nat) : Int) from congrArg iv (by have q := beq_eq_false_iff_ne.1 hg9_2; omega))) ?_
        refine qq rfl rfl (qr_index_row (k := (linF out (g.es.take k) a).length - 1) rfl rfl (by rw [List.length_map]; exact (show (linF out (g.es.take k) a).length - 1 < (linF out (g.es.take k) a).length by have q := beq_eq_false_iff_ne.1 hg9_2; omega))) ?_
        refine qq rfl rfl (qr_load_rp_one rfl (natR_at (show (linF out (g.es.take k) a).length - 1 < (linF out (g.es.take k) a).length by have q := beq_eq_false_iff_ne.1 hg9_2; omega)) rfl) ?_
        refine rn ?_
        refine aw_cond rfl (fun hc47 => ?_) (fun hc47 => ?_)
        · have hadd : addN (linF out (g.es.take k) a) b = (linF out (g.es.take k) a) ++ [b] := by first | exact addN_y (fun h => by have q := beq_iff_eq.1 hg9_2; omega) | exact addN_y (fun h => by have q := hc47; simp at q; omega)
          refine aw_region ?_
          refine q1 ?_
          refine q1 ?_
          refine q1 ?_
          refine q1 ?_
          refine qq rfl rfl (qr_index_row (k := a) rfl rfl (by rw [cellsO_len]; exact ha)) ?_
          refine qq rfl rfl (qr_load_rp_one rfl (cellsO_at σ ha) rfl) ?_
          refine rn ?_
          refine qv rfl rfl (qv_buildSlice rfl rfl) ?_
          refine aops_e rfl (oe_append_row rfl rfl (by simp only [List.length_map, List.length_append, List.length_cons, List.length_nil]; omega) rfl (fun s27 => ?_) (fun r hr => by rw [List.mem_singleton.1 hr]; rfl))
          refine aops_slice s27 fun sv hsv => ?_
          subst hsv
          refine qq rfl rfl (qr_index_row (k := a) rfl rfl (by rw [cellsO_len]; exact ha)) ?_
          refine aops_e rfl (oe_store_rp (k := a) rfl rfl rfl (cellsO_at σ ha) rfl (Nat.le_of_ble_eq_true rfl) ?_)
          rw [st1, cellsO_set]
          refine rn ?_
          first | exact ⟨hk, updI σ a sv, trivial, by rw [linF_at hk ea eb, hadd, show (linF out (g.es.take k) a).map natR ++ [[iv (b : Int)]] = ((linF out (g.es.take k) a) ++ [b]).map natR by rw [List.map_append]; rfl]; exact ent_trans (ent_perm ((pt2 _ _ _ _).trans (.cons _ ((pt1 _ _ _).trans (.cons _ (pt1 _ _ _)))))) (ent_trans ent_drop1 (ent_trans (ent_perm (.cons _ (.cons _ (inn_back ha sv ((linF out (g.es.take k) a) ++ [b]))))) es))⟩ | exact ⟨hk, σ, trivial, by rw [linF_at hk ea eb, hadd, updI_id rfl]; exact ent_trans (ent_perm ((pt2 _ _ _ _).trans (.cons _ ((pt1 _ _ _).trans (.cons _ (pt1 _ _ _)))))) (ent_trans ent_drop1 (ent_trans (ent_perm (.cons _ (.cons _ ((inn_perm ha).symm)))) es))⟩
        · have hadd : addN (linF out (g.es.take k) a) b = (linF out (g.es.take k) a) := addN_n (show (linF out (g.es.take k) a).length - 1 < (linF out (g.es.take k) a).length by have q := beq_eq_false_iff_ne.1 hg9_2; omega) (by have q := hc47; simp at q; omega)
          refine rn ?_
          first | exact ⟨hk, updI σ a sv, trivial, by rw [linF_at hk ea eb, hadd, show (linF out (g.es.take k) a).map natR ++ [[iv (b : Int)]] = ((linF out (g.es.take k) a) ++ [b]).map natR by rw [List.map_append]; rfl]; exact ent_trans (ent_perm ((pt2 _ _ _ _).trans (.cons _ ((pt1 _ _ _).trans (.cons _ (pt1 _ _ _)))))) (ent_trans ent_drop1 (ent_trans (ent_perm (.cons _ (.cons _ (inn_back ha sv ((linF out (g.es.take k) a) ++ [b]))))) es))⟩ | exact ⟨hk, σ, trivial, by rw [linF_at hk ea eb, hadd, updI_id rfl]; exact ent_trans (ent_perm ((pt2 _ _ _ _).trans (.cons _ ((pt1 _ _ _).trans (.cons _ (pt1 _ _ _)))))) (ent_trans ent_drop1 (ent_trans (ent_perm (.cons _ (.cons _ ((inn_perm ha).symm)))) es))⟩
  · have qk : k = g.es.length := by have q := of_decide_eq_false hc18; rw [List.length_map] at q; omega
    refine rn ?_
    exact retq (.cons _ _ _ _ (.tmp _ _ rfl) .nil) (.trans (.perm (List.Perm.swap _ _ _) _) (.trans (vent_lines (G := [_])) (.drop [_] _ _))) ⟨rfl, by rw [qk, List.take_length]⟩
end Go.Proofs
/- What a map literal puts in, by a typed map. Conditions: none (rules over any program). -/
set_option linter.unusedVariables false
namespace Go.Ab
open Go
theorem insert_of {P : Program} {ro : Option Nat} {nt : Nat} {s : St} {next : St → Prop} {T : TypeId} {ty : TypeId} {pos : String} {after : Array Edge} {guard : Option (Nat × Bool)} {x y z : Operand} (h : OE P ro nt ⟨none, .mapUpdate T x y z, ty, pos, after, guard⟩ s next) : OE P ro nt ⟨none, .insert T x y z, ty, pos, after, guard⟩ s next := fun X a w K Q hs hK => by
  refine ⟨about_true, ?_⟩
  have h2 := (h X a w K Q hs hK).2
  rw [semAt_nd rfl] at h2 ⊢
  exact h2
end Go.Ab
/- The walks of path's waves. Conditions: none. -/
set_option linter.unusedVariables false
set_option linter.unusedSimpArgs false
set_option maxRecDepth 10000
namespace Go.Proofs
open Go Go.Ab
attribute [local irreducible] QR QV OE aops aw dsoup dsoupM dalloc dallocM thn inBlk jsoup jch lsoup
open Go.H
def ErM (F : Nat → List Nat) (mb : Nat → Bool) (u w : Nat) : Prop := w ∈ F u ∧ mb w = true
def metB (m : List (Int × Bool)) (v : Nat) : Bool := (getT (v : Int) m).getD false
theorem metB_0 (s : Nat) : metB [((s : Int), true)] = fun v => v == s := by
  funext v
  unfold metB
  simp only [getT]
  split
  · rename_i q
    have h2 : v = s := by omega
    rw [h2]; simp
  · rename_i q
    have h2 : v ≠ s := by omega
    simp [h2]
theorem metB_put (m : List (Int × Bool)) (y : Nat) : metB (putT (y : Int) true m) = updB (metB m) y := by
  funext v
  unfold metB updB
  rw [get_put]
  by_cases e : v = y
  · subst e; rw [if_pos rfl, if_pos rfl]; rfl
  · rw [if_neg e, if_neg (by omega)]
theorem nd_len {l : List Nat} {n : Nat} (h : l.Nodup) (hl : ∀ v ∈ l, v < n) : l.length ≤ n := by
  have := h.length_le_of_subset (l₂ := List.range n) fun x hx => List.mem_range.2 (hl x hx)
  simpa using this
/-- A wave: a row of nodes, each once. -/
def RowN (n : Nat) (l : List Nat) : Prop := l.Nodup ∧ ∀ v ∈ l, v < n
theorem RowN.snoc {n : Nat} {l : List Nat} {y : Nat} (h : RowN n l) (hy : y < n) (hn : y ∉ l) : RowN n (l ++ [y]) :=
  ⟨List.nodup_append.2 ⟨h.1, List.nodup_cons.2 ⟨by simp, .nil⟩, fun a ha b hb e => hn (by rw [List.mem_singleton] at hb; rw [← hb, ← e]; exact ha)⟩, fun v hv => (List.mem_append.1 hv).elim (h.2 v) (fun q => by rw [List.mem_singleton] at q; omega)⟩
theorem RowN.nil (n : Nat) : RowN n [] := ⟨.nil, fun v h => by cases h⟩
theorem RowN.one {n s : Nat} (h : s < n) : RowN n [s] := ⟨List.nodup_cons.2 ⟨by simp, .nil⟩, fun v q => by rw [List.mem_singleton] at q; omega⟩
theorem WMid.fresh {E : Nat → Nat → Prop} {s : Nat} {met : Nat → Bool} {next wave row : List Nat} {n i j y : Nat} (h : WMid E s met next n wave i row j) (hm : met y = false) : y ∉ next := fun q => by
  have := (h.next y q).1; rw [hm] at this; cases this
theorem getB {w : List Nat} {i : Nat} (h : i < w.length) : w[i]? = some w[i] := List.getElem?_eq_getElem h
def linP (F : Nat → List Nat) (n : Nat) : Prop := ∀ u, ∀ w ∈ F u, w < n
theorem wave_lt {F : Nat → List Nat} {mb : Nat → Bool} {n s k : Nat} {met : Nat → Bool} {wave : List Nat} (hs : s < n) (h : WInv (ErM F mb) s met wave k) (hF : linP F n) (hw : 0 < wave.length) : k < n :=
  dist_lt (E := fun u v => ErM F mb u v ∧ True) (N := n) (v := wave[0]) hs (fun u v q => hF u v q.1.1) (by
    have := (h.wave wave[0]).1 (List.getElem_mem hw)
    have e : (fun u v => ErM F mb u v ∧ True) = ErM F mb := by funext u v; simp
    rw [e]; exact this)
theorem pWaves (F : Nat → List Nat) (n s : Nat) (fv : AV) (hone : fv.cellsOf = some [fv]) (W : List Res) : ACall Tryz.prog 62 [.list false 1 (linesA n F), iv (s : Int), fv] W (fun r h' => ∃ bm bs bl, h' = .box bm 71 [fv] :: .box bs 3 [iv (s : Int)] :: .box bl 46 [.list false 1 (linesA n F)] :: W ∧ r = .fn (.func 79) [] [.v (.pointer (some ⟨bs, 0, none⟩)), .v (.pointer (some ⟨bl, 0, none⟩)), .v (.pointer (some ⟨bm, 0, none⟩))]) := by
  refine acall_of_aw Tryz.func62 rfl rfl rfl ?_
  refine rn ?_
  refine aops_e rfl (oe_box rfl rfl rfl fun b3 => ?_)
  refine aops_e rfl (oe_box rfl rfl rfl fun b4 => ?_)
  refine aops_e rfl (oe_box rfl hone rfl fun b5 => ?_)
  refine rn ?_
  exact retq (.cons _ _ _ _ (.tmp _ _ rfl) .nil) (.refl _ _) ⟨_, _, _, rfl, rfl⟩
set_option maxHeartbeats 4000000 in
theorem pWaves1 {σ : Type} (F : Nat → List Nat) (n s : Nat) (fv : AV) (mb : Nat → Bool) (hs : s < n) (hn : n ≤ 300) (hF : linP F n) (hFl : ∀ u, (F u).length ≤ 40000) (y : AV) (bm bs bl : Nat) (I : Nat → σ → List Res) (x0 : σ) (hm : ∀ w : Nat, w < n → ∀ k x, FCall Tryz.prog fv [iv (w : Int)] (I k x) (fun r h' => h' = I k x ∧ r = bv (mb w))) (hy : ∀ k wave x, (∀ v, v ∈ wave ↔ DistI (ErM F mb) s v k) → RowN n wave → FCall Tryz.prog y [iv ((k : Nat) : Int), .list false 1 (wave.map natR)] (I k x) (fun r h' => ∃ x', r = bv true ∧ h' = I (k + 1) x')) : ACall Tryz.prog 79 [y, .v (.pointer (some ⟨bs, 0, none⟩)), .v (.pointer (some ⟨bl, 0, none⟩)), .v (.pointer (some ⟨bm, 0, none⟩))] (.box bm 71 [fv] :: .box bs 3 [iv (s : Int)] :: .box bl 46 [.list false 1 (linesA n F)] :: I 0 x0) (fun r h' => ∃ k x, (∀ v d, DistI (ErM F mb) s v d → d < k) ∧ h' = .box bm 71 [fv] :: .box bs 3 [iv (s : Int)] :: .box bl 46 [.list false 1 (linesA n F)] :: I k x) := by
  refine acall_of_aw Tryz.func79 rfl rfl rfl ?_
  refine rn ?_
  refine aops_e rfl (oe_makeMap (enc := intK) rfl fun bp => ?_)
  rw [show encM intK ([] : List (Int × AV)) = encM intK (mapA bv ([] : List (Int × Bool))) from rfl]
  refine rn ?_
  refine aops_e rfl (insert_of (oe_mapUpdT (g := bv) (enc := intK) (k := (s : Int)) (v := true) rfl rfl rfl ?_))
  refine rn ?_
  refine aops_e rfl (oe_buildRow (rows := [s].map natR) rfl rfl rfl (fun s17 => ?_))
  refine rn ?_
  refine aw_while (fun z : Nat × List (Int × Bool) × List Nat × σ => WInv (ErM F mb) s (metB z.2.1) z.2.2.1 z.1 ∧ RowN n z.2.2.1) (fun z => ⟨[(5, .v (.map (some bp))), (6, .list false 1 (z.2.2.1.map natR)), (7, iv (z.1 : Nat)), (0, y), (2, .v (.pointer (some ⟨bl, 0, none⟩))), (3, .v (.pointer (some ⟨bm, 0, none⟩)))], .map bp (encM intK (mapA bv z.2.1)) :: .box bm 71 [fv] :: .box bs 3 [iv (s : Int)] :: .box bl 46 [.list false 1 (linesA n F)] :: I z.1 z.2.2.2, []⟩) (fun z => n - z.1) (0, [((s : Int), true)], [s], x0) ⟨by simp only [metB_0]; exact WInv.start, RowN.one hs⟩ (by exact ent_freeze (by repeat (first | exact .nil | refine .row _ _ rfl ?_ | refine .cons _ _ _ rfl ?_))) ?_
  rintro ⟨k, m, wave, x⟩ ⟨hw, hr⟩
  simp only at hw hr
  show aw _ _ _ _ _ ⟨[(5, .v (.map (some bp))), (6, .list false 1 (wave.map natR)), (7, iv (k : Nat)), (0, y), (2, .v (.pointer (some ⟨bl, 0, none⟩))), (3, .v (.pointer (some ⟨bm, 0, none⟩)))], .map bp (encM intK (mapA bv m)) :: .box bm 71 [fv] :: .box bs 3 [iv (s : Int)] :: .box bl 46 [.list false 1 (linesA n F)] :: I k x, []⟩
  refine aw_seq ?_
  refine aw_seq (aw_region ?_)
  refine q1 ?_
  refine qq rfl rfl (qr_as (qr_len_list rfl) (show iv _ = iv ((wave.length : Nat) : Int) from congrArg iv (by rw [List.length_map]))) ?_
  refine rn ?_
  refine aw_cond rfl (fun hc20 => ?_) (fun hc20 => ?_)
  · have hwl : 0 < wave.length := by have q := of_decide_eq_true hc20; omega
    have hkn := wave_lt hs hw hF hwl
    have hwn := nd_len hr.1 hr.2
    refine rn ?_
    refine aops_e rfl (oe_call rfl rfl (FCall.fr4 (hy k wave x hw.wave hr)) rfl ?_)
    rintro _ _ ⟨_, rfl, x', rfl, rfl⟩
    refine rn ?_
    refine aw_cond rfl (fun hc27 => ?_) (fun hc27 => ?_)
    · exact absurd hc27 (by decide)
    · refine aw_skip ?_
      refine thn_n ?_
      refine aw_seq (aw_region ?_)
      refine q1 ?_
      refine aops_nil (thn_n ?_)
      refine aw_seq ?_
      refine aw_seq (aw_region ?_)
      refine q1 ?_
      refine qq rfl rfl (qr_as (qr_len_list rfl) (show iv _ = iv ((wave.length : Nat) : Int) from congrArg iv (by rw [List.length_map]))) ?_
      refine rn ?_
      refine aw_rngX wave.length (fun i (z : List (Int × Bool) × List Nat × SV) => (∀ row, WMid (ErM F mb) s (metB z.1) z.2.1 k wave i row 0) ∧ RowN n z.2.1) (fun i z => ⟨[(30, iv i), (8, .v z.2.2.v), (0, y), (2, .v (.pointer (some ⟨bl, 0, none⟩))), (3, .v (.pointer (some ⟨bm, 0, none⟩))), (5, .v (.map (some bp))), (6, .list false 1 (wave.map natR)), (7, iv (k : Int)), (28, .list false 1 (wave.map natR)), (29, iv (wave.length : Nat))], .row z.2.2.v 1 3 (z.2.1.map natR) :: .map bp (encM intK (mapA bv z.1)) :: .box bm 71 [fv] :: .box bs 3 [iv (s : Int)] :: .box bl 46 [.list false 1 (linesA n F)] :: I (k + 1) x', []⟩) (m, [], nilV) ⟨fun row => hw.mid row, RowN.nil n⟩ (ent_trans (ent_nilrow 1 3) es) ?_
      rintro i ⟨m, next, s8⟩ li ⟨hz, hx⟩
      simp only at hz hx
      show aw _ _ _ _ _ ⟨[(30, iv i), (8, .v s8.v), (0, y), (2, .v (.pointer (some ⟨bl, 0, none⟩))), (3, .v (.pointer (some ⟨bm, 0, none⟩))), (5, .v (.map (some bp))), (6, .list false 1 (wave.map natR)), (7, iv (k : Int)), (28, .list false 1 (wave.map natR)), (29, iv (wave.length : Nat))], .row s8.v 1 3 (next.map natR) :: .map bp (encM intK (mapA bv m)) :: .box bm 71 [fv] :: .box bs 3 [iv (s : Int)] :: .box bl 46 [.list false 1 (linesA n F)] :: I (k + 1) x', []⟩
      refine rn ?_
      refine aw_cond rfl (fun hc31 => ?_) (fun hc31 => ?_)
      · have hki : i < wave.length := by have q := of_decide_eq_true hc31; omega
        have hvn : wave[i] < n := hr.2 _ (List.getElem_mem hki)
        have hFv := hFl wave[i]
        refine aw_skip ?_
        refine thn_n ?_
        refine aw_seq ?_
        refine aw_block ?_
        refine aw_seq (aw_region ?_)
        refine qq rfl rfl (qr_index_list (i := i) rfl rfl (natR_at hki)) ?_
        refine q1 ?_
        refine q1 ?_
        refine aops_nil (thn_n ?_)
        refine aw_seq (aw_region ?_)
        refine q1 ?_
        refine q1 ?_
        refine qq rfl rfl (qr_index_list (i := (wave[i])) rfl rfl (linesA_at F hvn)) ?_
        refine q1 ?_
        refine qq rfl rfl (qr_as (qr_len_list rfl) (show iv _ = iv (((F wave[i]).length : Nat) : Int) from congrArg iv (by rw [List.length_map]))) ?_
        refine rn ?_
        refine aw_rngX (F wave[i]).length (fun j (z : List (Int × Bool) × List Nat × SV) => WMid (ErM F mb) s (metB z.1) z.2.1 k wave i (F wave[i]) j ∧ RowN n z.2.1) (fun j z => ⟨[(39, iv j), (8, .v z.2.2.v), (0, y), (2, .v (.pointer (some ⟨bl, 0, none⟩))), (3, .v (.pointer (some ⟨bm, 0, none⟩))), (5, .v (.map (some bp))), (6, .list false 1 (wave.map natR)), (7, iv (k : Int)), (28, .list false 1 (wave.map natR)), (29, iv (wave.length : Nat)), (30, iv i), (37, .list false 1 ((F wave[i]).map natR)), (38, iv ((F wave[i]).length : Nat))], .row z.2.2.v 1 3 (z.2.1.map natR) :: .map bp (encM intK (mapA bv z.1)) :: .box bm 71 [fv] :: .box bs 3 [iv (s : Int)] :: .box bl 46 [.list false 1 (linesA n F)] :: I (k + 1) x', []⟩) (m, next, s8) ⟨hz _, hx⟩ es ?_
        rintro j ⟨m, next, s8⟩ lj ⟨hz, hx⟩
        simp only at hz hx
        show aw _ _ _ _ _ ⟨[(39, iv j), (8, .v s8.v), (0, y), (2, .v (.pointer (some ⟨bl, 0, none⟩))), (3, .v (.pointer (some ⟨bm, 0, none⟩))), (5, .v (.map (some bp))), (6, .list false 1 (wave.map natR)), (7, iv (k : Int)), (28, .list false 1 (wave.map natR)), (29, iv (wave.length : Nat)), (30, iv i), (37, .list false 1 ((F wave[i]).map natR)), (38, iv ((F wave[i]).length : Nat))], .row s8.v 1 3 (next.map natR) :: .map bp (encM intK (mapA bv m)) :: .box bm 71 [fv] :: .box bs 3 [iv (s : Int)] :: .box bl 46 [.list false 1 (linesA n F)] :: I (k + 1) x', []⟩
        refine rn ?_
        refine aw_cond rfl (fun hc40 => ?_) (fun hc40 => ?_)
        · have hkj : j < (F wave[i]).length := by have q := of_decide_eq_true hc40; omega
          have hyn : (F wave[i])[j] < n := hF _ _ (List.getElem_mem hkj)
          have hnl := nd_len hx.1 hx.2
          have hyj := getB hkj
          refine aw_skip ?_
          refine thn_n ?_
          refine aw_seq ?_
          refine aw_block ?_
          refine aw_seq (aw_region ?_)
          refine qq rfl rfl (qr_index_list (i := j) rfl rfl (natR_at hkj)) ?_
          refine q1 ?_
          refine q1 ?_
          refine aops_nil (thn_n ?_)
          refine aw_seq (aw_region ?_)
          refine q1 ?_
          refine q1 ?_
          refine qq rfl rfl (qr_lookT (enc := intK) (k := (((F wave[i])[j] : Nat) : Int)) false rfl rfl) ?_
          refine rn ?_
          refine asplit (fun hg13_4 => ?_) (fun hg13_4 => ?_)
          · refine rn ?_
            refine qv rfl rfl (qv_call rfl rfl (FCall.qt (hm _ hyn (k + 1) x') (List.perm_append_comm (l₁ := ([.row s8.v 1 3 (next.map natR), .map bp (encM intK (mapA bv m)), .box bm 71 [fv], .box bs 3 [iv (s : Int)], .box bl 46 [.list false 1 (linesA n F)]] : List Res))))) ?_
            refine rn ?_
            refine aw_cond rfl (fun hc51 => ?_) (fun hc51 => ?_)
            · have hmf : metB m (F wave[i])[j] = false := by have q := hg13_4; simpa [metB] using q
              have hmb : mb (F wave[i])[j] = true := hc51
              have hfr := WMid.fresh hz hmf
              refine rn ?_
              refine aops_e rfl (oe_mapUpdT (g := bv) (enc := intK) (k := (((F wave[i])[j] : Nat) : Int)) (v := true) rfl rfl rfl ?_)
              refine rn ?_
              refine qv rfl rfl (qv_buildSlice rfl rfl) ?_
              refine aops_e rfl (oe_append_row rfl rfl (by simp only [List.length_map, List.length_append, List.length_cons, List.length_nil]; omega) rfl (fun s27 => ?_) (fun r hr => by rw [List.mem_singleton.1 hr]; rfl))
              refine aops_slice s27 fun sv hsv => ?_
              subst hsv
              refine rn ?_
              first | exact ⟨hkj, (putT (((F wave[i])[j] : Nat) : Int) true m, next ++ [(F wave[i])[j]], sv), ⟨by simp only [metB_put]; exact hz.mark (getB hki) hyj ⟨List.getElem_mem hkj, hmb⟩ hmf, hx.snoc hyn hfr⟩, by simp only [List.map_append]; exact eA⟩ | exact ⟨hkj, (m, next, s8), ⟨hz.skip hyj hsk, hx⟩, eA⟩
            · have hsk : metB m (F wave[i])[j] = true ∨ ∀ v, wave[i]? = some v → ¬ (ErM F mb) v (F wave[i])[j] := by first | exact .inl (by have q := hg13_4; simpa [metB] using q) | exact .inr (fun v _ q => by have q1 := q.2; rw [show mb (F wave[i])[j] = false from hc51] at q1; cases q1)
              refine rn ?_
              first | exact ⟨hkj, (putT (((F wave[i])[j] : Nat) : Int) true m, next ++ [(F wave[i])[j]], sv), ⟨by simp only [metB_put]; exact hz.mark (getB hki) hyj ⟨List.getElem_mem hkj, hmb⟩ hmf, hx.snoc hyn hfr⟩, by simp only [List.map_append]; exact eA⟩ | exact ⟨hkj, (m, next, s8), ⟨hz.skip hyj hsk, hx⟩, eA⟩
          · refine rn ?_
            refine aw_cf rfl ?_
            have hsk : metB m (F wave[i])[j] = true ∨ ∀ v, wave[i]? = some v → ¬ (ErM F mb) v (F wave[i])[j] := by first | exact .inl (by have q := hg13_4; simpa [metB] using q) | exact .inr (fun v _ q => by have q1 := q.2; rw [show mb (F wave[i])[j] = false from hc51] at q1; cases q1)
            refine rn ?_
            first | exact ⟨hkj, (putT (((F wave[i])[j] : Nat) : Int) true m, next ++ [(F wave[i])[j]], sv), ⟨by simp only [metB_put]; exact hz.mark (getB hki) hyj ⟨List.getElem_mem hkj, hmb⟩ hmf, hx.snoc hyn hfr⟩, by simp only [List.map_append]; exact eA⟩ | exact ⟨hkj, (m, next, s8), ⟨hz.skip hyj hsk, hx⟩, eA⟩
        · have qj : j = (F wave[i]).length := by have q := of_decide_eq_false hc40; omega
          refine rn ?_
          exact ⟨hki, (m, next, s8), ⟨fun row => (qj ▸ hz).on (getB hki) (fun y q => q.1) row, hx⟩, eA⟩
      · have qi : i = wave.length := by have q := of_decide_eq_false hc31; omega
        refine aw_exit ?_
        refine rn0 ?_
        refine aw_ent (s' := ⟨[(8, .list false 1 (next.map natR)), (7, iv (k : Int)), (5, .v (.map (some bp))), (0, y), (2, .v (.pointer (some ⟨bl, 0, none⟩))), (3, .v (.pointer (some ⟨bm, 0, none⟩)))], .map bp (encM intK (mapA bv m)) :: .box bm 71 [fv] :: .box bs 3 [iv (s : Int)] :: .box bl 46 [.list false 1 (linesA n F)] :: I (k + 1) x', []⟩) (by exact ent_freeze (by repeat (first | exact .nil | refine .row _ _ rfl ?_ | refine .cons _ _ _ rfl ?_))) ?_
        refine rn ?_
        exact ⟨(k + 1, m, next, x'), ⟨by simp only; have h := hz []; rw [qi] at h; exact h.fin, hx⟩, eA, by simp only; omega⟩
  · have hw0 : wave = [] := by have q := of_decide_eq_false hc20; exact List.length_eq_zero_iff.1 (by omega)
    subst hw0
    refine rn ?_
    exact retq_n .nil (.drop [_] _ _) ⟨k, x, fun v d q => hw.all q, rfl⟩
end Go.Proofs
/- copy into a whole row of one's own, aS much aS there is room for. Conditions: none (rules over any program). -/
set_option linter.unusedVariables false
set_option linter.unusedSimpArgs false
namespace Go.Ab
open Go
theorem part_all (a : Option Addr) (n c sz : Nat) : partV (.slice a n c) 0 n sz = .slice a n c := by
  cases a with
  | none => simp [partV, sliced]
  | some a => exact part_0 a n c n sz
section
variable {P : Program} {ro : Option Nat} {nt : Nat} {ty : TypeId} {pos : String} {after : Array Edge} {guard : Option (Nat × Bool)} {x y : Operand}
theorem oe_copy_ln {T T2 E sz i : Nat} (n : Nat) {full : Bool} {s : Value} {rows zs : List (List AV)} {t : Fr} {h h' : List Res} {ds : List Nat} {dt : Tmp} {next : St → Prop} (hx : ev t x = some (.v s)) (hy : ev t y = some (.list full sz zs)) [hrow : HasRow h s i sz E rows]
    [Und P T (.slice E)] [Siz P E sz] (hn : min zs.length rows.length = n)
    (hd : dok nt (some dt) = true) [hset : SetAt h i (.row s sz E (zs.take n ++ rows.drop n)) h'] (hk : next ⟨(dt, .v (.int .i64 n)) :: t, h', ds⟩) (hone : ∀ r ∈ zs, r.all AV.one = true) :
    OE P ro nt ⟨some dt, .call ⟨.builtin .copy, [x, y].toArray, [T, T2].toArray⟩, ty, pos, after, guard⟩ ⟨t, h, ds⟩ next := by
  intro X a w K Q hs hK
  obtain ⟨ax, cap, es, _⟩ := row_list hs.heap hrow.h
  have hp : partV s 0 rows.length sz = s := by rw [es]; exact part_all _ _ _ _
  have hl : (zs.take n).length = n := by simp; omega
  have hset' : SetAt h i (.row s sz E (rows.take 0 ++ (zs.take n ++ rows.drop (0 + (zs.take n).length)))) h' := by
    rw [hl, List.take_zero, List.nil_append, Nat.zero_add]; exact hset
  exact oe_copy_pl (P := P) (ro := ro) (nt := nt) (T := T) (T2 := T2) (E := E) (sz := sz) (i := i) (d := 0) (hi := rows.length) (n := n) (full := full) (s := s) (rows := rows) (zs := zs) (h' := h') (next := next) (by rw [hp]; exact hx) hy (Nat.zero_le _) (Nat.le_refl _) (by rw [Nat.sub_zero]; exact hn) hd (hset := hset') (by rw [hl]; exact hk) hone X a w K Q hs hK
end
end Go.Ab
/- The walks of slices.Repeat, path's far. Conditions: none. -/
set_option linter.unusedVariables false
set_option linter.unusedSimpArgs false
set_option maxRecDepth 10000
namespace Go.Proofs
open Go Go.Ab
attribute [local irreducible] QR QV OE aops aw dsoup dsoupM dalloc dallocM thn inBlk jsoup jch lsoup
open Go.H
def repL (l : Int) (n k : Nat) : List (List AV) := List.replicate k [iv l] ++ List.replicate (n - k) [iv 0]
theorem repL_len {l : Int} {n k : Nat} (h : k ≤ n) : (repL l n k).length = n := by simp [repL]; omega
theorem repL_one (l : Int) (n k : Nat) : ∀ r ∈ repL l n k, r.all AV.one = true := by
  intro r hr
  rcases List.mem_append.1 hr with h | h <;> rw [(List.mem_replicate.1 h).2] <;> rfl
theorem repL_0 (l : Int) (n : Nat) : ([[iv l]] : List (List AV)).take (min 1 n) ++ (List.replicate n [iv 0]).drop (min 1 n) = repL l n (min 1 n) := by
  cases n with
  | zero => rfl
  | succ n => simp [repL, List.replicate_succ]
theorem repL_len2 {l : Int} {n k m : Nat} (h : k ≤ n) (hm : m ≤ k) : ((((repL l n k).drop 0).take m).length : Int) = (m : Int) := by
  rw [List.drop_zero, List.length_take, repL_len h]; congr 1; omega
theorem repL_s {l : Int} {n k m : Nat} (h : k ≤ n) (hm : m ≤ k) (hm2 : m ≤ n - k) : (repL l n k).take k ++ (((repL l n k).drop 0).take m ++ (repL l n k).drop (k + (((repL l n k).drop 0).take m).length)) = repL l n (k + m) := by
  have e1 : (((repL l n k).drop 0).take m).length = m := by rw [List.drop_zero, List.length_take, repL_len h]; omega
  rw [e1, List.drop_zero]
  have e2 : (repL l n k).take k = List.replicate k [iv l] := by rw [repL, List.take_left' (by simp)]
  have e3 : (repL l n k).take m = List.replicate m [iv l] := by rw [repL, List.take_append_of_le_length (by simp; omega), List.take_replicate, Nat.min_eq_left hm]
  have e4 : (repL l n k).drop (k + m) = List.replicate (n - (k + m)) [iv 0] := by
    rw [repL, show k + m = (List.replicate k [iv l]).length + m by simp, List.drop_append, List.drop_replicate]; (try simp); (try omega)
  rw [e2, e3, e4, repL, ← List.append_assoc, List.replicate_append_replicate]
theorem tup_u {a b c d : Int} (h : a = c ∧ b = d) : AV.tup [.v (.int .u64 a), .v (.int .u64 b)] = AV.tup [.v (.int .u64 c), .v (.int .u64 d)] := by rw [h.1, h.2]
theorem mul64 (n : Nat) (hn : n < 1001) : ACall Tryz.prog 98 [.v (.int .u64 1), .v (.int .u64 n)] [] (fun r h' => h' = [] ∧ r = .tup [.v (.int .u64 0), .v (.int .u64 n)]) := by
  refine acall_of_aw Tryz.func98 rfl rfl rfl ?_
  refine rn ?_
  exact retq (.cons _ _ _ _ (.tmp _ _ rfl) (.cons _ _ _ _ (.tmp _ _ rfl) .nil)) (.refl _ _) ⟨rfl, tup_u (by revert n; decide +kernel)⟩
theorem mulW (n : Nat) (hn : n < 1001) : ACall Tryz.prog 78 [.v (.int .u64 1), .v (.int .u64 n)] [] (fun r h' => h' = [] ∧ r = .tup [.v (.int .u64 0), .v (.int .u64 n)]) := by
  refine acall_of_aw Tryz.func78 rfl rfl rfl ?_
  refine rn ?_
  refine aw_cf rfl ?_
  refine rn ?_
  refine qv rfl rfl (qv_call rfl rfl (pcall (mul64 n hn) (Sbs.refl _))) ?_
  refine rn ?_
  refine rq 0 ?_
  exact ⟨rfl, rfl⟩
theorem wrapU (n : Nat) (hn : n < 1001) : IntKind.u64.wrap (n : Int) = n := by revert n; decide +kernel
theorem wrapI (n : Nat) (hn : n < 1001) : IntKind.i64.wrap (n : Int) = n := by revert n; decide +kernel
set_option maxHeartbeats 4000000 in
theorem repeatI (l : Int) (n : Nat) (hn : n < 1001) : ACall Tryz.prog 61 [.list true 1 [[iv l]], iv n] [] (fun r h' => ∃ s : SV, h' = .row s.v 1 3 ((List.replicate n l).map intR) :: [] ∧ r = .v s.v) := by
  refine acall_of_aw Tryz.func61 rfl rfl rfl ?_
  refine rn ?_
  refine aw_cond rfl (fun hc10 => ?_) (fun hc10 => ?_)
  · exact absurd hc10 (by simp)
  · refine aw_skip ?_
    refine thn_n ?_
    refine aw_seq (aw_region ?_)
    refine q1 ?_
    refine q1 ?_
    refine qq rfl rfl (qr_convert (m := 1) rfl rfl) ?_
    refine q1 ?_
    refine qq rfl rfl (qr_convert (m := (n : Int)) rfl (wrapU n hn)) ?_
    refine qv rfl rfl (qv_call rfl rfl (pcall (mulW n hn) (Sbs.refl _))) ?_
    refine rn ?_
    refine aw_cond rfl (fun hc26 => ?_) (fun hc26 => ?_)
    · exact absurd hc26 (by simp; omega)
    · refine aw_skip ?_
      refine thn_n ?_
      refine aw_seq (aw_region ?_)
      refine q1 ?_
      refine qq rfl rfl (qr_convert (m := (n : Int)) rfl (wrapI n hn)) ?_
      refine aops_e rfl (oe_makeSlice rfl rfl rfl (by omega) (hk := fun b => ?_))
      refine aops_slice (.slice (some ⟨b, 0, none⟩) n n) fun sv hsv => ?_
      rw [hsv]
      clear hsv
      refine rn ?_
      refine aops_e rfl (oe_copy_ln (min 1 n) rfl rfl (by rw [List.length_replicate]; rfl) rfl (hk := ?_) (by intro r hr; rw [List.mem_singleton.1 hr]; rfl))
      rw [repL_0]
      refine rn ?_
      refine aw_while (fun k : Nat => k ≤ n ∧ (1 ≤ k ∨ n = 0)) (fun k => ⟨[(8, iv k), (7, .v sv.v)], .row sv.v 1 3 (repL l n k) :: [], []⟩) (fun k => n - k) (min 1 n) (by omega) es ?_
      rintro k ⟨hk, hk1⟩
      refine rn ?_
      refine aw_cond rfl (fun hc37 => ?_) (fun hc37 => ?_)
      · have hlt : k < n := by have q := of_decide_eq_true hc37; rw [repL_len hk] at q; omega
        refine aw_skip ?_
        refine rn0 ?_
        refine aw_block ?_
        refine aw_drawX 8 [7] [] (fun he => ∃ x : List (List AV), he = [.row sv.v 1 3 x] ∧ x.length = n) rfl rfl ⟨_, rfl, repL_len hk⟩ ?_
        refine jq rfl (fun he hC => by obtain ⟨x, rfl, hx⟩ := hC <;> exact qrA) ?_
        refine jq rfl (fun he hC => by obtain ⟨x, rfl, hx⟩ := hC <;> exact qrA) ?_
        refine jq rfl (fun he hC => by obtain ⟨x, rfl, hx⟩ := hC <;> exact qrA) ?_
        refine jq (av := .v (partV sv.v k n 1)) rfl (fun he hC => by obtain ⟨x, rfl, hx⟩ := hC <;> exact (by rw [← hx]; exact qr_part_l (l := k) rfl rfl (by rw [hx]; exact hk))) ?_
        refine jq rfl (fun he hC => by obtain ⟨x, rfl, hx⟩ := hC <;> exact qrA) ?_
        refine jq rfl (fun he hC => by obtain ⟨x, rfl, hx⟩ := hC <;> exact qrA) ?_
        refine jq rfl (fun he hC => by obtain ⟨x, rfl, hx⟩ := hC <;> exact (by exact qr_part_h (k := k) rfl rfl (by rw [hx]; exact hk))) ?_
        refine je rfl ?_
        refine jnil ?_
        refine jce rfl fun u => ?_
        refine oe_copy_pr (n := min k (n - k)) rfl rfl (by omega) (Nat.le_of_eq (repL_len hk).symm) (Nat.zero_le _) (by rw [repL_len hk]; exact hk) (by rfl) rfl (hk := ⟨_, _, rfl, ⟨_, rfl, by rw [repL_s hk (Nat.min_le_left _ _) (Nat.min_le_right _ _)]; exact repL_len (by omega)⟩, ?_⟩) (repL_one l n k)
        refine jcn ?_
        refine ln ?_
        rw [repL_len2 hk (Nat.min_le_left _ _)]
        refine qq rfl rfl (qr_ari rfl rfl rfl (by omega)) ?_
        refine rn ?_
        exact ⟨k + min k (n - k), ⟨by omega, by omega⟩, by rw [repL_s hk (Nat.min_le_left _ _) (Nat.min_le_right _ _)]; exact eA, by omega⟩
      · have hge : k = n := by have q := of_decide_eq_false hc37; rw [repL_len hk] at q; omega
        refine rn ?_
        exact retq (.cons _ _ _ _ (.tmp _ _ rfl) .nil) (.refl _ _) ⟨sv, by rw [hge, repL, Nat.sub_self, List.replicate_zero, List.append_nil, List.map_replicate]; rfl, rfl⟩
def farA (n : Nat) (f : Nat → Int) : List (List AV) := (List.range n).map fun v => [iv (f v)]
theorem farA_len (n : Nat) (f : Nat → Int) : (farA n f).length = n := by simp [farA]
theorem farA_at {n v : Nat} (f : Nat → Int) (h : v < n) : (farA n f)[v]? = some [iv (f v)] := by simp [farA, h]
theorem farA_set (n : Nat) (f : Nat → Int) (v : Nat) (x : Int) : (farA n f).set v [iv x] = farA n (updI f v x) := rng_set (fun x : Int => [iv x]) n f v x
theorem farA_0 (n : Nat) : (List.replicate n (-1 : Int)).map intR = farA n fun _ => -1 := by
  apply List.ext_getElem (by simp [farA])
  intro i h1 h2; simp [farA]; rfl
theorem farA_I (n : Nat) (f : Nat → Int) : farA n f = ((List.range n).map f).map intR := by unfold farA; rw [List.map_map]; rfl
theorem outW_t {E : Nat → Nat → Prop} {s k j : Nat} {wave : List Nat} (hj : j < wave.length) (h : ∀ v, v ∈ wave ↔ DistI E s v k) : updI (outW E s k (wave.take j)) wave[j] (k : Int) = outW E s k (wave.take (j + 1)) := by
  rw [outW_s ((h _).1 (List.getElem_mem hj)), List.take_succ_eq_append_getElem hj]
set_option maxHeartbeats 4000000 in
theorem pFar0 (F : Nat → List Nat) (n s : Nat) (fv : AV) (mb : Nat → Bool) (M : List Res) (hone : fv.cellsOf = some [fv]) (hs : s < n) (hn : n ≤ 300) (hF : linP F n) (hFl : ∀ u, (F u).length ≤ 40000) (hm : ∀ w : Nat, w < n → FCall Tryz.prog fv [iv (w : Int)] M (fun r h' => h' = M ∧ r = bv (mb w))) : ACall Tryz.prog 38 [.list false 1 (linesA n F), iv (s : Int), fv] M (fun r h' => ∃ so : SV, h' = .row so.v 1 3 (farA n (farI (ErM F mb) s)) :: M ∧ r = .v so.v) := by
  refine acall_of_aw Tryz.func38 rfl rfl rfl ?_
  refine rn ?_
  refine qv rfl rfl (qv_buildSlice rfl rfl) ?_
  refine q1 ?_
  refine qq rfl rfl (qr_as (qr_len_list rfl) (show iv _ = iv ((n : Nat) : Int) from congrArg iv (by rw [linesA_len]))) ?_
  refine aops_e rfl (oe_call rfl rfl (FCall.fr (h2 := M) (FCall.of_fun (repeatI (-1) n (by omega))) (.refl _)) rfl ?_)
  rintro _ _ ⟨_, rfl, so, rfl, rfl⟩
  simp only [List.cons_append, List.nil_append]
  rw [farA_0]
  refine aops_e rfl (oe_alloc rfl fun b7 => ?_)
  refine rn ?_
  refine aops_e rfl (oe_call rfl rfl (FCall.of_fun (pWaves F n s fv hone _)) rfl ?_)
  rintro _ _ ⟨bm, bs, bl, rfl, rfl⟩
  refine rn ?_
  rw [← outW_0 (ErM F mb) s]
  refine aw_ent (s' := ⟨[(19, .fn (.func 79) [] [.v (.pointer (some ⟨bs, 0, none⟩)), .v (.pointer (some ⟨bl, 0, none⟩)), .v (.pointer (some ⟨bm, 0, none⟩))]), (7, .v (.pointer (some ⟨b7, 0, none⟩)))], .box bm 71 [fv] :: .box bs 3 [iv (s : Int)] :: .box bl 46 [.list false 1 (linesA n F)] :: .box b7 30 [.v so.v] :: .row so.v 1 3 (farA n (outW (ErM F mb) s 0 [])) :: M, []⟩) es ?_
  refine aw_rf (fun pend h'' => pend = none ∧ h'' = .box bm 71 [fv] :: .box bs 3 [iv (s : Int)] :: .box bl 46 [.list false 1 (linesA n F)] :: .box b7 30 [.v so.v] :: .row so.v 1 3 (farA n (farI (ErM F mb) s)) :: M) rfl (fun fn l q lp hlp => ?_) (fun q h'' hK => ?_) (fun q h'' c hK => ?_)
  · suffices hy : ∀ (k : Nat) (wave : List Nat) (x : Unit), (∀ v, v ∈ wave ↔ DistI (ErM F mb) s v k) → RowN n wave → FCall Tryz.prog (yv l) [iv (k : Int), .list false 1 (wave.map natR)] (lp .ready none :: .defs q :: .box b7 30 [.v so.v] :: .row so.v 1 3 (farA n (outW (ErM F mb) s k [])) :: M) (fun r h' => ∃ x' : Unit, r = bv true ∧ h' = lp .ready none :: .defs q :: .box b7 30 [.v so.v] :: .row so.v 1 3 (farA n (outW (ErM F mb) s (k + 1) [])) :: M) by
      refine ACall.mono (ACall.perm ((pt2 _ _ _ _).trans (.cons _ ((pt2 _ _ _ _).trans (.cons _ (pt2 _ _ _ _))))) (pWaves1 F n s fv mb hs hn hF hFl (yv l) bm bs bl (fun k (_ : Unit) => lp .ready none :: .defs q :: .box b7 30 [.v so.v] :: .row so.v 1 3 (farA n (outW (ErM F mb) s k [])) :: M) () (fun w hw k x => FCall.qt (hm w hw) (List.perm_append_comm (l₁ := ([lp .ready none, .defs q, .box b7 30 [.v so.v], .row so.v 1 3 (farA n (outW (ErM F mb) s k []))] : List Res)))) hy)) ?_
      rintro _ _ ⟨k, _, hk, rfl⟩
      exact ⟨none, .ready, _, ((pt3 _ _ _ _ _).trans (.cons _ (pt3 _ _ _ _ _))), by simp, rfl, by rw [outW_end hk]⟩
    intro k wave x hwv hr
    refine fcall_yl hlp rfl rfl ?_
    refine rn ?_
    refine ⟨[(9, .list false 1 (wave.map natR)), (8, iv (k : Int)), (7, .v (.pointer (some ⟨b7, 0, none⟩)))], es, ?_⟩
    refine aw_block ?_
    refine aw_seq (aw_region ?_)
    refine q1 ?_
    refine qq rfl rfl (qr_as (qr_len_list rfl) (show iv _ = iv ((wave.length : Nat) : Int) from congrArg iv (by rw [List.length_map]))) ?_
    refine rn ?_
    rw [show outW (ErM F mb) s k [] = outW (ErM F mb) s k (wave.take 0) by rw [List.take_zero]]
    refine aw_range wave.length (fun _ => True) (fun j => ⟨[(24, iv j), (7, .v (.pointer (some ⟨b7, 0, none⟩))), (8, iv (k : Int)), (22, .list false 1 (wave.map natR)), (23, iv (wave.length : Nat))], lp .busy none :: .defs q :: .box b7 30 [.v so.v] :: .row so.v 1 3 (farA n (outW (ErM F mb) s k (wave.take j))) :: M, []⟩) trivial es ?_
    intro j lj _
    refine rn ?_
    refine aw_cond rfl (fun hc25 => ?_) (fun hc25 => ?_)
    · have hkj : j < wave.length := by have q := of_decide_eq_true hc25; omega
      have hvn := hr.2 _ (List.getElem_mem hkj)
      have hwl := nd_len hr.1 hr.2
      refine aw_skip ?_
      refine thn_n ?_
      refine aw_seq ?_
      refine aw_block ?_
      refine aw_seq (aw_region ?_)
      refine qq rfl rfl (qr_index_list (i := j) rfl rfl (natR_at hkj)) ?_
      refine q1 ?_
      refine q1 ?_
      refine aops_nil (thn_n ?_)
      refine aw_region ?_
      refine q1 ?_
      refine q1 ?_
      refine q1 ?_
      refine qq rfl rfl (qr_index_row (k := (wave[j])) rfl rfl (by rw [farA_len]; exact hvn)) ?_
      refine aops_e rfl (oe_store_rp (k := wave[j]) rfl rfl rfl (farA_at _ hvn) rfl (Nat.le_of_ble_eq_true rfl) ?_)
      rw [st1, farA_set, outW_t hkj hwv]
      refine rn ?_
      exact ⟨hkj, trivial, eA⟩
    · have qj : j = wave.length := by have q := of_decide_eq_false hc25; omega
      refine rn ?_
      exact round_n (.refl _) ⟨(), rfl, by rw [qj, List.take_length, outW_n hwv]⟩
  · obtain ⟨_, rfl⟩ := hK
    refine rn ?_
    exact retqd (.refl _) (.cons _ _ _ _ (.tmp _ _ rfl) .nil) (.drop [_, _, _, _] _ _) ⟨so, rfl, rfl⟩
  · obtain ⟨hc, _⟩ := hK
    exact absurd hc (by simp)
theorem pFar (F : Nat → List Nat) (n s : Nat) (fv : AV) (mb : Nat → Bool) (M : List Res) (hone : fv.cellsOf = some [fv]) (hs : s < n) (hn : n ≤ 300) (hF : linP F n) (hFl : ∀ u, (F u).length ≤ 40000) (hm : ∀ w : Nat, w < n → FCall Tryz.prog fv [iv (w : Int)] M (fun r h' => h' = M ∧ r = bv (mb w))) : ACall Tryz.prog 38 [.list false 1 (linesA n F), iv (s : Int), fv] M (fun r h' => h' = M ∧ r = .list false 1 (farA n (farI (ErM F mb) s))) :=
  ACall.ventE ((pFar0 F n s fv mb M hone hs hn hF hFl hm).mono fun r h' q => by
    obtain ⟨so, rfl, rfl⟩ := q
    exact ⟨_, _, vent_freeze, rfl, rfl⟩)
end Go.Proofs
/- The walks of path's check, all, Far. Conditions: none. -/
set_option linter.unusedVariables false
set_option linter.unusedSimpArgs false
set_option maxRecDepth 10000
namespace Go.Proofs
open Go Go.Ab
attribute [local irreducible] QR QV OE aops aw dsoup dsoupM dalloc dallocM thn inBlk jsoup jch lsoup
open Go.H
def nodeB (g : Gr) (v : Int) : Bool := decide (0 ≤ v) && decide (v < g.n)
def chkP (g : Gr) (l : List Int) : Int := if chkE g = 0 then (if l.all (nodeB g) = true then 0 else 2) else chkE g
theorem chkP_e {g : Gr} {l : List Int} (h : chkE g ≠ 0) : chkP g l = chkE g := if_neg h
theorem chkP_n {g : Gr} {l : List Int} (h : chkE g = 0) (hl : l.all (nodeB g) = false) : chkP g l = 2 := by rw [chkP, if_pos h, if_neg (by rw [hl]; decide)]
theorem chkP_0 {g : Gr} {l : List Int} (h : chkE g = 0) (hl : l.all (nodeB g) = true) : chkP g l = 0 := by rw [chkP, if_pos h, if_pos hl]
theorem chkP_ok {g : Gr} {l : List Int} (h : chkP g l = 0) : GOk g ∧ ∀ v ∈ l, ∃ u : Nat, v = (u : Int) ∧ u < nG g := by
  unfold chkP at h
  split at h
  · rename_i he
    have hok := chkE_0.1 he
    refine ⟨hok, fun v hv => ?_⟩
    split at h
    · rename_i hl
      have := List.all_eq_true.1 hl v hv
      unfold nodeB at this
      rw [Bool.and_eq_true, decide_eq_true_iff, decide_eq_true_iff] at this
      exact ⟨v.toNat, by omega, by unfold nG; omega⟩
    · cases h
  · rename_i he; exact absurd h he
theorem all_take {l : List Int} {p : Int → Bool} {k : Nat} (hk : k < l.length) (h : (l.take k).all p = true) (hp : p l[k] = true) : (l.take (k + 1)).all p = true := by
  rw [List.take_succ_eq_append_getElem hk, List.all_append, h]; simp [hp]
theorem all_fail {l : List Int} {p : Int → Bool} {k : Nat} (hk : k < l.length) (hp : p l[k] = false) : l.all p = false := by
  cases q : l.all p with
  | false => rfl
  | true => rw [List.all_eq_true.1 q _ (List.getElem_mem hk)] at hp; cases hp
theorem rowO_len {g : Gr} (h : GOk g) (u : Nat) : (rowO g u).length ≤ 40000 := Nat.le_trans (linF_len _ _ _) h.many
theorem rowN_len {g : Gr} (h : GOk g) (u : Nat) : (rowN g u).length ≤ 40000 := Nat.le_trans (linF_len _ _ _) h.many
theorem rowO_P {g : Gr} (h : GOk g) : linP (rowO g) (nG g) := fun u w q => (rowO_in h q).2
theorem rowN_P {g : Gr} (h : GOk g) : linP (rowN g) (nG g) := fun u w q => (rowO_in h ((rowN_O h).1 q)).1
theorem lef_eq {g : Gr} (h : GOk g) (m s : Nat) : farI (ErM (rowN g) fun w => decide (m ≤ w)) s = lefB (rowO g) m s := by
  unfold lefB
  congr 1
  funext u w
  unfold ErM ErB
  rw [rowN_O h, decide_eq_true_iff]
noncomputable def farF (g : Gr) (s : Nat) : Nat → Int := farI (ErM (rowO g) fun w => decide (0 ≤ w)) s
noncomputable def farO (g : Gr) (s : Int) : List (List AV) := if chkP g [s] = 0 then farA (nG g) (farF g s.toNat) else []
theorem lef_falls {g : Gr} (m s : Nat) : Falls (rowO g) (lefB (rowO g) m s) := er_falls (rowO g) m s
theorem lef_lt {g : Gr} (h : GOk g) {m s : Nat} (hs : s < nG g) (v : Nat) : lefB (rowO g) m s v < (nG g : Nat) := far_lt hs (fun u w q => (rowO_in h q.1).1) v
set_option maxHeartbeats 1000000 in
theorem pCheck {f : Bool} (g : Gr) (hb : g.es.length ≤ 4611686018427387904) (l : List Int) (hl : l.length ≤ 4611686018427387904) : ACall Tryz.prog 37 [.agg (grR g), .list f 1 (l.map intR)] [] (fun r h' => h' = [] ∧ r = iv (chkP g l)) := by
  refine acall_of_aw Tryz.func37 rfl rfl rfl ?_
  refine rn ?_
  refine aops_e rfl (oe_box rfl rfl rfl fun b2 => ?_)
  refine rn ?_
  refine qv rfl rfl (qv_call rfl rfl (pcall (grCheck g hb) (Sbs.refl _))) ?_
  refine rn ?_
  refine aw_cond rfl (fun hc11 => ?_) (fun hc11 => ?_)
  · have he : chkE g ≠ 0 := nzT hc11
    refine rn ?_
    refine rq 1 ?_
    exact ⟨rfl, congrArg iv (chkP_e he).symm⟩
  · have he : chkE g = 0 := nzF hc11
    refine rn ?_
    refine aw_range l.length (fun k => (l.take k).all (nodeB g) = true) (fun k => ⟨[(15, iv k), (2, .v (.pointer (some ⟨b2, 0, none⟩))), (13, .list f 1 (l.map intR)), (14, iv (l.map intR).length)], .box b2 24 (grR g) :: [], []⟩) rfl es ?_
    intro k lk zk
    refine rn ?_
    refine aw_cond rfl (fun hc16 => ?_) (fun hc16 => ?_)
    · have hk : k < l.length := by have q := of_decide_eq_true hc16; rw [List.length_map] at q; omega
      refine aw_skip ?_
      refine thn_n ?_
      refine aw_seq ?_
      refine aw_block ?_
      refine aw_seq (aw_region ?_)
      refine qq rfl rfl (qr_index_list (i := k) rfl rfl (atRow (f := intR) hk)) ?_
      refine rn ?_
      refine asplit (fun hg7_2 => ?_) (fun hg7_2 => ?_)
      · refine rn ?_
        refine aw_ct rfl ?_
        have hx : nodeB g l[k] = false := by unfold nodeB; first | (simp_all; done) | (simp_all; omega)
        refine rn ?_
        refine rq 1 ?_
        exact ⟨rfl, congrArg iv (chkP_n he (all_fail hk hx)).symm⟩
      · refine rn ?_
        refine aw_cond rfl (fun hc26 => ?_) (fun hc26 => ?_)
        · have hx : nodeB g l[k] = false := by unfold nodeB; first | (simp_all; done) | (simp_all; omega)
          refine rn ?_
          refine rq 1 ?_
          exact ⟨rfl, congrArg iv (chkP_n he (all_fail hk hx)).symm⟩
        · have hx : nodeB g l[k] = true := by unfold nodeB; first | (simp_all; done) | (simp_all; omega)
          refine rn ?_
          exact ⟨hk, all_take hk zk hx, eA⟩
    · have qk : k = l.length := by have q := of_decide_eq_false hc16; rw [List.length_map] at q; omega
      refine rn ?_
      refine rq 1 ?_
      exact ⟨rfl, congrArg iv (chkP_0 he (by rw [← zk, qk, List.take_length])).symm⟩
theorem pAll (w : Nat) : ACall Tryz.prog 40 [iv (w : Int)] [] (fun r h' => h' = [] ∧ r = bv (decide (0 ≤ w))) := by
  refine acall_of_aw Tryz.func40 rfl rfl rfl ?_
  refine rn ?_
  refine rq 0 ?_
  exact ⟨rfl, congrArg bv (decide_eq_true (Nat.zero_le w)).symm⟩
set_option maxHeartbeats 1000000 in
theorem pFarX (g : Gr) (hb : g.es.length ≤ 4611686018427387904) (s : Int) : ACall Tryz.prog 12 [.agg (grR g), iv s] [] (fun r h' => h' = [] ∧ r = .tup [.list false 1 (farO g s), iv (chkP g [s])]) := by
  refine acall_of_aw Tryz.func12 rfl rfl rfl ?_
  refine rn ?_
  refine aops_e rfl (oe_box rfl rfl rfl fun b2 => ?_)
  refine rn ?_
  refine qv rfl rfl (qv_buildSlice rfl rfl) ?_
  refine qv rfl rfl (qv_call rfl rfl (FCall.pure (R := fun z => z = iv (chkP g [s])) (FCall.of_fun (pCheck (f := true) g hb [s] (by simp only [List.length_cons, List.length_nil]; omega))))) ?_
  refine rn ?_
  refine aw_cond rfl (fun hc12 => ?_) (fun hc12 => ?_)
  · have he : chkP g [s] ≠ 0 := nzT hc12
    refine rn ?_
    exact retq (.cons _ _ _ _ (.tmp _ _ rfl) (.cons _ _ _ _ (.tmp _ _ rfl) .nil)) (.trans (.drop [_] _ _) (.le (Sb.tups (aS := [.v (.slice none 0 0), _]) (bs := [.list false 1 [], _]) ⟨.nil _ _, .refl _, trivial⟩).le)) ⟨rfl, by rw [farO, if_neg he]⟩
  · have he : chkP g [s] = 0 := nzF hc12
    obtain ⟨hok, hv⟩ := chkP_ok he
    have hn0 := hok.n0
    have hn1 := hok.n1
    have hmany := hok.many
    have hng : nG g ≤ 300 := by unfold nG; omega
    have hnn : ((nG g : Nat) : Int) = g.n := by unfold nG; omega
    obtain ⟨u, rfl, hu⟩ := hv s (by simp)
    refine rn ?_
    refine qv rfl rfl (qv_call rfl rfl (FCall.pure (R := fun z => z = .list false 1 (linesA (nG g) (linF true g.es))) (FCall.of_fun (pLines g hok true)))) ?_
    refine rn ?_
    refine qv rfl rfl (qv_call rfl rfl (FCall.pure (R := fun z => z = .list false 1 (farA (nG g) (farI (ErM (rowO g) (fun w => decide (0 ≤ w))) u))) (FCall.of_fun (pFar (rowO g) (nG g) u (.fn (.func 40) [] []) (fun w => decide (0 ≤ w)) [] rfl hu hng (rowO_P hok) (rowO_len hok) (fun w _ => FCall.of_fun (pAll w)))))) ?_
    refine rn ?_
    exact retq (.cons _ _ _ _ (.tmp _ _ rfl) (.cons _ _ _ _ (.tmp _ _ rfl) .nil)) (.drop [_] _ _) ⟨rfl, by rw [farO, if_pos he, he, Int.toNat_natCast]; rfl⟩
end Go.Proofs
/- A row of one's own without the room behind it, aS a step of what is known. Conditions: none (rules over any program). -/
set_option linter.unusedVariables false
namespace Go.Ab
open Go
end Go.Ab
/- Rows made with room to spare; append of zeros onto nil; slices with three bounds; clear. Conditions: none (rules over any program). -/
set_option linter.unusedVariables false
set_option linter.unusedSimpArgs false
namespace Go.Ab
open Go
theorem zero_at {zv : Array Value} {n i j sz : Nat} (hs : zv.size = sz) (hi : i < n) (hj : j < zv.size) : (Builtin.zeroCells zv n)[i * sz + j]? = some zv[j] := by
  subst hs
  have h1 : (i + 1) * zv.size ≤ n * zv.size := Nat.mul_le_mul_right _ hi
  rw [Nat.add_mul] at h1
  have hlt : i * zv.size + j < n * zv.size := by omega
  have hm : (i * zv.size + j) % zv.size = j := by rw [Nat.mul_comm, Nat.mul_add_mod, Nat.mod_eq_of_lt hj]
  simp [Builtin.zeroCells, hlt, hm, hj]
section
variable {P : Program} {ro : Option Nat} {nt : Nat} {h : List Res} {f : Operand → Option AV} {dst : Option Tmp} {ty : TypeId} {pos : String} {after : Array Edge} {guard : Option (Nat × Bool)} {x y z u : Operand} {t : Fr} {ds : List Nat} {next : St → Prop}
/-- The room of a nil slice. -/
theorem qr_cap_nil {T E : TypeId} (hx : f x = some (.v (.slice none 0 0))) [hu : Und P T (.slice E)] : QR P h f ⟨dst, .call ⟨.builtin .cap, [x].toArray, [T].toArray⟩, ty, pos, after, guard⟩ (.v (.int .i64 0)) := fun X ρ w he => by
  refine ⟨_, ?_, .v _⟩
  have hv := (he.rel x _ hx).v_eq
  simp only [execOp, resolve, List.map_toArray, List.map_cons, List.map_nil, Sem.run_bind, Sem.run_pure, Result.andThen_ok, invoke, builtin, Builtin.cap_, List.getElem?_toArray, List.getElem?_cons_zero, run_underlying (d := TypeDesc.slice E), hv]
  rfl
/-- A nil slice, none of it. -/
theorem qr_slice_nil {T E : TypeId} {sz : Nat} (hx : f x = some (.v (.slice none 0 0))) (hy : f y = some (.v (.int .i64 0))) [hu : Und P T (.slice E)] [Siz P E sz] : QR P h f ⟨dst, .slice T x none (some y) none, ty, pos, after, guard⟩ (.v (.slice none 0 0)) := fun X ρ w he => by
  obtain ⟨e1, e2⟩ := und_elem (P := P) (T := T) (E := E)
  refine ⟨.slice none 0 0, run_v _ ?_, .v _⟩
  simp only [Option.map_none, Option.map_some]
  rw [run_sliceAt_slice w T _ _ _ _ e2, (he.rel x _ hx).v_eq, (he.rel y _ hy).v_eq, run_slice_h w T none 0 0 e2 .i64 0 (by omega) (by omega), e1]
  simp only [run_sizeOf (n := sz), Result.andThen_ok, Int.toNat_natCast]
  rfl
/-- So many zeros behind a nil slice that is a row of ours. -/
theorem oe_append_zeros {T T2 E bytes sz i n : Nat} {zv : Value} {h' : Value → List Res} {d : Tmp} (hx : ev t x = some (.v (.slice none 0 0))) (hy : ev t y = some (.v (.int .i64 n))) [hrow : HasRow h (.slice none 0 0) i sz E []]
    [Und P T (.slice E)] [Und P T2 (.int .i64)] [Siz P E sz] [hby : Byt P E bytes] [hz : ZerV P E zv] (hn0 : 0 < n) (hn : n ≤ 549755813888) (hd : dok nt (some d) = true) [hset : ∀ s', SetAt h i (.row s' sz E (List.replicate n (zv.cells.toList.map AV.v))) (h' s')]
    (hk : ∀ s', next ⟨(d, .v s') :: t, h' s', ds⟩) (hb : bytes ≤ 128 := by decide) (hzs : zv.cells.size = sz := by rfl) :
    OE P ro nt ⟨some d, .call ⟨.builtin .append, [x, y].toArray, [T, T2].toArray⟩, ty, pos, after, guard⟩ ⟨t, h, ds⟩ next := by
  intro X a w K Q hs hK
  have ex := (hs.env.rel x _ hx).v_eq
  have ey := (hs.env.rel y _ hy).v_eq
  have hbi := hby.h
  cases hi : P.info? E with
  | none => simp [hi] at hbi
  | some inf =>
    simp [hi] at hbi
    have hwn : IntKind.i64.wrap (n : Int) = n := IntWalk.i64_in _ ⟨by omega, by omega⟩
    have hmul : n * inf.bytes ≤ 549755813888 * 128 := Nat.mul_le_mul hn (by omega)
    have hl2 : ¬ ((n : Int) * (inf.bytes : Int) > 2 ^ 48) := by
      rw [← Int.natCast_mul]
      generalize n * inf.bytes = m at hmul ⊢
      omega
    have hnext : ¬ (Builtin.nextslicecap (0 + n) 0 * inf.bytes > 2 ^ 48) := by
      have h1 := nextslicecap_le (need := 0 + n) (old := 0) (by omega)
      have h2 : Builtin.nextslicecap (0 + n) 0 * inf.bytes ≤ (2 * (0 + n)) * inf.bytes := Nat.mul_le_mul_right _ h1
      simp only [Nat.zero_add] at h2 ⊢
      rw [Nat.mul_assoc] at h2
      generalize n * inf.bytes = m at hmul h2
      omega
    obtain ⟨q, hq⟩ : ∃ q, q = Question.cut (.appendCap (0 + n) 0 E) (w.tape w.drawn (.appendCap (0 + n) 0 E)) := ⟨_, rfl⟩
    have hcut : n ≤ q := by rw [hq]; simp only [Question.cut]; omega
    let c2 : Array Value := if n * sz = 0 then #[] else Builtin.zeroCells zv.cells n
    have s2 : c2.size = n * sz := by
      simp only [c2]; split
      · rename_i h0; rw [h0]; rfl
      · simp [Builtin.zeroCells, hzs]
    let rest : Array Value := Builtin.zeroCells zv.cells (q - n)
    have hsub : (Builtin.append_ [T, T2].toArray ty [.slice none 0 0, .int .i64 (n : Int)].toArray).run P w = .ok (.slice (some ⟨w.heap.size, 0, none⟩) n q) { w with heap := w.heap.push (.cells (c2 ++ rest) E (0, 0)), drawn := w.drawn + 1 } := by
      have hai : ∀ (w : World), (asInt (.int .i64 (n : Int))).run P w = .ok (n : Int) w := fun w => rfl
      simp only [Builtin.append_, List.getElem?_toArray, List.getElem?_cons_zero, List.getElem?_cons_succ, Sem.run_bind, run_underlying (d := TypeDesc.slice E), run_underlying (d := TypeDesc.int .i64), run_sizeOf (n := sz), Result.andThen_ok, Sem.run_pure, if_true, hai, hwn]
      rw [if_neg (by omega)]
      simp only [Sem.run_bind, run_typeInfo hi, Result.andThen_ok]
      rw [if_neg hl2]
      simp only [Sem.run_bind, Sem.run_pure, Result.andThen_ok, Int.toNat_natCast]
      rw [if_neg (by omega)]
      simp only [Sem.run_bind, run_typeInfo hi, Result.andThen_ok]
      rw [if_neg (by simp [IntKind.max_i64]; omega)]
      simp only [Sem.run_bind, run_typeInfo hi, Result.andThen_ok]
      rw [if_neg hnext]
      simp only [Sem.run_bind, run_choose, Question.forced, Bool.false_eq_true, if_false, Result.andThen_ok, run_askRoom, run_typeInfo hi, ← hq]
      simp only [Builtin.firstCells, Sem.run_pure, Result.andThen_ok, Bool.not_true, Bool.false_eq_true, if_false]
      by_cases h0 : n * sz = 0
      · simp [h0, newRow, run_newObj, run_zeroValue hz.h, c2, rest]; rfl
      · simp [h0, newRow, run_newObj, run_zeroValue hz.h, c2, rest]; rfl
    have hrun : (execOp a.eval ⟨some d, .call ⟨.builtin .append, [x, y].toArray, [T, T2].toArray⟩, ty, pos, after, guard⟩).run P w = ((Builtin.append_ [T, T2].toArray ty [.slice none 0 0, .int .i64 (n : Int)].toArray).run P w).andThen fun v w => .ok (.value v) w := by
      simp only [execOp, resolve, List.map_toArray, List.map_cons, List.map_nil, Sem.run_bind, Sem.run_pure, Result.andThen_ok, invoke, builtin, ex, ey]
    refine ⟨about_true, ?_⟩
    rw [semAt_nd rfl, hrun, hsub]
    simp only [Result.andThen_ok, Oper.uponIn]
    have hy' := HRel.renew (o := .cells (c2 ++ rest) E (0, 0)) (dr := w.drawn + 1) (y := .row (.slice (some ⟨w.heap.size, 0, none⟩) n q) sz E (List.replicate n (zv.cells.toList.map AV.v))) hs.heap hrow.h rfl (fun hkk => by
      refine ⟨rfl, by simp, hcut, fun i hi => by simp [hzs], c2 ++ rest, by simp, ?_, fun i hi j hj => ?_⟩
      · simp only [Array.size_append, s2, rest, Builtin.zeroCells, Array.size_map, Array.size_range, hzs, Nat.zero_add]
        rw [← Nat.add_mul]; exact Nat.mul_le_mul_right _ (by omega)
      · have hi' : i < n := by simpa using hi
        have hj' : j < sz := by simpa [hzs] using hj
        have h0 : ¬ n * sz = 0 := fun h0 => by rcases Nat.mul_eq_zero.1 h0 with h | h <;> omega
        have hz2 := zero_at (zv := zv.cells) (n := n) (i := i) (j := j) hzs hi' (by omega)
        have hlt : i * sz + j < c2.size := by
          rw [s2]
          have : (i + 1) * sz ≤ n * sz := Nat.mul_le_mul_right _ hi'
          rw [Nat.add_mul] at this; omega
        refine ⟨zv.cells[j]'(by omega), ?_, ?_⟩
        · rw [Nat.zero_add, Array.getElem?_append_left hlt]
          simp only [c2, h0, if_false]; exact hz2
        · simp only [List.getElem_replicate, List.getElem_map, Array.getElem_toList]; exact .v _)
    obtain ⟨q1, q2, q3⟩ := hy'
    have hh' := (hset (.slice (some ⟨w.heap.size, 0, none⟩) n q)).h
    refine hK _ _ _ (hk (.slice (some ⟨w.heap.size, 0, none⟩) n q)) ?_ (by rw [← hh']; exact q2)
    have hsim : Sim X nt ⟨t, h' (.slice (some ⟨w.heap.size, 0, none⟩) n q), ds⟩ a _ := ⟨by rw [← hh']; exact q1, hs.size, by rw [← hh']; exact hs.fr.keep (by simp) q3, hs.defs⟩
    exact hsim.put (av := .v _) hd (.v _)
/-- clear, of the end of a row of ours. -/
theorem oe_clear_part {T E bytes sz i d : Nat} {zv : Value} {s : Value} {rows : List (List AV)} {t : Fr} {h h' : List Res} {ds : List Nat} {next : St → Prop} (hx : ev t x = some (.v (partV s d rows.length sz))) [hrow : HasRow h s i sz E rows]
    [Und P T (.slice E)] [Siz P E sz] [hz : ZerV P E zv] (hdh : d ≤ rows.length) [hset : SetAt h i (.row s sz E (rows.take d ++ List.replicate (rows.length - d) (zv.cells.toList.map AV.v))) h'] (hk : next ⟨t, h', ds⟩) (hzs : zv.cells.size = sz := by rfl) (hzo : (zv.cells.toList.map AV.v).all AV.one = true := by rfl) :
    OE P ro nt ⟨none, .call ⟨.builtin .clear, [x].toArray, [T].toArray⟩, ty, pos, after, guard⟩ ⟨t, h, ds⟩ next := by
  obtain ⟨ys, hys⟩ : ∃ ys : List (List AV), ys = List.replicate (rows.length - d) (zv.cells.toList.map AV.v) := ⟨_, rfl⟩
  obtain ⟨hi, hhi0⟩ : ∃ hi, hi = rows.length := ⟨_, rfl⟩
  have hyl : ys.length = hi - d := by rw [hys, List.length_replicate, hhi0]
  have hset : SetAt h i (.row s sz E (rows.take d ++ (ys ++ rows.drop (d + ys.length)))) h' := by
    rw [hyl, List.drop_eq_nil_of_le (by omega), List.append_nil, hys]; exact hset
  rw [← hhi0] at hx
  have hhi : hi ≤ rows.length := by omega
  have hone : ∀ r ∈ ys, r.all AV.one = true := by rw [hys]; intro r hr; rw [(List.mem_replicate.1 hr).2]; exact hzo
  intro X a w K Q hs hK
  have ex := (hs.env.rel x _ hx).v_eq
  have hx0 := hs.heap.holds _ (List.mem_of_getElem? hrow.h)
  obtain ⟨ax, cap, es, hcap, hsz, _⟩ := row_list hs.heap hrow.h
  obtain ⟨c2, hc2⟩ : ∃ c2, c2 = Builtin.zeroCells zv.cells (hi - d) := ⟨_, rfl⟩
  have s2 : c2.size = ys.length * sz := by rw [hc2, hyl]; simp [Builtin.zeroCells, hzs]
  have hlx2 : ∀ i (hi : i < ys.length), ys[i].length = sz := fun i hi => by
    have hm := List.getElem_mem hi
    have : ∀ r ∈ ys, r.length = sz := by rw [hys]; intro r hr; rw [(List.mem_replicate.1 hr).2]; simpa using hzs
    exact this _ hm
  have g2 : ∀ i (hi : i < ys.length) j (hj : j < ys[i].length), ∃ u, c2[i * sz + j]? = some u ∧ Rel w (OO h X) ys[i][j] u := fun i hi j hj => by
    have hj' : j < sz := by rw [← hlx2 i hi]; exact hj
    have e1 : ys[i] = zv.cells.toList.map AV.v := by
      have hm := List.getElem_mem hi
      have : ∀ r ∈ ys, r = zv.cells.toList.map AV.v := by rw [hys]; intro r hr; exact (List.mem_replicate.1 hr).2
      exact this _ hm
    refine ⟨zv.cells[j]'(by omega), by rw [hc2]; exact zero_at hzs (by omega) (by omega), ?_⟩
    simp only [e1, List.getElem_map, Array.getElem_toList]; exact .v _
  have hcnt : d + ys.length ≤ hi := by omega
  have hrun : (execOp a.eval ⟨none, .call ⟨.builtin .clear, [x].toArray, [T].toArray⟩, ty, pos, after, guard⟩).run P w = ((Builtin.clear_ [T].toArray ty [partV s d hi sz].toArray).run P w).andThen fun v w => .ok (.value v) w := by
    simp only [execOp, resolve, List.map_toArray, List.map_cons, List.map_nil, Sem.run_bind, Sem.run_pure, Result.andThen_ok, invoke, builtin, ex]
  refine ⟨about_true, ?_⟩
  rw [semAt_nd rfl, hrun]
  have hsub0 : ∀ q c, (Builtin.clear_ [T].toArray ty [.slice q 0 c].toArray).run P w = .ok (.tuple #[]) w := by
    intro q c
    cases q <;> simp only [Builtin.clear_, List.getElem?_toArray, List.getElem?_cons_zero, Sem.run_bind, run_underlying (d := TypeDesc.slice E), Result.andThen_ok, Sem.run_pure]
  have hsub : ∀ (q : Addr) c, 0 < hi - d → (Builtin.clear_ [T].toArray ty [.slice (some q) (hi - d) c].toArray).run P w = ((storeCells q c2.toList).run P w).andThen fun _ w => .ok (.tuple #[]) w := by
    intro q c hpos
    obtain ⟨m, hm⟩ : ∃ m, hi - d = m + 1 := ⟨hi - d - 1, by omega⟩
    rw [hc2, hm]
    simp only [Builtin.clear_, List.getElem?_toArray, List.getElem?_cons_zero, Sem.run_bind, run_underlying (d := TypeDesc.slice E), Result.andThen_ok, Sem.run_pure, run_zeroValue hz.h]
  by_cases h0 : ys.length = 0
  · obtain rfl : ys = [] := List.eq_nil_of_length_eq_zero h0
    have he : h' = h := by
      rw [← hset.h]
      obtain ⟨hlt, e⟩ := List.getElem?_eq_some_iff.1 hrow.h
      rw [List.nil_append, List.length_nil, Nat.add_zero, List.take_append_drop, ← e, List.set_getElem_self]
    rw [es]
    simp only [partV, sliced]
    rw [show hi - d = 0 by omega, hsub0]
    simp only [Result.andThen_ok, Oper.uponIn]
    refine hK _ _ _ hk ?_ (by rw [he]; exact .refl _ _)
    have hsim : Sim X nt ⟨t, h', ds⟩ a w := by rw [he]; exact hs
    exact hsim
  · cases ax with
    | none =>
      rw [es] at hx0
      obtain ⟨q0, _⟩ := hx0
      rw [q0] at hhi
      simp only [List.length_nil] at hhi
      omega
    | some addr =>
    rw [es] at hx0
    obtain ⟨m1, _, m3, m4, c0, m5, m6, m7⟩ := hx0
    obtain ⟨b, off, spot⟩ := addr
    simp only at m1 m5 m6 m7
    subst m1
    have ep : partV s d hi sz = .slice (some ⟨b, off + d * sz, none⟩) (hi - d) (cap - d) := by
      rw [es]; simp only [partV, sliced]; rw [if_neg (by omega)]; simp only [Option.map_some, add_none]
    have hcs : ∀ v ∈ c2.toList, v.oneCell' = true := by
      intro v hv
      obtain ⟨k, hk1, hk2⟩ := List.mem_iff_getElem.1 hv
      have hk3 : k < ys.length * sz := by rw [← s2]; simpa using hk1
      have hsz0 : 0 < sz := by
        rcases Nat.eq_zero_or_pos sz with h | h
        · subst h; simp at hk3
        · exact h
      have hi : k / sz < ys.length := (Nat.div_lt_iff_lt_mul hsz0).2 hk3
      have hj : k % sz < ys[k / sz].length := by rw [hlx2 _ hi]; exact Nat.mod_lt _ hsz0
      obtain ⟨u, e, r⟩ := g2 _ hi _ hj
      have ek : k / sz * sz + k % sz = k := by have := Nat.div_add_mod k sz; rw [Nat.mul_comm] at this; exact this
      rw [ek] at e
      have : u = v := by
        have h2 : c2[k]? = some v := by rw [← hk2]; simp [show k < c2.size by rw [s2]; exact hk3]
        exact Option.some.inj (e.symm.trans h2)
      subst this
      exact r.one (List.all_eq_true.1 (hone _ (List.getElem_mem hi)) _ (List.getElem_mem hj))
    have hmul : (d + ys.length) * sz ≤ cap * sz := Nat.mul_le_mul_right _ (by omega)
    rw [Nat.add_mul] at hmul
    obtain ⟨w', f1, f2, f3, c', f4, f5, f6, ev⟩ := run_storeCells (P := P) c2.toList (off + d * sz) 0 w c0 hcs m5 (by simp [s2]; omega)
    rw [ep, hsub _ _ (by omega)]
    rw [f1]
    simp only [Result.andThen_ok, Oper.uponIn]
    have hbown : b ∈ (Res.row s sz E rows).own := by rw [es]; simp [Res.own]
    have hkk : ∀ b', ¬ OO h X b' → b' < w.heap.size → w'.heap[b']? = w.heap[b']? ∧ ¬ OO h X b' := fun b' hb' _ => ⟨f3 b' (fun he => hb' (.inl (mem_owns.2 ⟨_, List.mem_of_getElem? hrow.h, he ▸ hbown⟩))), hb'⟩
    have hoth : ∀ b', b' < w.heap.size → b' ∉ (Res.row s sz E rows).own → w'.heap[b']? = w.heap[b']? := fun b' _ hne => f3 b' fun he => hne (he ▸ hbown)
    have hown : (Res.row s sz E (rows.take d ++ (ys ++ rows.drop (d + ys.length)))).own = (Res.row s sz E rows).own := by rw [es]; rfl
    have hlen : (rows.take d ++ (ys ++ rows.drop (d + ys.length))).length = rows.length := by simp; omega
    have hlow : ∀ k (hk : k < (rows.take d ++ (ys ++ rows.drop (d + ys.length))).length) (h : k < d ∨ d + ys.length ≤ k), (rows.take d ++ (ys ++ rows.drop (d + ys.length)))[k] = rows[k]'(by omega) := fun k hk h => by
      rcases h with h | h
      · rw [List.getElem_append_left (by simp; omega)]; simp
      · rw [List.getElem_append_right (by simp; omega), List.getElem_append_right (by simp; omega), List.getElem_drop]; congr 1; simp; omega
    have hmid : ∀ k (hk : k < (rows.take d ++ (ys ++ rows.drop (d + ys.length))).length) (h1 : d ≤ k) (h2 : k < d + ys.length), (rows.take d ++ (ys ++ rows.drop (d + ys.length)))[k] = ys[k - d]'(by omega) := fun k hk h1 h2 => by
      rw [List.getElem_append_right (by simp; omega), List.getElem_append_left (by simp; omega)]; congr 1; simp; omega
    have hholds : (Res.row s sz E (rows.take d ++ (ys ++ rows.drop (d + ys.length)))).holds w' (OO h X) := by
      rw [es]
      refine ⟨rfl, hlen.symm, hcap, fun k hk => ?_, c', f4, by rw [f5]; exact m6, fun k hk j hj => ?_⟩
      · by_cases h : d ≤ k ∧ k < d + ys.length
        · rw [hmid k hk h.1 h.2]; exact hlx2 _ (by omega)
        · rw [hlow k hk (by omega)]; exact hsz _ (by omega)
      · have hk' : k < rows.length := by rw [← hlen]; exact hk
        by_cases h : d ≤ k ∧ k < d + ys.length
        · simp only [hmid k hk h.1 h.2] at hj ⊢
          obtain ⟨u, e, r⟩ := g2 (k - d) (by omega) j hj
          have hj' : j < sz := by rw [← hlx2 (k - d) (by omega)]; exact hj
          have q1 : (k - d + 1) * sz ≤ ys.length * sz := Nat.mul_le_mul_right _ (by omega)
          rw [Nat.add_mul] at q1
          have q2 : k * sz = d * sz + (k - d) * sz := by rw [← Nat.add_mul]; congr 1; omega
          refine ⟨u, ?_, r.keep (by omega) hkk⟩
          show c'[off + k * sz + j]? = some u
          rw [f6, if_pos (by simp; omega), show off + k * sz + j - (off + d * sz + 0) = (k - d) * sz + j by omega]
          simpa using e
        · simp only [hlow k hk (by omega)] at hj ⊢
          obtain ⟨u, e, r⟩ := m7 k hk' j hj
          have hj' : j < sz := by rw [← hsz k hk']; exact hj
          refine ⟨u, ?_, r.keep (by omega) hkk⟩
          show c'[off + k * sz + j]? = some u
          rw [f6, if_neg ?_]
          · exact e
          · simp only [Array.length_toList, s2]
            rcases Nat.lt_or_ge k d with q | q
            · have : (k + 1) * sz ≤ d * sz := Nat.mul_le_mul_right _ q
              rw [Nat.add_mul] at this; omega
            · have : (d + ys.length) * sz ≤ k * sz := Nat.mul_le_mul_right _ (by omega)
              rw [Nat.add_mul] at this; omega
    refine hK _ _ _ hk ?_ (by rw [← hset.h]; exact Keep.set hrow.h hown (by omega) hoth ev)
    have hO : OO h' X = OO h X := by funext b'; rw [← hset.h]; simp only [OO, owns_set hrow.h hown]
    have hsim : Sim X nt ⟨t, h', ds⟩ a w' := ⟨by rw [← hset.h]; exact hs.heap.set hrow.h hown (by omega) hoth hholds, hs.size, by rw [hO]; exact hs.fr.keep (by omega) hkk, hs.defs⟩
    exact hsim
theorem qr_quo {T T' : TypeId} {a b c : Int} (hx : f x = some (.v (.int .i64 a))) (hy : f y = some (.v (.int .i64 b))) (hb : b ≠ 0) (hc : a.tdiv b = c) (hr : -9223372036854775808 ≤ c ∧ c ≤ 9223372036854775807) :
    QR P h f ⟨dst, .binOp .quo T x y T', ty, pos, after, guard⟩ (.v (.int .i64 c)) := fun X ρ w he => by
  refine ⟨_, run_v _ ?_, .v _⟩
  rw [(he.rel x _ hx).v_eq, (he.rel y _ hy).v_eq, run_binop_int]
  simp [binOp, Op.intDiv, hb, hc, IntWalk.i64_in _ hr]
end
end Go.Ab
/- A region that draws its order, with two new boxes among it and a store into the first. Conditions: the program draws freely ('mixedOrders'). -/
set_option linter.unusedVariables false
set_option linter.unusedSimpArgs false
namespace Go.Ab
open Go
abbrev bp (b : Nat) : AV := .v (.pointer (some ⟨b, 0, none⟩))
end Go.Ab
/- What an operation leads to may be put in another order. Conditions: none (rules over any program). -/
set_option linter.unusedVariables false
namespace Go.Ab
open Go
end Go.Ab
/- A region that draws its order: a chain of operations, and beside it one new box that is stored into behind them, and one operation more that reads no memory. Conditions: the program draws freely ('mixedOrders'). -/
set_option linter.unusedVariables false
set_option linter.unusedSimpArgs false
namespace Go.Ab
open Go
section
variable {P : Program} {ro : Option Nat} {nt : Nat} {l : List Oper} {dsl : List Nat} {C0 : List Res → Prop} {E tt : Fr}
end
end Go.Ab
/- The walks of path's down, Shortest. Conditions: none. -/
set_option linter.unusedVariables false
set_option linter.unusedSimpArgs false
set_option maxRecDepth 10000
namespace Go.Proofs
open Go Go.Ab
attribute [local irreducible] QR QV OE aops aw dsoup dsoupM dalloc dallocM thn inBlk jsoup jch lsoup
open Go.H
theorem natR_J (C : List Nat) : C.map natR = (rowI C).map intR := by
  unfold rowI; rw [List.map_map]; rfl
theorem rowI_ln (C : List Nat) : (rowI C).length = C.length := by unfold rowI; rw [List.length_map]
theorem fidx_find {p : Nat → Bool} {q : Int → Bool} {w : Nat} : ∀ {L : List Nat}, (∀ x ∈ L, q (x : Int) = p x) → L.find? p = some w → ∀ i : Nat, ∃ j, ∃ hj : j < L.length, fidx q i (rowI L) = ((i + j : Nat) : Int) ∧ L[j] = w
  | [], _, h, _ => by cases h
  | a :: r, hq, h, i => by
    have e : rowI (a :: r) = (a : Int) :: rowI r := rfl
    rw [e, fidx, hq a (by simp)]
    rw [List.find?_cons] at h
    cases hp : p a with
    | true =>
      rw [hp] at h
      injection h with h
      exact ⟨0, Nat.succ_pos _, by rw [if_pos rfl]; rfl, h⟩
    | false =>
      rw [hp] at h
      obtain ⟨j, hj, h1, h2⟩ := fidx_find (L := r) (fun x hx => hq x (by simp [hx])) h (i + 1)
      exact ⟨j + 1, Nat.succ_lt_succ hj, by rw [if_neg (by decide), h1]; congr 1; omega, h2⟩
noncomputable def shoE (g : Gr) (s t : Int) : Int := if chkP g [s, t] = 0 then (if lefB (rowO g) 0 t.toNat s.toNat < 0 then 4 else 0) else chkP g [s, t]
noncomputable def shoL (g : Gr) (s t : Int) : List Nat := if chkP g [s, t] = 0 then (if lefB (rowO g) 0 t.toNat s.toNat < 0 then [] else downL (rowO g) (lefB (rowO g) 0 t.toNat) s.toNat (lefB (rowO g) 0 t.toNat s.toNat).toNat) else []
theorem lef_b {g : Gr} (h : GOk g) {m s : Nat} (hs : s < nG g) (v : Nat) : -1 ≤ lefB (rowO g) m s v ∧ lefB (rowO g) m s v ≤ 300 := by
  have h1 := lef_lt h (m := m) hs v
  have h2 := h.n1
  exact ⟨farI_ge _ _ _, by unfold nG at h1; omega⟩
theorem indexFuncInt {full : Bool} (l : List Int) (fv : AV) (p : Int → Bool) (G : List Res) (hp : ∀ a ∈ l, FCall Tryz.prog fv [iv a] G (fun r h' => h' = G ∧ r = bv (p a))) (hlen : l.length ≤ 4611686018427387904) : ACall Tryz.prog 63 [.list full 1 (l.map intR), fv] G (fun r h' => h' = G ∧ r = iv (fidx p 0 l)) := by
  refine acall_of_aw Tryz.func63 rfl rfl rfl ?_
  refine rn ?_
  refine aw_loop' (fun k : Nat => k ≤ l.length ∧ fidx p 0 l = fidx p k (l.drop k)) (fun k => ⟨[(8, iv k), (7, iv (l.map intR).length), (0, .list full 1 (l.map intR)), (1, fv)], G, []⟩) (fun k => l.length - k) 0 ⟨Nat.zero_le _, by simp⟩
    (ent_sub (.cons _ _ _ rfl (.cons _ _ _ rfl (.cons _ _ _ rfl (.cons _ _ _ rfl (.nil)))))) ?_
  rintro k ⟨hk, hnot⟩
  refine rn ?_
  refine aw_cond rfl (fun hc9 => ?_) (fun hc9 => ?_)
  · have hk2 : k < l.length := by simpa using hc9
    have hrow : (l.map intR)[k]? = some (intR l[k]) := by simp [hk2]
    have hd := List.drop_eq_getElem_cons hk2
    refine rn ?_
    refine qv rfl rfl (qv_call rfl rfl (hp l[k] (by simp))) ?_
    refine rn ?_
    refine aw_cond rfl (fun hc16 => ?_) (fun hc16 => ?_)
    · refine rn ?_
      exact retq (.cons _ _ _ _ (.tmp _ _ rfl) .nil) (.refl _ _) ⟨rfl, by rw [hnot, hd, fidx, if_pos hc16]; rfl⟩
    · refine rn ?_
      exact ⟨k + 1, ⟨by omega, by rw [hnot, hd, fidx, if_neg (by simp [hc16])]⟩, (ent_sub (.cons _ _ _ rfl (.cons _ _ _ rfl (.cons _ _ _ rfl (.cons _ _ _ rfl (.nil)))))), by omega⟩
  · have hk3 : k = l.length := by
      have : l.length ≤ k := by simpa using hc9
      omega
    refine rn ?_
    exact retq (.cons _ _ _ _ (.tmp _ _ rfl) .nil) (.refl _ _) ⟨rfl, by rw [hnot, hk3, List.drop_length, fidx]; rfl⟩
set_option maxHeartbeats 1000000 in
theorem pDown1 (left : Nat → Int) (n v w : Nat) (hw : w < n) (hv : v < n) (hb : ∀ x, -1 ≤ left x ∧ left x ≤ 300) (b5 b8 : Nat) : ACall Tryz.prog 64 [iv (w : Int), .v (.pointer (some ⟨b5, 0, none⟩)), .v (.pointer (some ⟨b8, 0, none⟩))] (.box b5 30 [.list false 1 (farA n left)] :: .box b8 3 [iv (v : Nat)] :: []) (fun r h' => h' = .box b5 30 [.list false 1 (farA n left)] :: .box b8 3 [iv (v : Nat)] :: [] ∧ r = bv (left w == left v - 1)) := by
  refine acall_of_aw Tryz.func64 rfl rfl rfl ?_
  have hbv := hb v
  refine rn ?_
  refine aw_draw 9 rfl ?_
  refine dq rfl rfl qrA ?_
  refine dq rfl rfl qrA ?_
  refine dq rfl rfl (qr_index_list (i := w) rfl rfl (farA_at left hw)) ?_
  refine dq rfl rfl qrA ?_
  refine dq rfl rfl qrA ?_
  refine dq rfl rfl qrA ?_
  refine dq rfl rfl (qr_index_list (i := v) rfl rfl (farA_at left hv)) ?_
  refine rn ?_
  refine rq 0 ?_
  exact ⟨rfl, rfl⟩
set_option maxHeartbeats 4000000 in
theorem pDown (F : Nat → List Nat) (left : Nat → Int) (n v d : Nat) (hn : n ≤ 300) (hv : v < n) (hF : linP F n) (hFl : ∀ u, (F u).length ≤ 40000) (hf : Falls F left) (hd : left v = (d : Int)) (hb : ∀ x, -1 ≤ left x ∧ left x ≤ 300) : ACall Tryz.prog 41 [.list false 1 (linesA n F), iv (v : Int), .list false 1 (farA n left)] [] (fun r h' => h' = [] ∧ r = .list false 1 ((downL F left v d).map natR)) := by
  refine acall_of_aw Tryz.func41 rfl rfl rfl ?_
  have hbv := hb v
  refine rn ?_
  refine aops_e rfl (oe_box rfl rfl rfl fun b5 => ?_)
  refine rn ?_
  refine aops_e rfl (oe_buildRow (rows := [[iv (v : Int)]]) rfl rfl rfl (fun s11 => ?_))
  refine aops_slice s11 fun s7 hs7 => ?_
  subst hs7
  refine rn ?_
  refine aops_e rfl (oe_alloc rfl fun b8 => ?_)
  refine rn ?_
  refine aw_while (fun z : Nat × SV × Nat => z.1 ≤ d) (fun z => ⟨[(7, .v z.2.1.v), (8, .v (.pointer (some ⟨z.2.2, 0, none⟩))), (0, .list false 1 (linesA n F)), (5, .v (.pointer (some ⟨b5, 0, none⟩)))], .row z.2.1.v 1 3 ((downL F left v z.1).map natR) :: .box z.2.2 3 [iv (downV F left v z.1 : Nat)] :: .box b5 30 [.list false 1 (farA n left)] :: [], []⟩) (fun z => d - z.1) (0, s7, b8) (Nat.zero_le _) (ent_trans (ent_perm (pt1 _ _ _)) es) ?_
  rintro ⟨k, s, b⟩ hkd
  simp only at hkd
  show aw _ _ _ _ _ ⟨[(7, .v s.v), (8, .v (.pointer (some ⟨b, 0, none⟩))), (0, .list false 1 (linesA n F)), (5, .v (.pointer (some ⟨b5, 0, none⟩)))], .row s.v 1 3 ((downL F left v k).map natR) :: .box b 3 [iv (downV F left v k : Nat)] :: .box b5 30 [.list false 1 (farA n left)] :: [], []⟩
  have hvk : (downV F left v k) < n := downV_lt hf hF hv hd k hkd
  have hlk := down_left hf hd k hkd
  refine aw_seq ?_
  refine aw_seq (aw_region ?_)
  refine q1 ?_
  refine q1 ?_
  refine qq rfl rfl (qr_index_list (i := (downV F left v k)) rfl rfl (farA_at left hvk)) ?_
  refine rn ?_
  refine aw_cond rfl (fun hc17 => ?_) (fun hc17 => ?_)
  · have hx : 0 < left (downV F left v k) := of_decide_eq_true hc17
    have hkl : k < d := by omega
    have hFv := hFl (downV F left v k)
    obtain ⟨hfd, hmem, hlf⟩ := nxt_get hf (v := (downV F left v k)) (c := d - k - 1) (by omega)
    obtain ⟨i, hi, hfi, hei⟩ := fidx_find (q := fun a => left a.toNat == left (downV F left v k) - 1) (fun x _ => rfl) hfd 0
    have hlen : (downL F left v k).length = k + 1 := downL_len _ _ _ _
    refine aw_skip ?_
    refine thn_n ?_
    refine aw_seq ?_
    refine aw_block ?_
    refine aw_seq (aw_region ?_)
    refine q1 ?_
    refine q1 ?_
    refine qq rfl rfl (qr_index_list (i := (downV F left v k)) rfl rfl (linesA_at F hvk)) ?_
    refine rn ?_
    refine qv rfl rfl (qv_call rfl rfl (FCall.qt (show FCall Tryz.prog (.fn (.func 63) [] []) [.list false 1 ((F (downV F left v k)).map natR), .fn (.func 64) [] [.v (.pointer (some ⟨b5, 0, none⟩)), .v (.pointer (some ⟨b, 0, none⟩))]] (.box b5 30 [.list false 1 (farA n left)] :: .box b 3 [iv ((downV F left v k) : Nat)] :: []) (fun r h' => h' = .box b5 30 [.list false 1 (farA n left)] :: .box b 3 [iv ((downV F left v k) : Nat)] :: [] ∧ r = iv ((i : Nat) : Int)) from by rw [natR_J]; exact (FCall.of_fun (indexFuncInt (full := false) (rowI (F (downV F left v k))) _ (fun a => left a.toNat == left (downV F left v k) - 1) _ (fun a ha => by obtain ⟨w, hw, rfl⟩ := List.mem_map.1 ha; exact FCall.of_acall (fs := []) (cs := [.v (.pointer (some ⟨b5, 0, none⟩)), .v (.pointer (some ⟨b, 0, none⟩))]) (pDown1 left n (downV F left v k) w (hF _ w hw) hvk hb b5 b)) (by rw [rowI_ln]; omega))).mono fun _ _ q => ⟨q.1, by rw [q.2, hfi, Nat.zero_add]⟩) ((pt2 _ _ _ _).trans (.cons _ (pt1 _ _ _))))) ?_
    refine q1 ?_
    refine aops_nil (thn_n ?_)
    refine aw_seq (aw_region ?_)
    refine q1 ?_
    refine q1 ?_
    refine qq rfl rfl (qr_index_list (i := (downV F left v k)) rfl rfl (linesA_at F hvk)) ?_
    refine q1 ?_
    refine q1 ?_
    refine qq rfl rfl (qr_index_list (i := i) rfl rfl (natR_at hi)) ?_
    refine qq rfl rfl (qr_as (qr_load_pp_one rfl rfl) (show iv _ = iv (((downV F left v (k + 1)) : Nat) : Int) from congrArg (fun z : Nat => iv (z : Int)) hei)) ?_
    refine rn ?_
    refine aw_draw 8 rfl ?_
    refine dq rfl rfl qrA ?_
    refine dq rfl rfl qrA ?_
    refine dq rfl rfl qrA ?_
    refine dq rfl rfl qrA ?_
    refine dq rfl rfl qrA ?_
    refine dq rfl rfl (qr_cut_row rfl rfl rfl) ?_
    refine rn ?_
    refine dv rfl rfl (qv_buildSlice rfl rfl) ?_
    refine rn2 ?_
    refine aops_cut s.v ?_
    refine aops_e rfl (oe_append_row rfl rfl (by simp only [List.length_map, List.length_append, List.length_cons, List.length_nil]; omega) rfl (fun s27 => ?_) (fun r hr => by rw [List.mem_singleton.1 hr]; rfl))
    refine aops_slice s27 fun sv hsv => ?_
    subst hsv
    refine rn ?_
    refine aops_e rfl (oe_alloc rfl fun b8 => ?_)
    refine rn ?_
    exact ⟨(k + 1, sv, b8), hkl, by simp only; rw [downL_s, List.map_append]; exact ent_trans (ent_perm ((pt2 _ _ _ _).trans (.cons _ (pt1 _ _ _)))) (ent_trans ent_drop1 es), by simp only; omega⟩
  · have hx : ¬ 0 < left (downV F left v k) := of_decide_eq_false hc17
    have qk : k = d := by omega
    refine rn ?_
    exact retq (.cons _ _ _ _ (.tmp _ _ rfl) .nil) (.trans vent_freeze (.drop [_, _] _ _)) ⟨rfl, by rw [qk]⟩
set_option maxHeartbeats 1000000 in
theorem pShort (g : Gr) (hb : g.es.length ≤ 4611686018427387904) (s t : Int) : ACall Tryz.prog 13 [.agg (grR g), iv s, iv t] [] (fun r h' => h' = [] ∧ r = .tup [.list false 1 ((shoL g s t).map natR), iv (shoE g s t)]) := by
  refine acall_of_aw Tryz.func13 rfl rfl rfl ?_
  refine rn ?_
  refine aops_e rfl (oe_box rfl rfl rfl fun b3 => ?_)
  refine rn ?_
  refine qv rfl rfl (qv_buildSlice rfl rfl) ?_
  refine qv rfl rfl (qv_call rfl rfl (FCall.pure (R := fun z => z = iv (chkP g [s, t])) (FCall.of_fun (pCheck (f := true) g hb [s, t] (by simp only [List.length_cons, List.length_nil]; omega))))) ?_
  refine rn ?_
  refine aw_cond rfl (fun hc16 => ?_) (fun hc16 => ?_)
  · have he : chkP g [s, t] ≠ 0 := nzT hc16
    refine rn ?_
    exact retq (.cons _ _ _ _ (.tmp _ _ rfl) (.cons _ _ _ _ (.tmp _ _ rfl) .nil)) (.trans (.drop [_] _ _) (.le (Sb.tups (aS := [.v (.slice none 0 0), _]) (bs := [.list false 1 [], _]) ⟨.nil _ _, .refl _, trivial⟩).le)) ⟨rfl, by rw [shoL, if_neg he, shoE, if_neg he]; rfl⟩
  · have he : chkP g [s, t] = 0 := nzF hc16
    obtain ⟨hok, hv2⟩ := chkP_ok he
    have hn0 := hok.n0
    have hn1 := hok.n1
    have hmany := hok.many
    have hng : nG g ≤ 300 := by unfold nG; omega
    have hnn : ((nG g : Nat) : Int) = g.n := by unfold nG; omega
    obtain ⟨u, rfl, hu⟩ := hv2 s (by simp)
    obtain ⟨v, rfl, hv⟩ := hv2 t (by simp)
    have hlb := lef_b hok (m := 0) hv
    have hlu := hlb u
    refine rn ?_
    refine qv rfl rfl (qv_call rfl rfl (FCall.pure (R := fun z => z = .list false 1 (linesA (nG g) (linF false g.es))) (FCall.of_fun (pLines g hok false)))) ?_
    refine rn ?_
    refine qv rfl rfl (qv_call rfl rfl (FCall.pure (R := fun z => z = .list false 1 (farA (nG g) (lefB (rowO g) 0 v))) ((FCall.of_fun (pFar (rowN g) (nG g) v (.fn (.func 40) [] []) (fun w => decide (0 ≤ w)) [] rfl hv hng (rowN_P hok) (rowN_len hok) (fun w _ => FCall.of_fun (pAll w)))).mono fun _ _ q => ⟨q.1, by rw [q.2, lef_eq hok]⟩))) ?_
    refine q1 ?_
    refine aops_nil (thn_n ?_)
    refine aw_seq ?_
    refine aw_seq (aw_region ?_)
    refine q1 ?_
    refine q1 ?_
    refine qq rfl rfl (qr_index_list (i := u) rfl rfl (farA_at (lefB (rowO g) 0 v) hu)) ?_
    refine rn ?_
    refine aw_cond rfl (fun hc26 => ?_) (fun hc26 => ?_)
    · have hx : (lefB (rowO g) 0 v) u < 0 := of_decide_eq_true hc26
      refine rn ?_
      exact retq (.cons _ _ _ _ (.tmp _ _ rfl) (.cons _ _ _ _ (.tmp _ _ rfl) .nil)) (.trans (.drop [_] _ _) (.le (Sb.tups (aS := [.v (.slice none 0 0), _]) (bs := [.list false 1 [], _]) ⟨.nil _ _, .refl _, trivial⟩).le)) ⟨rfl, by rw [shoL, if_pos he, if_pos (by simpa using hx), shoE, if_pos he, if_pos (by simpa using hx)]; rfl⟩
    · have hx : ¬ (lefB (rowO g) 0 v) u < 0 := of_decide_eq_false hc26
      obtain ⟨d, hd⟩ : ∃ d : Nat, (lefB (rowO g) 0 v) u = (d : Int) := ⟨((lefB (rowO g) 0 v) u).toNat, by omega⟩
      refine rn ?_
      refine qv rfl rfl (qv_call rfl rfl (FCall.pure (R := fun z => z = .list false 1 (linesA (nG g) (linF true g.es))) (FCall.of_fun (pLines g hok true)))) ?_
      refine rn ?_
      refine qv rfl rfl (qv_call rfl rfl (FCall.pure (R := fun z => z = .list false 1 ((downL (rowO g) (lefB (rowO g) 0 v) u d).map natR)) (FCall.of_fun (pDown (rowO g) (lefB (rowO g) 0 v) (nG g) u d hng hu (rowO_P hok) (rowO_len hok) (lef_falls 0 v) hd hlb)))) ?_
      refine rn ?_
      exact retq (.cons _ _ _ _ (.tmp _ _ rfl) (.cons _ _ _ _ (.tmp _ _ rfl) .nil)) (.drop [_] _ _) ⟨rfl, by rw [shoL, if_pos he, if_neg (by simpa using hx), shoE, if_pos he, if_neg (by simpa using hx), Int.toNat_natCast, Int.toNat_natCast, hd, Int.toNat_natCast]; rfl⟩
end Go.Proofs
/- A slice held against nil: one that nobody writes, of some elements; nil itself. Conditions: none (rules over any program). -/
set_option linter.unusedVariables false
set_option linter.unusedSimpArgs false
namespace Go.Ab
open Go
section
variable {P : Program} {ro : Option Nat} {nt : Nat} {h : List Res} {f : Operand → Option AV} {dst : Option Tmp} {ty : TypeId} {pos : String} {after : Array Edge} {guard : Option (Nat × Bool)} {x y z : Operand}
theorem list_some {w : World} {O : Nat → Prop} {full : Bool} {sz : Nat} {rows : List (List AV)} {v : Value} (h : Rel w O (.list full sz rows) v) (hne : rows ≠ []) : ∃ a n c, v = .slice (some a) n c := by
  cases h with
  | lnil => exact absurd rfl hne
  | list _ _ _ b off cap g => exact ⟨_, _, _, rfl⟩
theorem qr_neqnil_l {T E T' : TypeId} {full : Bool} {sz : Nat} {rows : List (List AV)} (hx : f x = some (.list full sz rows)) (hy : f y = some (.v (.slice none 0 0))) (hne : rows ≠ []) [Und P T (.slice E)] :
    QR P h f ⟨dst, .binOp .neq T x y T', ty, pos, after, guard⟩ (.v (.bool true)) := fun X ρ w he => by
  obtain ⟨a, n, c, e⟩ := list_some (he.rel x _ hx) hne
  refine ⟨_, run_v _ ?_, .v _⟩
  rw [e, (he.rel y _ hy).v_eq]
  have h1 : (eqGuard .neq T x y (.slice (some a) n c) (.slice none 0 0)) = pure () := rfl
  rw [h1]
  have h3 : (Op.equal T (.slice (some a) n c) (.slice none 0 0)).run P w = .ok (some a).isNone w := run_eqIn_nil 9999 (some a) n c
  have h2 : (binOp .neq T (.slice (some a) n c) (.slice none 0 0)).run P w = ((Op.equal T (.slice (some a) n c) (.slice none 0 0)).run P w).andThen fun b w => .ok (.bool (!b)) w := by
    simp only [binOp, Sem.run_bind, Sem.run_pure]
  simp only [Sem.run_bind, Sem.run_pure, Result.andThen_ok, h2, h3]
  rfl
theorem qr_eqnil_v {T E T' : TypeId} {a : Option Addr} {n c : Nat} (hx : f x = some (.v (.slice a n c))) (hy : f y = some (.v (.slice none 0 0))) [Und P T (.slice E)] :
    QR P h f ⟨dst, .binOp .eql T x y T', ty, pos, after, guard⟩ (.v (.bool a.isNone)) := fun X ρ w he => by
  refine ⟨_, run_v _ ?_, .v _⟩
  rw [(he.rel x _ hx).v_eq, (he.rel y _ hy).v_eq]
  have h1 : (eqGuard .eql T x y (.slice a n c) (.slice none 0 0)) = pure () := rfl
  rw [h1]
  have h3 : (Op.equal T (.slice a n c) (.slice none 0 0)).run P w = .ok a.isNone w := run_eqIn_nil 9999 a n c
  have h2 : (binOp .eql T (.slice a n c) (.slice none 0 0)).run P w = ((Op.equal T (.slice a n c) (.slice none 0 0)).run P w).andThen fun b w => .ok (.bool b) w := by
    simp only [binOp, Sem.run_bind, Sem.run_pure]
  simp only [Sem.run_bind, Sem.run_pure, Result.andThen_ok, h2, h3]
theorem qr_eqnil_l {T E T' : TypeId} {full : Bool} {sz : Nat} {rows : List (List AV)} (hx : f x = some (.list full sz rows)) (hy : f y = some (.v (.slice none 0 0))) (hne : rows ≠ []) [Und P T (.slice E)] :
    QR P h f ⟨dst, .binOp .eql T x y T', ty, pos, after, guard⟩ (.v (.bool false)) := fun X ρ w he => by
  obtain ⟨a, n, c, e⟩ := list_some (he.rel x _ hx) hne
  refine ⟨_, run_v _ ?_, .v _⟩
  rw [e, (he.rel y _ hy).v_eq]
  have h1 : (eqGuard .eql T x y (.slice (some a) n c) (.slice none 0 0)) = pure () := rfl
  rw [h1]
  have h3 : (Op.equal T (.slice (some a) n c) (.slice none 0 0)).run P w = .ok (some a).isNone w := run_eqIn_nil 9999 (some a) n c
  have h2 : (binOp .eql T (.slice (some a) n c) (.slice none 0 0)).run P w = ((Op.equal T (.slice (some a) n c) (.slice none 0 0)).run P w).andThen fun b w => .ok (.bool b) w := by
    simp only [binOp, Sem.run_bind, Sem.run_pure]
  simp only [Sem.run_bind, Sem.run_pure, Result.andThen_ok, h2, h3]
  rfl
end
end Go.Ab
/- The walks of path's round, shorter, Through. Conditions: none. -/
set_option linter.unusedVariables false
set_option linter.unusedSimpArgs false
set_option maxRecDepth 10000
namespace Go.Proofs
open Go Go.Ab
attribute [local irreducible] QR QV OE aops aw dsoup dsoupM dalloc dallocM thn inBlk jsoup jch lsoup
open Go.H
def fstI : Option Nat → Int
  | none => -1
  | some x => (x : Int)
theorem fstI_lt (b : Option Nat) : decide (fstI b < 0) = b.isNone := by
  cases b with
  | none => rfl
  | some x => exact decide_eq_false (by simp only [fstI]; omega)
theorem firS_0 {left : Nat → Int} {b : Option Nat} {w : Nat} (h : ¬ 0 < left w) : firS left b w = b := if_neg h
theorem firS_n {left : Nat → Int} {w : Nat} (h : 0 < left w) : firS left none w = some w := if_pos h
theorem firS_y {left : Nat → Int} {x w : Nat} (h : 0 < left w) (k : left w < left x) : firS left (some x) w = some w := by
  rw [firS, if_pos h]; exact if_pos k
theorem firS_f {left : Nat → Int} {x w : Nat} (h : 0 < left w) (k : ¬ left w < left x) : firS left (some x) w = some x := by
  rw [firS, if_pos h]; exact if_neg k
theorem firT {left : Nat → Int} {l : List Nat} {j : Nat} (hj : j < l.length) : firF left (l.take (j + 1)) = firS left (firF left (l.take j)) l[j] := by
  rw [List.take_succ_eq_append_getElem hj, firF_s]
theorem firF_mem {left : Nat → Int} {l : List Nat} {x : Nat} (hl : l.Pairwise (· < ·)) (h : firF left l = some x) : x ∈ l ∧ 0 < left x := by
  have := firF_ok (left := left) l (hl.imp Nat.le_of_lt)
  rw [h] at this
  exact ⟨this.1, this.2.1⟩
theorem firF_mem2 {left : Nat → Int} {l : List Nat} {j x : Nat} (hl : l.Pairwise (· < ·)) (h : firF left (l.take j) = some x) : x ∈ l := List.mem_of_mem_take (firF_mem (hl.sublist (List.take_sublist _ _)) h).1
abbrev optA : Option (List Nat) → AV
  | none => .v (.slice none 0 0)
  | some l => .list false 1 (l.map natR)
theorem rndN_n {row : Nat → List Nat} {m v : Nat} (h : firF (lefB row m v) (row v) = none) : rndN row m v = none := by unfold rndN; rw [h]
theorem rndN_s {row : Nat → List Nat} {m v x d : Nat} (h : firF (lefB row m v) (row v) = some x) (hd : lefB row m v x = (d : Int)) : rndN row m v = some (v :: (downL row (lefB row m v) x d).take d) := by
  unfold rndN; rw [h]
  simp only
  rw [hd, Int.toNat_natCast, List.dropLast_eq_take, downL_len]; rfl
theorem rnd_ne {row : Nat → List Nat} {m v : Nat} {l : List Nat} (h : rndN row m v = some l) (hr : (row v).Pairwise (· < ·)) : 2 ≤ l.length := by
  obtain ⟨_, d, _, _, h1, h2, _⟩ := rnd_some h hr
  omega
theorem rnd_len {g : Gr} (hok : GOk g) {m v : Nat} (hv : v < nG g) {l : List Nat} (h : rndN (rowO g) m v = some l) : l.length ≤ 301 := by
  obtain ⟨w, d, _, h0, h1, h2, _⟩ := rnd_some h (rowO_lt hok v)
  have := lef_b hok (m := m) hv w
  omega
/-- No row, or one that is not empty. -/
def OneR (b : Option (List Nat)) : Prop := ∀ l, b = some l → 2 ≤ l.length ∧ l.length ≤ 301
theorem OneR.none : OneR Option.none := fun l h => by cases h
theorem rnd_R {g : Gr} (hok : GOk g) {m v : Nat} (hv : v < nG g) : OneR (rndN (rowO g) m v) := fun l h => ⟨rnd_ne h (rowO_lt hok v), rnd_len hok hv h⟩
theorem sho_R {b r : Option (List Nat)} (hb : OneR b) (hr : OneR r) : OneR (shoS b r) := by
  intro l h
  unfold shoS at h
  cases r with
  | none => exact hb l h
  | some x =>
    cases b with
    | none => exact hr l h
    | some c =>
      simp only at h
      split at h
      · exact hr l h
      · exact hb l h
theorem OneR.row {l : List Nat} (h : OneR (some l)) : l.map natR ≠ [] := fun q => by
  have := (h l rfl).1
  rw [List.map_eq_nil_iff.1 q] at this; simp at this
def shoK (rs : List (Option (List Nat))) (k : Nat) : Option (List Nat) := (rs.take k).foldl shoS none
theorem shoK_s {rs : List (Option (List Nat))} {k : Nat} (hk : k < rs.length) : shoK rs (k + 1) = shoS (shoK rs k) rs[k] := by
  unfold shoK; rw [List.take_succ_eq_append_getElem hk, List.foldl_append]; rfl
theorem shoK_R {rs : List (Option (List Nat))} (h : ∀ r ∈ rs, OneR r) : ∀ k, OneR (shoK rs k) := by
  intro k
  unfold shoK
  have : ∀ (l : List (Option (List Nat))), (∀ r ∈ l, OneR r) → ∀ b, OneR b → OneR (l.foldl shoS b) := by
    intro l
    induction l with
    | nil => intro _ b hb; exact hb
    | cons a l ih => intro hl b hb; exact ih (fun r hr => hl r (by simp [hr])) _ (sho_R hb (hl a (by simp)))
  exact this _ (fun r hr => h r (List.mem_of_mem_take hr)) _ OneR.none
theorem optA_at {rs : List (Option (List Nat))} {k : Nat} (hk : k < rs.length) : (rs.map fun r => [optA r])[k]? = some [optA rs[k]] := by
  rw [List.getElem?_map, List.getElem?_eq_getElem hk]; rfl
noncomputable def thrO (g : Gr) (s : Int) : Option (List Nat) := if chkP g [s] = 0 then rndN (rowO g) 0 s.toNat else none
noncomputable def thrE (g : Gr) (s : Int) : Int := if chkP g [s] = 0 then (if (rndN (rowO g) 0 s.toNat).isNone = true then 4 else 0) else chkP g [s]
set_option maxHeartbeats 4000000 in
theorem pRound (g : Gr) (hok : GOk g) (m v : Nat) (hv : v < nG g) (fv : AV) (M : List Res) (hone : fv.cellsOf = some [fv]) (hm : ∀ w : Nat, w < nG g → FCall Tryz.prog fv [iv (w : Int)] M (fun r h' => h' = M ∧ r = bv (decide (m ≤ w)))) : ACall Tryz.prog 49 [.list false 1 (linesA (nG g) (rowO g)), .list false 1 (linesA (nG g) (rowN g)), iv (v : Int), fv] M (fun r h' => h' = M ∧ r = optA (rndN (rowO g) m v)) := by
  refine acall_of_aw Tryz.func49 rfl rfl rfl ?_
  have hn0 := hok.n0
  have hn1 := hok.n1
  have hmany := hok.many
  have hng : nG g ≤ 300 := by unfold nG; omega
  have hnn : ((nG g : Nat) : Int) = g.n := by unfold nG; omega
  have hlb := lef_b hok (m := m) hv
  have hrl := rowO_len hok v
  refine rn ?_
  refine qv rfl rfl (qv_call rfl rfl ((FCall.of_fun (pFar (rowN g) (nG g) v fv (fun w => decide (m ≤ w)) M hone hv hng (rowN_P hok) (rowN_len hok) hm)).mono fun _ _ q => ⟨q.1, by rw [q.2, lef_eq hok]⟩)) ?_
  refine q1 ?_
  refine aops_nil (thn_n ?_)
  refine aw_seq (aw_region ?_)
  refine q1 ?_
  refine aops_nil (thn_n ?_)
  refine aw_seq ?_
  refine aw_seq (aw_region ?_)
  refine q1 ?_
  refine q1 ?_
  refine qq rfl rfl (qr_index_list (i := v) rfl rfl (linesA_at (rowO g) hv)) ?_
  refine q1 ?_
  refine qq rfl rfl (qr_as (qr_len_list rfl) (show iv _ = iv (((rowO g v).length : Nat) : Int) from congrArg iv (by rw [List.length_map]))) ?_
  refine rn ?_
  refine aw_range (rowO g v).length (fun _ => True) (fun j => ⟨[(23, iv j), (10, iv (fstI (firF (lefB (rowO g) m v) ((rowO g v).take j)))), (0, .list false 1 (linesA (nG g) (rowO g))), (2, iv (v : Int)), (9, .list false 1 (farA (nG g) (lefB (rowO g) m v))), (21, .list false 1 ((rowO g v).map natR)), (22, iv ((rowO g v).length : Nat))], M, []⟩) trivial es ?_
  intro j lj _
  refine rn ?_
  refine aw_cond rfl (fun hc24 => ?_) (fun hc24 => ?_)
  · have hkj : j < (rowO g v).length := by have q := of_decide_eq_true hc24; omega
    have hwn : (rowO g v)[j] < nG g := rowO_P hok v _ (List.getElem_mem hkj)
    refine aw_skip ?_
    refine thn_n ?_
    refine aw_seq ?_
    refine aw_block ?_
    refine aw_seq (aw_region ?_)
    refine qq rfl rfl (qr_index_list (i := j) rfl rfl (natR_at hkj)) ?_
    refine rn0 ?_
    refine aw_seq ?_
    obtain ⟨b0, hb0⟩ : ∃ b, b = (firF (lefB (rowO g) m v) ((rowO g v).take j)) := ⟨_, rfl⟩
    rw [← hb0]
    rcases b0 with _ | x
    rotate_left
    have hxn : x < nG g := rowO_P hok v _ (firF_mem2 (rowO_lt hok v) hb0.symm)
    rotate_left
    · refine aw_draw 17 rfl ?_
      refine dq rfl rfl qrA ?_
      refine dq rfl rfl qrA ?_
      refine dq rfl rfl (qr_index_list (i := (rowO g v)[j]) rfl rfl (farA_at (lefB (rowO g) m v) hwn)) ?_
      refine rn ?_
      refine dsplit (fun hg6_5 => ?_) (fun hg6_5 => ?_)
      · refine dq rfl rfl qrA ?_
        refine dq rfl rfl (qr_as (qr_cmp rfl rfl rfl) (congrArg bv (fstI_lt _))) ?_
        refine rn ?_
        refine aw_cond rfl (fun hc46 => ?_) (fun hc46 => ?_)
        · have hfs : (firF (lefB (rowO g) m v) ((rowO g v).take (j + 1))) = some (rowO g v)[j] := by rw [firT hkj, ← hb0]; first | exact firS_n (of_decide_eq_true hg6_5) | exact firS_y (of_decide_eq_true hg6_5) (of_decide_eq_true hc46)
          refine rn ?_
          exact ⟨hkj, trivial, by rw [hfs]; exact eA⟩
        · first | cases hc46 | exact absurd hc46 (by decide) | (exfalso; simp_all; done)
      · refine rn ?_
        refine aw_cond rfl (fun hc46 => ?_) (fun hc46 => ?_)
        · first | cases hc46 | exact absurd hc46 (by decide) | (exfalso; simp_all; done)
        · have hfs := (show (firF (lefB (rowO g) m v) ((rowO g v).take (j + 1))) = (firF (lefB (rowO g) m v) ((rowO g v).take j)) from by rw [firT hkj, ← hb0]; first | exact firS_0 (of_decide_eq_false hg6_5) | exact firS_f (of_decide_eq_true hg6_5) (of_decide_eq_false hc46)).trans hb0.symm
          refine rn ?_
          exact ⟨hkj, trivial, by rw [hfs]; exact eA⟩
    · refine aw_draw 17 rfl ?_
      refine dq rfl rfl qrA ?_
      refine dq rfl rfl qrA ?_
      refine dq rfl rfl (qr_index_list (i := (rowO g v)[j]) rfl rfl (farA_at (lefB (rowO g) m v) hwn)) ?_
      refine rn ?_
      refine dsplit (fun hg6_5 => ?_) (fun hg6_5 => ?_)
      · refine dq rfl rfl qrA ?_
        refine dq rfl rfl (qr_as (qr_cmp rfl rfl rfl) (congrArg bv (fstI_lt _))) ?_
        refine dq rfl rfl qrA ?_
        refine dq rfl rfl qrA ?_
        refine dq rfl rfl qrA ?_
        refine dq rfl rfl (qr_index_list (i := (rowO g v)[j]) rfl rfl (farA_at (lefB (rowO g) m v) hwn)) ?_
        refine dq rfl rfl qrA ?_
        refine dq rfl rfl qrA ?_
        refine dq rfl rfl qrA ?_
        refine dq rfl rfl (qr_index_list (i := x) rfl rfl (farA_at (lefB (rowO g) m v) hxn)) ?_
        refine rn ?_
        refine aw_cond rfl (fun hc46 => ?_) (fun hc46 => ?_)
        · have hfs : (firF (lefB (rowO g) m v) ((rowO g v).take (j + 1))) = some (rowO g v)[j] := by rw [firT hkj, ← hb0]; first | exact firS_n (of_decide_eq_true hg6_5) | exact firS_y (of_decide_eq_true hg6_5) (of_decide_eq_true hc46)
          refine rn ?_
          exact ⟨hkj, trivial, by rw [hfs]; exact eA⟩
        · have hfs := (show (firF (lefB (rowO g) m v) ((rowO g v).take (j + 1))) = (firF (lefB (rowO g) m v) ((rowO g v).take j)) from by rw [firT hkj, ← hb0]; first | exact firS_0 (of_decide_eq_false hg6_5) | exact firS_f (of_decide_eq_true hg6_5) (of_decide_eq_false hc46)).trans hb0.symm
          refine rn ?_
          exact ⟨hkj, trivial, by rw [hfs]; exact eA⟩
      · refine rn ?_
        refine aw_cond rfl (fun hc46 => ?_) (fun hc46 => ?_)
        · first | cases hc46 | exact absurd hc46 (by decide) | (exfalso; simp_all; done)
        · have hfs := (show (firF (lefB (rowO g) m v) ((rowO g v).take (j + 1))) = (firF (lefB (rowO g) m v) ((rowO g v).take j)) from by rw [firT hkj, ← hb0]; first | exact firS_0 (of_decide_eq_false hg6_5) | exact firS_f (of_decide_eq_true hg6_5) (of_decide_eq_false hc46)).trans hb0.symm
          refine rn ?_
          exact ⟨hkj, trivial, by rw [hfs]; exact eA⟩
  · have qj : j = (rowO g v).length := by have q := of_decide_eq_false hc24; omega
    refine aw_exit ?_
    refine thn_e ?_
    refine thn_e ?_
    refine inBlk_hit ?_
    refine thn_n ?_
    refine aw_seq ?_
    refine aw_seq (aw_region ?_)
    refine q1 ?_
    refine qq rfl rfl (qr_as (qr_cmp rfl rfl rfl) (congrArg bv (fstI_lt _))) ?_
    refine rn ?_
    refine aw_cond rfl (fun hc50 => ?_) (fun hc50 => ?_)
    · have hfn : firF (lefB (rowO g) m v) (rowO g v) = none := by have q : ((firF (lefB (rowO g) m v) ((rowO g v).take j))).isNone = true := hc50; rw [qj, List.take_length] at q; exact Option.isNone_iff_eq_none.1 q
      refine rn ?_
      exact retq (.cons _ _ _ _ (.tmp _ _ rfl) .nil) (.refl _ _) ⟨rfl, by rw [rndN_n hfn]; rfl⟩
    · obtain ⟨x, hfx⟩ : ∃ x, firF (lefB (rowO g) m v) (rowO g v) = some x := by
        have q : ((firF (lefB (rowO g) m v) ((rowO g v).take j))).isNone = false := hc50
        rw [qj, List.take_length] at q
        cases e : firF (lefB (rowO g) m v) (rowO g v) with
        | none => rw [e] at q; cases q
        | some x => exact ⟨x, rfl⟩
      rw [qj, List.take_length, hfx]
      obtain ⟨hxm, hxp⟩ := firF_mem (rowO_lt hok v) hfx
      have hxn := rowO_P hok v x hxm
      have hxb := hlb x
      obtain ⟨d, hd⟩ : ∃ d : Nat, (lefB (rowO g) m v) x = (d : Int) := ⟨((lefB (rowO g) m v) x).toNat, by omega⟩
      refine rn ?_
      refine qv rfl rfl (qv_call rfl rfl (FCall.pure (R := fun z => z = .list false 1 ((downL (rowO g) (lefB (rowO g) m v) x d).map natR)) (FCall.of_fun (pDown (rowO g) (lefB (rowO g) m v) (nG g) x d hng hxn (rowO_P hok) (rowO_len hok) (lef_falls m v) hd hlb)))) ?_
      refine rn ?_
      refine aops_e rfl (oe_buildRow (rows := [[iv (v : Int)]]) rfl rfl rfl (fun s56 => ?_))
      refine aops_slice s56 fun s6 hs6 => ?_
      subst hs6
      refine q1 ?_
      refine q1 ?_
      refine qq rfl rfl (qr_as (qr_len_list rfl) (show iv _ = iv ((d + 1 : Nat) : Int) from congrArg iv (by rw [List.length_map, downL_len]))) ?_
      refine qq rfl rfl (qr_as (qr_ari rfl rfl rfl (by omega)) (show iv _ = iv ((d : Nat) : Int) from congrArg iv (by omega))) ?_
      refine qq rfl rfl (qr_slice_h (k := d) rfl rfl (by rw [List.length_map, downL_len]; omega)) ?_
      refine aops_e rfl (oe_append_row rfl rfl (by simp only [List.length_map, List.length_take, List.length_cons, List.length_nil]; omega) rfl (fun s27 => ?_) (fun r hr => by obtain ⟨y, _, rfl⟩ := List.mem_map.1 (List.mem_of_mem_take hr); rfl))
      refine aops_slice s27 fun sv hsv => ?_
      subst hsv
      refine rn ?_
      exact retq (.cons _ _ _ _ (.tmp _ _ rfl) .nil) vent_freeze ⟨rfl, by rw [rndN_s hfx hd]; show _ = AV.list false 1 _; rw [List.map_cons, List.map_take]; rfl⟩
set_option maxHeartbeats 4000000 in
theorem pShorter {f : Bool} (rs : List (Option (List Nat))) (hrl : rs.length ≤ 1000) (hrs : ∀ r ∈ rs, OneR r) : ACall Tryz.prog 48 [.list f 1 (rs.map fun r => [optA r])] [] (fun r h' => h' = [] ∧ r = optA (shoK rs rs.length)) := by
  refine acall_of_aw Tryz.func48 rfl rfl rfl ?_
  refine aw_seq (aw_region ?_)
  refine q1 ?_
  refine aops_nil (thn_n ?_)
  refine aw_seq (aw_region ?_)
  refine q1 ?_
  refine aops_nil (thn_n ?_)
  refine aw_seq ?_
  refine aw_seq (aw_region ?_)
  refine q1 ?_
  refine qq rfl rfl (qr_as (qr_len_list rfl) (show iv _ = iv ((rs.length : Nat) : Int) from congrArg iv (by rw [List.length_map]))) ?_
  refine rn ?_
  refine aw_range rs.length (fun _ => True) (fun k => ⟨[(8, iv k), (3, optA (shoK rs k)), (6, .list f 1 (rs.map fun r => [optA r])), (7, iv rs.length)], [], []⟩) trivial es ?_
  intro k lk _
  refine rn ?_
  refine aw_cond rfl (fun hc9 => ?_) (fun hc9 => ?_)
  · have hkk : k < rs.length := by have q := of_decide_eq_true hc9; omega
    refine aw_skip ?_
    refine thn_n ?_
    refine aw_seq ?_
    refine aw_block ?_
    refine aw_seq (aw_region ?_)
    refine qq rfl rfl (qr_index_list (i := k) rfl rfl (optA_at hkk)) ?_
    refine rn0 ?_
    refine aw_seq ?_
    have hR := shoK_R hrs k
    have hRk := hrs _ (List.getElem_mem hkk)
    obtain ⟨b0, hb0⟩ : ∃ b, b = (shoK rs k) := ⟨_, rfl⟩
    obtain ⟨r0, hr0⟩ : ∃ r, r = rs[k] := ⟨_, rfl⟩
    rw [← hb0] at hR ⊢
    rw [← hr0] at hRk ⊢
    rcases r0 with _ | l
    rotate_left
    rcases b0 with _ | c
    rotate_right
    · refine aw_region ?_
      refine q1 ?_
      first | refine qq rfl rfl (qr_neqnil (a := none) rfl rfl) ?_ | refine qq rfl rfl (qr_neqnil_l rfl rfl hRk.row) ?_
      refine rn ?_
      refine aw_cond rfl (fun hc24 => ?_) (fun hc24 => ?_)
      · first | cases hc24 | exact absurd hc24 (by decide) | (exfalso; simp_all; done)
      · have hfs := (show (shoK rs (k + 1)) = (shoK rs k) from by rw [shoK_s hkk, ← hr0]; first | rfl | (rw [← hb0]; exact if_neg (by have q := of_decide_eq_false hc24; omega))).trans hb0.symm
        refine rn ?_
        exact ⟨hkk, trivial, by rw [hfs]; exact eA⟩
    · refine aw_region ?_
      refine q1 ?_
      first | refine qq rfl rfl (qr_neqnil (a := none) rfl rfl) ?_ | refine qq rfl rfl (qr_neqnil_l rfl rfl hRk.row) ?_
      refine q1 ?_
      refine q1 ?_
      first | refine qq rfl rfl (qr_eqnil_v (a := none) rfl rfl) ?_ | refine qq rfl rfl (qr_eqnil_l rfl rfl hR.row) ?_
      refine rn ?_
      refine aw_cond rfl (fun hc24 => ?_) (fun hc24 => ?_)
      · have hfs : (shoK rs (k + 1)) = some l := by rw [shoK_s hkk, ← hb0, ← hr0]; first | rfl | exact if_pos (by have q := of_decide_eq_true hc24; omega)
        refine rn ?_
        exact ⟨hkk, trivial, by rw [hfs]; exact eA⟩
      · first | cases hc24 | exact absurd hc24 (by decide) | (exfalso; simp_all; done)
    · refine aw_region ?_
      refine q1 ?_
      first | refine qq rfl rfl (qr_neqnil (a := none) rfl rfl) ?_ | refine qq rfl rfl (qr_neqnil_l rfl rfl hRk.row) ?_
      refine q1 ?_
      refine q1 ?_
      first | refine qq rfl rfl (qr_eqnil_v (a := none) rfl rfl) ?_ | refine qq rfl rfl (qr_eqnil_l rfl rfl hR.row) ?_
      refine q1 ?_
      refine q1 ?_
      refine qq rfl rfl (qr_as (qr_len_list rfl) (show iv _ = iv ((l.length : Nat) : Int) from congrArg iv (by rw [List.length_map]))) ?_
      refine q1 ?_
      refine qq rfl rfl (qr_as (qr_len_list rfl) (show iv _ = iv ((c.length : Nat) : Int) from congrArg iv (by rw [List.length_map]))) ?_
      refine rn ?_
      refine aw_cond rfl (fun hc24 => ?_) (fun hc24 => ?_)
      · have hfs : (shoK rs (k + 1)) = some l := by rw [shoK_s hkk, ← hb0, ← hr0]; first | rfl | exact if_pos (by have q := of_decide_eq_true hc24; omega)
        refine rn ?_
        exact ⟨hkk, trivial, by rw [hfs]; exact eA⟩
      · have hfs := (show (shoK rs (k + 1)) = (shoK rs k) from by rw [shoK_s hkk, ← hr0]; first | rfl | (rw [← hb0]; exact if_neg (by have q := of_decide_eq_false hc24; omega))).trans hb0.symm
        refine rn ?_
        exact ⟨hkk, trivial, by rw [hfs]; exact eA⟩
  · have qk : k = rs.length := by have q := of_decide_eq_false hc9; omega
    refine rn ?_
    exact retq (.cons _ _ _ _ (.tmp _ _ rfl) .nil) (.refl _ _) ⟨rfl, by rw [qk]; rfl⟩
set_option maxHeartbeats 1000000 in
theorem pThrough (g : Gr) (hb : g.es.length ≤ 4611686018427387904) (s : Int) : ACall Tryz.prog 21 [.agg (grR g), iv s] [] (fun r h' => h' = [] ∧ r = .tup [.list false 1 (((thrO g s).getD []).map natR), iv (thrE g s)]) := by
  refine acall_of_aw Tryz.func21 rfl rfl rfl ?_
  refine rn ?_
  refine aops_e rfl (oe_box rfl rfl rfl fun b2 => ?_)
  refine rn ?_
  refine qv rfl rfl (qv_buildSlice rfl rfl) ?_
  refine qv rfl rfl (qv_call rfl rfl (FCall.pure (R := fun z => z = iv (chkP g [s])) (FCall.of_fun (pCheck (f := true) g hb [s] (by simp only [List.length_cons, List.length_nil]; omega))))) ?_
  refine rn ?_
  refine aw_cond rfl (fun hc13 => ?_) (fun hc13 => ?_)
  · have he : chkP g [s] ≠ 0 := nzT hc13
    refine rn ?_
    exact retq (.cons _ _ _ _ (.tmp _ _ rfl) (.cons _ _ _ _ (.tmp _ _ rfl) .nil)) (.trans (.drop [_] _ _) (.le (Sb.tups (aS := [.v (.slice none 0 0), _]) (bs := [.list false 1 [], _]) ⟨.nil _ _, .refl _, trivial⟩).le)) ⟨rfl, by rw [thrO, if_neg he, thrE, if_neg he]; rfl⟩
  · have he : chkP g [s] = 0 := nzF hc13
    obtain ⟨hok, hv2⟩ := chkP_ok he
    have hn0 := hok.n0
    have hn1 := hok.n1
    have hmany := hok.many
    have hng : nG g ≤ 300 := by unfold nG; omega
    have hnn : ((nG g : Nat) : Int) = g.n := by unfold nG; omega
    obtain ⟨u, rfl, hu⟩ := hv2 s (by simp)
    refine rn ?_
    refine aw_draw 5 rfl ?_
    refine rn ?_
    refine dv rfl rfl (by exact qv_call rfl rfl (FCall.pure (R := fun z => z = .list false 1 (linesA (nG g) (linF true g.es))) (FCall.of_fun (pLines g hok true)))) ?_
    refine rn ?_
    refine dv rfl rfl (by exact qv_call rfl rfl (FCall.pure (R := fun z => z = .list false 1 (linesA (nG g) (linF false g.es))) (FCall.of_fun (pLines g hok false)))) ?_
    refine rn ?_
    refine qv rfl rfl (qv_call rfl rfl (FCall.pure (R := fun z => z = optA (rndN (rowO g) 0 u)) (FCall.of_fun (pRound g hok 0 u hu (.fn (.func 40) [] []) [] rfl (fun w _ => FCall.of_fun (pAll w)))))) ?_
    refine rn0 ?_
    refine aw_seq ?_
    refine aw_seq ?_
    have hRn := rnd_R hok (m := 0) hu
    rcases hro : (rndN (rowO g) 0 u) with _ | l
    rotate_left
    rw [hro] at hRn
    rotate_left
    · refine aw_region ?_
      refine q1 ?_
      first | refine qq rfl rfl (qr_eqnil_v (a := none) rfl rfl) ?_ | refine qq rfl rfl (qr_eqnil_l rfl rfl hRn.row) ?_
      refine rn ?_
      refine aw_cond rfl (fun hc22 => ?_) (fun hc22 => ?_)
      · refine rn ?_
        exact retq (.cons _ _ _ _ (.tmp _ _ rfl) (.cons _ _ _ _ (.tmp _ _ rfl) .nil)) (.trans (.drop [_] _ _) (.le (Sb.tups (aS := [.v (.slice none 0 0), _]) (bs := [.list false 1 [], _]) ⟨.nil _ _, .refl _, trivial⟩).le)) ⟨rfl, by rw [thrO, if_pos he, thrE, if_pos he, Int.toNat_natCast, hro]; rfl⟩
      · first | cases hc22 | exact absurd hc22 (by decide) | (exfalso; simp_all; done)
    · refine aw_region ?_
      refine q1 ?_
      first | refine qq rfl rfl (qr_eqnil_v (a := none) rfl rfl) ?_ | refine qq rfl rfl (qr_eqnil_l rfl rfl hRn.row) ?_
      refine rn ?_
      refine aw_cond rfl (fun hc22 => ?_) (fun hc22 => ?_)
      · first | cases hc22 | exact absurd hc22 (by decide) | (exfalso; simp_all; done)
      · refine rn ?_
        exact retq (.cons _ _ _ _ (.tmp _ _ rfl) (.cons _ _ _ _ (.tmp _ _ rfl) .nil)) (.drop [_] _ _) ⟨rfl, by rw [thrO, if_pos he, thrE, if_pos he, Int.toNat_natCast, hro]; rfl⟩
end Go.Proofs
/- The lowest bit of a word; the next number of a set; the shortest cycle, looked for at the nodes that go round. Conditions: aS each lemma states. -/
set_option linter.unusedVariables false
set_option linter.unusedSimpArgs false
namespace Go.H
open Go Go.Ab
theorem low_and {w k m : Nat} (h : w = 2 ^ k * (2 * m + 1)) : w &&& (w - 1) = 2 ^ k * (2 * m) := by
  have hp : 0 < 2 ^ k := Nat.pow_pos (by decide)
  have e1 : w - 1 = 2 ^ k * (2 * m) + (2 ^ k - 1) := by
    rw [h, Nat.mul_add, Nat.mul_one]; omega
  rw [e1, h]
  apply Nat.eq_of_testBit_eq
  intro i
  rw [Nat.testBit_and, Nat.mul_comm (2 ^ k) (2 * m + 1), Nat.testBit_mul_two_pow]
  by_cases hk : k ≤ i
  · obtain ⟨j, rfl⟩ : ∃ j, i = k + j := ⟨i - k, by omega⟩
    have e2 : k + j - k = j := by omega
    have e3 : (2 ^ k * (2 * m) + (2 ^ k - 1)).testBit (k + j) = (2 * m).testBit j := by
      rw [Nat.add_comm k j, Nat.testBit_add, Nat.mul_add_div hp, Nat.div_eq_of_lt (by omega), Nat.add_zero]
    rw [e3, Nat.mul_comm (2 ^ k) (2 * m), Nat.testBit_mul_two_pow, e2]
    simp only [hk, decide_true, Bool.true_and]
    cases j with
    | zero => simp [Nat.testBit_zero]
    | succ j =>
      rw [Nat.testBit_succ, Nat.testBit_succ]
      have d1 : (2 * m + 1) / 2 = m := by omega
      have d2 : 2 * m / 2 = m := by omega
      rw [d1, d2, Bool.and_self]
  · rw [Nat.mul_comm (2 ^ k) (2 * m), Nat.testBit_mul_two_pow]
    simp [hk]
theorem ctz_bit {w : Nat} (h0 : w ≠ 0) (h : w < 2 ^ 64) : ∃ m, w = 2 ^ Lib.ctz 64 w * (2 * m + 1) ∧ Lib.ctz 64 w < 64 := by
  obtain ⟨m, hm, hk⟩ := Lib.ctzFrom_spec 64 w (by omega) h
  have e : Lib.ctz 64 w = Lib.ctzFrom 64 w := by simp [Lib.ctz, h0]
  exact ⟨m, by rw [e]; exact hm, by rw [e]; exact hk⟩
theorem bit_of {w k m : Nat} (h : w = 2 ^ k * (2 * m + 1)) : w.testBit k = true ∧ ∀ j, j < k → w.testBit j = false := by
  rw [h, Nat.mul_comm]
  refine ⟨?_, fun j hj => ?_⟩
  · rw [Nat.testBit_mul_two_pow, Nat.sub_self]; simp [Nat.testBit_zero]
  · rw [Nat.testBit_mul_two_pow]; simp; omega
theorem bit_next {w k m : Nat} (h : w = 2 ^ k * (2 * m + 1)) (j : Nat) : (w &&& (w - 1)).testBit j = (w.testBit j && decide (k + 1 ≤ j)) := by
  rw [low_and h, Nat.mul_comm (2 ^ k), Nat.testBit_mul_two_pow]
  conv => rhs; rw [h, Nat.mul_comm (2 ^ k), Nat.testBit_mul_two_pow]
  rcases Nat.lt_trichotomy j k with q | q | q
  · rw [decide_eq_false (show ¬ k ≤ j by omega)]; simp
  · subst q
    rw [Nat.sub_self, decide_eq_false (show ¬ j + 1 ≤ j by omega)]; simp [Nat.testBit_zero]
  · rw [decide_eq_true (show k ≤ j by omega), decide_eq_true (show k + 1 ≤ j by omega)]
    obtain ⟨i, hi⟩ : ∃ i, j - k = i + 1 := ⟨j - k - 1, by omega⟩
    rw [hi, Nat.testBit_succ, Nat.testBit_succ]
    have d1 : (2 * m + 1) / 2 = m := by omega
    have d2 : 2 * m / 2 = m := by omega
    rw [d1, d2]; simp
/-- What is left of word i of a set from bit b on. -/
def RestW (l : List Nat) (i b w : Nat) : Prop := w < 2 ^ 64 ∧ ∀ j, j < 64 → w.testBit j = (decide (b ≤ j) && decide (64 * i + j ∈ l))
theorem RestW.start (l : List Nat) (i : Nat) : RestW l i 0 (wrdL l i) := ⟨wrdL_lt l i, fun j hj => by
  unfold wrdL
  rw [wrdN_bit, decide_eq_true hj]; simp⟩
theorem RestW.hit {l : List Nat} {i b w : Nat} (h : RestW l i b w) (h0 : w ≠ 0) : Lib.ctz 64 w < 64 ∧ b ≤ Lib.ctz 64 w ∧ 64 * i + Lib.ctz 64 w ∈ l ∧ (∀ j, b ≤ j → j < Lib.ctz 64 w → 64 * i + j ∉ l) ∧ RestW l i (Lib.ctz 64 w + 1) (w &&& (w - 1)) ∧ w &&& (w - 1) < w := by
  obtain ⟨m, hm, hk⟩ := ctz_bit h0 h.1
  generalize Lib.ctz 64 w = k at hm hk
  obtain ⟨b1, b2⟩ := bit_of hm
  have hb := h.2 k hk
  rw [b1] at hb
  have hb := hb.symm
  rw [Bool.and_eq_true, decide_eq_true_iff, decide_eq_true_iff] at hb
  refine ⟨hk, hb.1, hb.2, fun j hj hjk hin => ?_, ⟨Nat.lt_of_le_of_lt Nat.and_le_left h.1, fun j hj => ?_⟩, ?_⟩
  · have := h.2 j (by omega)
    rw [b2 j hjk, decide_eq_true hj, decide_eq_true hin] at this; cases this
  · rw [bit_next hm, h.2 j hj]
    by_cases q : k + 1 ≤ j
    · rw [decide_eq_true q, decide_eq_true (show b ≤ j by omega)]; simp
    · rw [decide_eq_false q]; simp
  · have : w &&& (w - 1) ≤ w - 1 := Nat.and_le_right
    omega
theorem RestW.done {l : List Nat} {i b w : Nat} (h : RestW l i b w) (h0 : w = 0) : ∀ j, b ≤ j → j < 64 → 64 * i + j ∉ l := by
  intro j hj hj2 hin
  have := h.2 j hj2
  rw [h0, Nat.zero_testBit, decide_eq_true hj, decide_eq_true hin] at this; cases this
/-- All of a set that are below a bound are below another one. -/
def BelW (l : List Nat) (f b : Nat) : Prop := ∀ d ∈ l, d < b → d < f
theorem BelW.up {l : List Nat} {f a b : Nat} (h : BelW l f a) (hn : ∀ d, a ≤ d → d < b → d ∉ l) : BelW l f b := fun d hd hb => by
  by_cases q : d < a
  · exact h d hd q
  · exact absurd hd (hn d (by omega) hb)
noncomputable def nxN (N : Nat) (l : List Nat) (f : Nat) : Option Nat := (List.range N).find? fun d => decide (d ∈ l) && decide (f ≤ d)
noncomputable def nxO (l : List Nat) (f : Nat) : Option Nat := nxN 1000 l f
theorem nxN_some {N : Nat} {l : List Nat} {f d : Nat} (hN : 640 ≤ N) (hm : ∀ x ∈ l, x < 640) (hd : d ∈ l) (hf : f ≤ d) (hb : BelW l f d) : nxN N l f = some d := by
  unfold nxN
  cases h : (List.range N).find? (fun d => decide (d ∈ l) && decide (f ≤ d)) with
  | none =>
    exfalso
    have := List.find?_eq_none.1 h d (List.mem_range.2 (by have := hm d hd; omega))
    simp [hd, hf] at this
  | some e =>
    have h1 := List.find?_some h
    simp only [Bool.and_eq_true, decide_eq_true_eq] at h1
    obtain ⟨as', bs, hs, hno⟩ := (List.find?_eq_some_iff_append.1 h).2
    congr 1
    rcases Nat.lt_trichotomy e d with q | q | q
    · have := hb e h1.1 q; omega
    · exact q
    · exfalso
      have hpw := List.pairwise_lt_range (n := N)
      rw [hs] at hpw
      have hdr : d ∈ List.range N := List.mem_range.2 (by have := hm d hd; omega)
      rw [hs, List.mem_append, List.mem_cons] at hdr
      rcases hdr with w | w | w
      · have := hno d w; simp [hd, hf] at this
      · omega
      · have := (List.pairwise_append.1 hpw).2.1
        have := (List.pairwise_cons.1 this).1 d w; omega
theorem nxN_none {N : Nat} {l : List Nat} {f : Nat} (hb : ∀ d ∈ l, d < f) : nxN N l f = none := by
  unfold nxN
  rw [List.find?_eq_none]
  intro d _ h
  simp only [Bool.and_eq_true, decide_eq_true_eq] at h
  have := hb d h.1; omega
theorem nxN_iff {N : Nat} {l : List Nat} {f : Nat} (hN : 640 ≤ N) (hm : ∀ x ∈ l, x < 640) : (∃ d, nxN N l f = some d ∧ d ∈ l ∧ f ≤ d ∧ BelW l f d) ∨ (nxN N l f = none ∧ ∀ d ∈ l, d < f) := by
  cases h : nxN N l f with
  | none =>
    right
    refine ⟨rfl, fun d hd => Classical.byContradiction fun q => ?_⟩
    unfold nxN at h
    have := List.find?_eq_none.1 h d (List.mem_range.2 (by have := hm d hd; omega))
    simp only [Bool.and_eq_true, decide_eq_true_eq, not_and] at this
    exact this hd (by omega)
  | some d =>
    left
    unfold nxN at h
    have h1 := List.find?_some h
    simp only [Bool.and_eq_true, decide_eq_true_eq] at h1
    refine ⟨d, rfl, h1.1, h1.2, fun e he hed => Classical.byContradiction fun q => ?_⟩
    obtain ⟨as', bs, hs, hno⟩ := (List.find?_eq_some_iff_append.1 h).2
    have hpw := List.pairwise_lt_range (n := N)
    rw [hs] at hpw
    have her : e ∈ List.range N := List.mem_range.2 (by have := hm e he; omega)
    rw [hs, List.mem_append, List.mem_cons] at her
    rcases her with w | w | w
    · have := hno e w; simp [he] at this; omega
    · omega
    · have := (List.pairwise_append.1 hpw).2.1
      have := (List.pairwise_cons.1 this).1 e w; omega
theorem nxO_some {l : List Nat} {f d : Nat} (hm : ∀ x ∈ l, x < 640) (hd : d ∈ l) (hf : f ≤ d) (hb : BelW l f d) : nxO l f = some d := nxN_some (by decide) hm hd hf hb
theorem nxO_none {l : List Nat} {f : Nat} (hb : ∀ d ∈ l, d < f) : nxO l f = none := nxN_none hb
theorem nxO_iff {l : List Nat} {f : Nat} (hm : ∀ x ∈ l, x < 640) : (∃ d, nxO l f = some d ∧ d ∈ l ∧ f ≤ d ∧ BelW l f d) ∨ (nxO l f = none ∧ ∀ d ∈ l, d < f) := nxN_iff (by decide) hm
/-- Nodes that do not go round are skipped. -/
theorem rndG_iff {g : Gr} {v : Nat} (hv : v < nG g) : v ∈ rndG g ↔ Rc1 (Edg (adjG g)) v v := by
  unfold rndG
  rw [List.mem_filter, List.mem_range, ldB_iff]
  exact ⟨fun q => q.2, fun q => ⟨hv, q⟩⟩
theorem cyc_to {g : Gr} (h : GOk g) {k v : Nat} (hkv : k ≤ v) (hv : v ≤ nG g) (hb : ∀ d ∈ rndG g, d < v → d < k) : cycK (rowO g) v = cycK (rowO g) k :=
  cyc_skip h v hkv fun u h1 h2 q => by have := hb u ((rndG_iff (by omega)).2 q) h2; omega
end Go.H
/- How many bits of a word are 1, reckoned by fields side by side: nothing just where the word is 0. Conditions: aS each lemma states. -/
set_option linter.unusedVariables false
namespace Go.H
end Go.H
/- Operations on words of 64 bits, by natural numbers. Conditions: aS each lemma states. -/
set_option linter.unusedVariables false
namespace Go.Ab
open Go Go.H
theorem u_and {a b : Nat} (ha : a < 18446744073709551616) (hb : b < 18446744073709551616) : bitsI .and .u64 (a : Int) (b : Int) = some ((a &&& b : Nat) : Int) := congrArg some (bits_and_u64_nat a b ha hb)
theorem u_or {a b : Nat} (ha : a < 18446744073709551616) (hb : b < 18446744073709551616) : bitsI .or .u64 (a : Int) (b : Int) = some ((a ||| b : Nat) : Int) := congrArg some (bits_or_u64_nat a b ha hb)
theorem u_shr (a : Nat) {k : Nat} (hk : k < 64) : shiftI .shr .u64 (a : Int) (k : Int) = some ((a / 2 ^ k : Nat) : Int) := by
  show some (Int.fdiv (a : Int) (2 ^ (min k 64))) = _
  rw [Nat.min_eq_left (by omega)]
  have h2 : ((2 : Int) ^ k) = ((2 ^ k : Nat) : Int) := by rw [Int.natCast_pow]; rfl
  rw [h2, Int.fdiv_eq_ediv_of_nonneg _ (Int.natCast_nonneg _)]
  rfl
theorem u_shl1 {k : Nat} (hk : k < 64) : shiftI .shl .u64 1 (k : Int) = some ((2 ^ k : Nat) : Int) := by
  have : 2 ^ k < 18446744073709551616 := Nat.lt_of_lt_of_le (Nat.pow_lt_pow_right (by decide) hk) (by decide)
  show some ((1 * 2 ^ (min k 64) : Int) % 18446744073709551616) = _
  rw [Nat.min_eq_left (by omega), Int.one_mul]
  have h2 : ((2 : Int) ^ k) = ((2 ^ k : Nat) : Int) := by rw [Int.natCast_pow]; rfl
  rw [h2]
  generalize 2 ^ k = p at *
  congr 1
  omega
section
variable {P : Program} {h : List Res} {f : Operand → Option AV} {dst : Option Tmp} {ty : TypeId} {pos : String} {after : Array Edge} {guard : Option (Nat × Bool)} {x y : Operand}
end
end Go.Ab
/- Products, the negative and one less of words of 64 bits; the table of the lowest bit. Conditions: aS each lemma states. -/
set_option linter.unusedVariables false
set_option linter.unusedSimpArgs false
namespace Go.Ab
open Go
def tabC : List AV := Lib.deBruijn64tab.map fun n : Nat => AV.v (.int .u8 (n : Int))
theorem tab_get {i k : Nat} (hi : i < 64) (h : Lib.deBruijn64tab.getD i 0 = k) : tabC[0 + i * 1]? = some (AV.v (.int .u8 (k : Int))) := by
  subst h
  rw [Nat.mul_one, Nat.zero_add]
  unfold tabC
  rw [List.getElem?_map, List.getD_eq_getElem?_getD]
  have hl : i < Lib.deBruijn64tab.length := hi
  rw [List.getElem?_eq_getElem hl, Option.map_some, Option.getD_some]
theorem tabC_at {k : Nat} (hk : k < 64) : 2 ^ k * 285870213051353865 % 18446744073709551616 / 2 ^ 58 < 64 ∧ tabC[0 + (2 ^ k * 285870213051353865 % 18446744073709551616 / 2 ^ 58) * 1]? = some (AV.v (.int .u8 (k : Int))) := by
  have h := Lib.deBruijn64_at k hk
  exact ⟨h.1, tab_get h.1 h.2⟩
theorem u_mul (a b : Nat) : bitsI .mul .u64 (a : Int) (b : Int) = some (((a * b) % 18446744073709551616 : Nat) : Int) := by
  show some (((a : Int) * b) % 18446744073709551616) = _
  congr 1
theorem u_sub1 {a : Nat} (h0 : 0 < a) (h : a < 18446744073709551616) : bitsI .sub .u64 (a : Int) 1 = some ((a - 1 : Nat) : Int) := by
  show some (((a : Int) - 1) % 18446744073709551616) = _
  congr 1; omega
theorem qr_negU {P : Program} {h : List Res} {f : Operand → Option AV} {dst : Option Tmp} {ty : TypeId} {pos : String} {after : Array Edge} {guard : Option (Nat × Bool)} {x : Operand} {T : TypeId} {a : Nat} (hx : f x = some (.v (.int .u64 (a : Int)))) (h0 : 0 < a) (hb : a < 18446744073709551616) : QR P h f ⟨dst, .unOp .neg T x, ty, pos, after, guard⟩ (.v (.int .u64 ((18446744073709551616 - a : Nat) : Int))) := fun X ρ w he => by
  refine ⟨_, run_v _ ?_, .v _⟩
  rw [(he.rel x _ hx).v_eq]
  have e : IntKind.u64.wrap (-(a : Int)) = ((18446744073709551616 - a : Nat) : Int) := by
    show (-(a : Int)) % 18446744073709551616 = _
    omega
  simp [Op.unary, Op.intArith, Int.zero_sub, e]
end Go.Ab
/- Rows merged and sorted, step by step. Conditions: aS each lemma states. -/
set_option linter.unusedVariables false
set_option linter.unusedSimpArgs false
namespace Go.H
open Go Go.Ab
variable {α : Type} (cmp : α → α → Int)
end Go.H
/- append onto a row of one's own, of very many. Conditions: none (rules over any program). -/
set_option linter.unusedVariables false
set_option linter.unusedSimpArgs false
namespace Go.Ab
open Go
section
variable {P : Program} {ro : Option Nat} {nt : Nat} {h : List Res} {f : Operand → Option AV} {dst : Option Tmp} {ty : TypeId} {pos : String} {after : Array Edge} {guard : Option (Nat × Bool)} {x y z : Operand}
end
end Go.Ab
/- The walk of order.Merge. Conditions: none. -/
set_option linter.unusedVariables false
set_option linter.unusedSimpArgs false
set_option maxRecDepth 10000
namespace Go.Proofs
open Go Go.Ab
attribute [local irreducible] QR QV OE aops aw dsoup dsoupM dalloc dallocM thn inBlk jsoup jch lsoup
open Go.H
end Go.Proofs
/- A call that is lent what it reads, and makes something new. Conditions: none (a rule over any program). -/
set_option linter.unusedVariables false
namespace Go.Ab
open Go
theorem FCall.lendG {P : Program} {fv fv' : AV} {args args' : List AV} {h : List Res} {R : AV → List Res → Prop} (hc : FCall P fv' args' [] R) (hR : ∀ r h', R r h' → Scal r ∧ ∀ x ∈ h', ScalR x)
    (hf : BLe h fv fv') (hle : BLes h args args') : FCall P fv args h (fun r h' => ∃ h'', h' = h'' ++ h ∧ R r h'') := by
  intro X w v vs hh hv ha
  refine (hc noX w v vs (hrel_none w) (by rw [OO_none]; exact hf X w v hh hv) (by rw [OO_none]; exact hle.rels hh ha)).mono ?_
  rintro e w' ⟨u, av, h', e1, hRr, hrel, hh', hk⟩
  obtain ⟨hs1, hs2⟩ := hR _ _ hRr
  have hold : ∀ b, b < w.heap.size → w'.heap[b]? = w.heap[b]? ∧ b ∉ owns h' := fun b hb => hk.same b hb (by simp [owns])
  have happ : owns (h' ++ h) = owns h' ++ owns h := by simp [owns, List.flatMap_append]
  have hkk : ∀ b, ¬ OO h X b → b < w.heap.size → w'.heap[b]? = w.heap[b]? ∧ ¬ OO (h' ++ h) X b := fun b hb hl => by
    refine ⟨(hold b hl).1, fun q => ?_⟩
    rcases q with q | q
    · rw [happ, List.mem_append] at q
      rcases q with q | q
      · exact (hold b hl).2 q
      · exact hb (.inl q)
    · exact hb (.inr q)
  have hh2 : HRel X w' (h' ++ h) := by
    refine ⟨?_, fun b hb => ?_, fun b hb => Nat.lt_of_lt_of_le (hh.xlt b hb) hk.size, fun r hr => ?_⟩
    · rw [happ, List.nodup_append]
      exact ⟨hh'.nodup, hh.nodup, fun x hx y hy q => (hold y (hh.lt y hy).1).2 (q ▸ hx)⟩
    · rw [happ, List.mem_append] at hb
      rcases hb with hb | hb
      · exact ⟨(hh'.lt b hb).1, fun hx => (hold b (hh.xlt b hx)).2 hb⟩
      · exact ⟨Nat.lt_of_lt_of_le (hh.lt b hb).1 hk.size, (hh.lt b hb).2⟩
    · rcases List.mem_append.1 hr with hr | hr
      · exact hs2 r hr (hh'.holds r hr)
      · exact Res.holds_keep hk.size hkk (fun b hb => (hold b (hh.lt b (mem_owns.2 ⟨r, hr, hb⟩)).1).1) (hh.holds r hr)
  refine ⟨u, av, _, e1, ⟨_, rfl, hRr⟩, hs1.rel hrel, hh2, ⟨hk.size, fun b hb ho => ⟨(hold b hb).1, fun q => ?_⟩, hk.env⟩⟩
  rw [happ, List.mem_append] at q
  exact q.elim (hold b hb).2 ho
end Go.Ab
/- The walk of order.Sort. Conditions: none. -/
set_option linter.unusedVariables false
set_option linter.unusedSimpArgs false
set_option maxRecDepth 10000
namespace Go.Proofs
open Go Go.Ab
attribute [local irreducible] QR QV OE aops aw dsoup dsoupM dalloc dallocM thn inBlk jsoup jch lsoup
open Go.H
theorem scalEd (l : List Ed) : ∀ r ∈ l.map edR, ∀ a ∈ r, Scal a := by
  intro r hr a ha
  obtain ⟨c, _, rfl⟩ := List.mem_map.1 hr
  simp only [edR, List.mem_cons, List.not_mem_nil, or_false] at ha
  rcases ha with rfl | rfl | rfl <;> exact .v _
end Go.Proofs
/- The walks of order.Unique, of graph's of, Of. Conditions: none. -/
set_option linter.unusedVariables false
set_option linter.unusedSimpArgs false
set_option maxRecDepth 10000
namespace Go.Proofs
open Go Go.Ab
attribute [local irreducible] QR QV OE aops aw dsoup dsoupM dalloc dallocM thn inBlk jsoup jch lsoup
open Go.H
end Go.Proofs
/- A remainder; numbers turned into and out of an unsigned kind. Conditions: aS each lemma states. -/
set_option linter.unusedVariables false
namespace Go.Ab
open Go
section
variable {P : Program} {h : List Res} {f : Operand → Option AV} {dst : Option Tmp} {ty : TypeId} {pos : String} {after : Array Edge} {guard : Option (Nat × Bool)} {x : Operand}
theorem qr_rem {T T' : TypeId} {k : IntKind} {a b c : Int} {y : Operand} (hx : f x = some (.v (.int k a))) (hy : f y = some (.v (.int k b))) (hb : b ≠ 0) (hc : a.tmod b = c) :
    QR P h f ⟨dst, .binOp .rem T x y T', ty, pos, after, guard⟩ (.v (.int k c)) := fun X ρ w he => by
  refine ⟨_, run_v _ ?_, .v _⟩
  rw [(he.rel x _ hx).v_eq, (he.rel y _ hy).v_eq, run_binop_int]
  simp [binOp, Op.intDiv, hb, hc]
end
theorem wrap_i {n : Int} (h0 : 0 ≤ n) (h1 : n < 9223372036854775808) : IntKind.i64.wrap n = n := IntWalk.i64_in _ ⟨by omega, by omega⟩
end Go.Ab
/- The walks of bits' may, or, of OnesCount64. Conditions: none. -/
set_option linter.unusedVariables false
set_option linter.unusedSimpArgs false
set_option maxRecDepth 10000
namespace Go.Proofs
open Go Go.Ab
attribute [local irreducible] QR QV OE aops aw dsoup dsoupM dalloc dallocM thn inBlk jsoup jch lsoup
open Go.H
abbrev w64R (n : Nat) : List AV := [.v (.int .u64 (n : Int))]
theorem wrdsA_len (l : List Nat) : (wrdsA l).length = l.length := by simp [wrdsA]
theorem wrdsA_app (l : List Nat) (x : Nat) : wrdsA l ++ [w64R x] = wrdsA (l ++ [x]) := by simp [wrdsA]
theorem wrdsA_set (l : List Nat) (k x : Nat) : (wrdsA l).set k (w64R x) = wrdsA (l.set k x) := by simp [wrdsA, List.map_set]
theorem wF_at {l : List Nat} {n i : Nat} (hi : i < n) : (wrdsA (wordsF l n))[i]? = some (w64R (wrdL l i)) := by
  rw [wrdsA, List.getElem?_map, wordsF_at hi]; rfl
theorem wF_set {l : List Nat} {m a : Nat} : (wrdsA (wordsF l m)).set (a / 64) (w64R (wrdL l (a / 64) ||| 2 ^ (a % 64))) = wrdsA (wordsF (l ++ [a]) m) := by rw [wrdsA_set, wordsF_set]
theorem len_640 {l : List Nat} (h : ∀ x ∈ l, x < 640) : lenW l ≤ 10 := lenW_le.2 fun n hn => by have := h n hn; omega
theorem bMay (n : Int) : ACall Tryz.prog 86 [iv n] [] (fun r h' => h' = [] ∧ r = bv (decide (0 ≤ n) && decide (n < 10000))) := by
  refine acall_of_aw Tryz.func86 rfl rfl rfl ?_
  refine rn ?_
  refine asplit (fun hg1_2 => ?_) (fun hg1_2 => ?_)
  · refine rn ?_
    refine rq 0 ?_
    exact ⟨rfl, congrArg bv (by first | (simp_all; done) | (simp_all <;> omega))⟩
  · refine rn ?_
    refine rq 0 ?_
    exact ⟨rfl, congrArg bv (by first | (simp_all; done) | (simp_all <;> omega))⟩
theorem bOr (a b : Nat) (ha : a < 18446744073709551616) (hb : b < 18446744073709551616) : ACall Tryz.prog 88 [.v (.int .u64 ((a : Nat) : Int)), .v (.int .u64 ((b : Nat) : Int))] [] (fun r h' => h' = [] ∧ r = .v (.int .u64 ((a ||| b : Nat) : Int))) := by
  refine acall_of_aw Tryz.func88 rfl rfl rfl ?_
  refine aw_seq (aw_region ?_)
  refine q1 ?_
  refine aops_nil (thn_n ?_)
  refine aw_seq (aw_region ?_)
  refine q1 ?_
  refine q1 ?_
  refine qq rfl rfl (qr_bits rfl rfl (u_or ha hb)) ?_
  refine rn ?_
  refine rq 0 ?_
  exact ⟨rfl, rfl⟩
end Go.Proofs
/- The walks of bits' turned, made. Conditions: none. -/
set_option linter.unusedVariables false
set_option linter.unusedSimpArgs false
set_option maxRecDepth 10000
namespace Go.Proofs
open Go Go.Ab
attribute [local irreducible] QR QV OE aops aw dsoup dsoupM dalloc dallocM thn inBlk jsoup jch lsoup
open Go.H
theorem lenW_app (l : List Nat) (a : Nat) : lenW (l ++ [a]) = max (lenW l) (a / 64 + 1) := lenW_s l a
theorem wrd_lt (l : List Nat) (i : Nat) : wrdL l i < 18446744073709551616 := wrdL_lt l i
theorem pow_lt {a : Nat} : 2 ^ (a % 64) < 18446744073709551616 := Nat.lt_of_lt_of_le (Nat.pow_lt_pow_right (by decide) (Nat.mod_lt a (by decide))) (by decide)
abbrev wordsA (l : List Nat) : AV := .list false 1 (wrdsA l)
theorem cloneRowW64 {f : Bool} (rows : List (List AV)) (hl : rows.length ≤ 1099511627776) (hone : ∀ r ∈ rows, r.all AV.one = true) : ACall Tryz.prog 109 [.list f 1 rows] [] (fun r h' => ∃ s, h' = [.row s 1 105 rows] ∧ r = .v s) := by
  refine acall_of_aw Tryz.func109 rfl rfl rfl ?_
  refine rn ?_
  refine aops_e rfl (oe_eqnil rfl rfl rfl fun b4 hb4 => ?_)
  refine rn ?_
  refine aw_cond rfl (fun hc4 => ?_) (fun hc4 => ?_)
  · refine rn ?_
    have h0 := hb4 hc4
    subst h0
    exact retq (.cons _ _ _ _ (.tmp _ _ rfl) .nil) (vent_nilrow 1 105 _) ⟨_, rfl, rfl⟩
  · refine rn ?_
    refine aops_e rfl (oe_buildRow rfl rfl rfl fun s5 => ?_)
    refine rn ?_
    refine aops_e rfl (oe_append_row rfl rfl (by simpa using hl) rfl (fun s7 => ?_) hone)
    refine rn ?_
    exact retq (.cons _ _ _ _ (.tmp _ _ rfl) .nil) (.refl _ _) ⟨_, by rw [List.nil_append], rfl⟩
set_option maxHeartbeats 4000000 in
theorem bTurned {f : Bool} (l : List Nat) (a : Nat) (hl : lenW l ≤ 1000) (ha : a < 10000) : ACall Tryz.prog 87 [.list f 1 (wrdsA (wordsL l)), iv (a : Int), .fn (.func 88) [] []] [] (fun r h' => h' = [] ∧ r = wordsA (wordsL (l ++ [a]))) := by
  refine acall_of_aw Tryz.func87 rfl rfl rfl ?_
  refine rn ?_
  refine aops_e rfl (oe_call rfl rfl (FCall.of_fun (cloneRowW64 (f := f) (wrdsA (wordsL l)) (by rw [wrdsA_len, wordsL_len]; omega) (wrdsA_one _))) rfl ?_)
  rintro _ _ ⟨s, rfl, rfl⟩
  refine aops_slice s fun sv0 hsv0 => ?_
  subst hsv0
  refine rn ?_
  refine aw_while (fun x : Nat × SV => lenW l ≤ x.1 ∧ x.1 ≤ lenW (l ++ [a])) (fun x => ⟨[(7, .v x.2.v), (1, iv (a : Int)), (2, .fn (.func 88) [] [])], .row x.2.v 1 105 (wrdsA (wordsF l (x.1))) :: [], []⟩) (fun x => lenW (l ++ [a]) - x.1) (lenW l, sv0) ⟨Nat.le_refl _, by rw [lenW_app]; exact Nat.le_max_left _ _⟩ es ?_
  rintro ⟨m, s⟩ ⟨h1, h2⟩
  simp only at h1 h2
  have hmx := lenW_app l a
  show aw _ _ _ _ _ ⟨[(7, .v s.v), (1, iv (a : Int)), (2, .fn (.func 88) [] [])], .row s.v 1 105 (wrdsA (wordsF l (m))) :: [], []⟩
  refine aw_seq ?_
  refine aw_seq (aw_region ?_)
  refine q1 ?_
  refine q1 ?_
  refine q1 ?_
  refine qq rfl rfl (qr_quo (c := ((a / 64 : Nat) : Int)) rfl rfl (by decide) rfl (by omega)) ?_
  refine rn ?_
  refine aw_cond rfl (fun hc14 => ?_) (fun hc14 => ?_)
  · have hlt : m ≤ a / 64 := by have q := of_decide_eq_true hc14; rw [wrdsA_len, wordsF_len] at q; omega
    refine rn ?_
    refine qv rfl rfl (qv_buildSlice rfl rfl) ?_
    refine aops_e rfl (oe_append_row rfl rfl (by rw [wrdsA_len, wordsF_len]; simp only [List.length_cons, List.length_nil]; omega) rfl (fun s27 => ?_) (fun r hr => by rw [List.mem_singleton.1 hr]; rfl))
    refine aops_slice s27 fun sv hsv => ?_
    subst hsv
    refine rn ?_
    exact ⟨(m + 1, sv), ⟨by simp only; omega, by simp only; omega⟩, by rw [← wordsF_more h1, ← wrdsA_app]; exact eA, by simp only; omega⟩
  · have hge : a / 64 < m := by have q := of_decide_eq_false hc14; rw [wrdsA_len, wordsF_len] at q; omega
    refine rn ?_
    refine aw_draw 13 rfl ?_
    refine dq rfl rfl qrA ?_
    refine dq rfl rfl qrA ?_
    refine dq rfl rfl (qr_quo (c := ((a / 64 : Nat) : Int)) rfl rfl (by decide) rfl (by omega)) ?_
    refine dq rfl rfl qrA ?_
    refine dq rfl rfl qrA ?_
    refine dq rfl rfl qrA ?_
    refine dq rfl rfl (qr_quo (c := ((a / 64 : Nat) : Int)) rfl rfl (by decide) rfl (by omega)) ?_
    refine dq rfl rfl (qr_index_row (k := a / 64) rfl rfl (by rw [wrdsA_len, wordsF_len]; exact hge)) ?_
    refine dq rfl rfl (qr_load_rp_one rfl (wF_at hge) rfl) ?_
    refine dq rfl rfl qrA ?_
    refine dq rfl rfl (qr_rem (c := ((a % 64 : Nat) : Int)) rfl rfl (by decide) rfl) ?_
    refine dq rfl rfl (qr_shift rfl rfl (u_shl1 (Nat.mod_lt a (by decide))) (Int.natCast_nonneg _)) ?_
    refine dv rfl rfl (by exact qv_call rfl rfl (FCall.pure (R := fun r => r = .v (.int .u64 ((wrdL l (a / 64) ||| 2 ^ (a % 64) : Nat) : Int))) (FCall.of_fun (bOr _ _ (wrd_lt l _) pow_lt)))) ?_
    refine rn2 ?_
    refine qq rfl rfl (qr_index_row (k := a / 64) rfl rfl (by rw [wrdsA_len, wordsF_len]; exact hge)) ?_
    refine aops_e rfl (oe_store_rp (k := a / 64) rfl rfl rfl (wF_at hge) rfl (Nat.le_of_ble_eq_true rfl) ?_)
    rw [st1, show ([AV.v (Value.int .u64 ((wrdL l (a / 64) ||| 2 ^ (a % 64) : Nat) : Int))] : List AV) = w64R (wrdL l (a / 64) ||| 2 ^ (a % 64)) from rfl, wF_set]
    refine rn ?_
    have hm : m = lenW (l ++ [a]) := by omega
    subst hm
    exact retq (.cons _ _ _ _ (.tmp _ _ rfl) .nil) vent_freeze ⟨rfl, rfl⟩
set_option maxHeartbeats 4000000 in
theorem bMade {f : Bool} (l : List Nat) (hl : lenW l ≤ 1000) : ACall Tryz.prog 89 [.list f 1 (wrdsA (wordsL l))] [] (fun r h' => h' = [] ∧ r = .agg [wordsA (wordsL l)]) := by
  refine acall_of_aw Tryz.func89 rfl rfl rfl ?_
  refine rn ?_
  refine aops_e rfl (oe_alloc rfl fun b2 => ?_)
  refine aops_nil (thn_n ?_)
  refine aw_seq (aw_region ?_)
  refine q1 ?_
  refine qq rfl rfl (qr_as (qr_len_list rfl) (show iv _ = iv (lenW l : Nat) from congrArg iv (by rw [wrdsA_len, wordsL_len]))) ?_
  refine rn ?_
  refine aw_while (fun _ : Unit => True) (fun _ => ⟨[(3, iv (lenW l : Nat)), (0, .list f 1 (wrdsA (wordsL l))), (2, .v (.pointer (some ⟨b2, 0, none⟩)))], .box b2 78 [.v (.slice none 0 0)] :: [], []⟩) (fun _ => 0) () trivial es ?_
  rintro _ _
  refine rn ?_
  refine asplit (fun hg2_2 => ?_) (fun hg2_2 => ?_)
  · refine q1 ?_
    refine q1 ?_
    refine qq rfl rfl (qr_as (qr_ari rfl rfl rfl (by omega)) (show iv _ = iv ((lenW l - 1 : Nat) : Int) from congrArg iv (by have q := hg2_2; simp at q; omega))) ?_
    refine qq rfl rfl (qr_index_list (i := lenW l - 1) rfl rfl (wF_at (by have q := hg2_2; simp at q; omega))) ?_
    refine rn ?_
    refine aw_cond rfl (fun hc16 => ?_) (fun hc16 => ?_)
    · exact absurd hc16 (by have h0 := words_last (l := l) (by have q := hg2_2; simp at q; omega); simp; omega)
    · refine rn ?_
      refine aops_e rfl (oe_makeSlice rfl rfl rfl (by omega) (hk := fun bm => ?_))
      refine aops_slice (.slice (some ⟨bm, 0, none⟩) (lenW l) (lenW l)) fun sv hsv => ?_
      rw [hsv]
      clear hsv
      refine q1 ?_
      refine aops_nil (thn_n ?_)
      refine aw_seq (aw_region ?_)
      refine q1 ?_
      refine q1 ?_
      refine q1 ?_
      refine q1 ?_
      refine qq rfl rfl (qr_as (qr_slice_hm (k := lenW l) rfl rfl rfl (by rw [wrdsA_len, wordsL_len]; exact Nat.le_refl _)) (show AV.list true 1 _ = .list true 1 (wrdsA (wordsL l)) by rw [List.take_of_length_le (by rw [wrdsA_len, wordsL_len]; exact Nat.le_refl _)])) ?_
      refine aops_e rfl (oe_copy_ln (lenW l) rfl rfl (by rw [List.length_replicate, wrdsA_len, wordsL_len]; exact Nat.min_self _) rfl (hk := ?_) (wrdsA_one _))
      rw [List.take_of_length_le (by rw [wrdsA_len, wordsL_len]; exact Nat.le_refl _), List.drop_eq_nil_of_le (by rw [List.length_replicate]; exact Nat.le_refl _), List.append_nil]
      refine rn ?_
      exact retq (.cons _ _ _ _ (.agg _ _ _ _ _ _ _ rfl inferInstance inferInstance inferInstance rfl) .nil) (.trans (vent_freeze_cell [] []) (.drop [_] _ _)) ⟨rfl, rfl⟩
  · refine rn ?_
    refine aw_cf rfl ?_
    refine rn ?_
    refine aops_e rfl (oe_makeSlice rfl rfl rfl (by omega) (hk := fun bm => ?_))
    refine aops_slice (.slice (some ⟨bm, 0, none⟩) (lenW l) (lenW l)) fun sv hsv => ?_
    rw [hsv]
    clear hsv
    refine q1 ?_
    refine aops_nil (thn_n ?_)
    refine aw_seq (aw_region ?_)
    refine q1 ?_
    refine q1 ?_
    refine q1 ?_
    refine q1 ?_
    refine qq rfl rfl (qr_as (qr_slice_hm (k := lenW l) rfl rfl rfl (by rw [wrdsA_len, wordsL_len]; exact Nat.le_refl _)) (show AV.list true 1 _ = .list true 1 (wrdsA (wordsL l)) by rw [List.take_of_length_le (by rw [wrdsA_len, wordsL_len]; exact Nat.le_refl _)])) ?_
    refine aops_e rfl (oe_copy_ln (lenW l) rfl rfl (by rw [List.length_replicate, wrdsA_len, wordsL_len]; exact Nat.min_self _) rfl (hk := ?_) (wrdsA_one _))
    rw [List.take_of_length_le (by rw [wrdsA_len, wordsL_len]; exact Nat.le_refl _), List.drop_eq_nil_of_le (by rw [List.length_replicate]; exact Nat.le_refl _), List.append_nil]
    refine rn ?_
    exact retq (.cons _ _ _ _ (.agg _ _ _ _ _ _ _ rfl inferInstance inferInstance inferInstance rfl) .nil) (.trans (vent_freeze_cell [] []) (.drop [_] _ _)) ⟨rfl, rfl⟩
end Go.Proofs
