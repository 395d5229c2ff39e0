/- The walk of history.Number. Conditions: none. -/
import Derived.Test.YtmbbjpoljcmhlaaGreatDoorEndsI
import Derived.Test.YtmbbjpoljcmhlaaGreatDoorCards
set_option linter.unusedSimpArgs false
set_option linter.unusedVariables false
set_option linter.unusedVariables false
set_option linter.unusedSimpArgs false
set_option maxRecDepth 10000
namespace Go.Proofs
open Go Go.Ab
attribute [local irreducible] QR QV OE aops aw dsoup dsoupM dalloc dallocM thn inBlk
open Go.H
end Go.Proofs
/- The walk of history.Complete. Conditions: none. -/
set_option linter.unusedVariables false
set_option linter.unusedSimpArgs false
set_option maxRecDepth 10000
namespace Go.Proofs
open Go Go.Ab
attribute [local irreducible] QR QV OE aops aw dsoup dsoupM dalloc dallocM thn inBlk
open Go.H
theorem ownL (h : Hist) (la : Lim 1099511627776 h) (L : List Res) : FCall Tryz.prog (.fn (.func 77) [] []) [.agg (histC h)] L (fun r h' => ∃ (n : NV) (o : OH), o.hist = h ∧ h' = L ++ nmR n h (ohF o []) ∧ r = .agg (n.cells ++ o.cells)) := by
  refine FCall.permR (((FCall.of_fun (own h la)).frame L).mono ?_)
  rintro _ _ ⟨h1, rfl, n, o, ho, rfl, rfl⟩
  rw [show ohR o = ohF o [] from by rw [← ohF_eq, List.append_nil]]
  exact ⟨_, List.perm_append_comm, n, o, ho, rfl, rfl⟩
set_option maxHeartbeats 4000000 in
theorem complete (h : Hist) (la : Lim 4611686018427387904 h) : ACall Tryz.prog 27 [.agg (histC h)] [.glob 1 114 limitsC, .glob 2 235 firstC, .glob 3 238 acceptC] (fun r h' => (complE h = 0 → ∃ (n : NV) (o : OH), o.hist = complH h ∧ h' = [.glob 1 114 limitsC, .glob 2 235 firstC, .glob 3 238 acceptC] ++ nmR n (complH h) (ohF o []) ∧ r = .tup [.agg (n.cells ++ o.cells), iv 0]) ∧ (complE h ≠ 0 → h' = [.glob 1 114 limitsC, .glob 2 235 firstC, .glob 3 238 acceptC] ∧ r = .tup [.agg histZ, iv (complE h)])) := by
  refine acall_of_aw Tryz.func27 rfl rfl rfl ?_
  refine rn ?_
  refine aops_e rfl (oe_box rfl rfl rfl fun b1 => ?_)
  refine aops_e rfl (oe_alloc rfl fun b2 => ?_)
  refine rn ?_
  refine qv rfl rfl (qv_call rfl rfl (FCall.qt (FCall.of_fun (check h la)) ((pt2 _ _ _ _).trans (.cons _ ((pt2 _ _ _ _).trans (.cons _ (pt2 _ _ _ _))))))) ?_
  refine rn ?_
  refine aw_cond rfl (fun hc15 => ?_) (fun hc15 => ?_)
  · have hm : mayB h = false := by
      cases hq : mayB h with
      | false => rfl
      | true => rw [check_0.2 hq] at hc15; cases hc15
    refine rn ?_
    have hc := complE_210 hm
    have h210 : checkE h = 210 := by rw [checkE, hm]; rfl
    exact retq (.cons _ _ _ _ (.agg _ _ _ _ _ _ _ rfl inferInstance inferInstance inferInstance rfl) (.cons _ _ _ _ (.tmp _ _ rfl) .nil)) (.drop [_, _] _ _) ⟨fun q => absurd (hc.symm.trans q) (by decide), fun _ => ⟨rfl, by rw [hc, h210]; rfl⟩⟩
  · have hm : mayB h = true := check_0.1 (by simpa using hc15)
    have hs := may_shaped hm
    have la3 := shaped_lim hs
    refine rn ?_
    refine aops_e rfl (oe_call rfl rfl (ownL h (la3.mono (by decide)) _) rfl ?_)
    rintro _ _ ⟨n, o, ho, rfl, rfl⟩
    subst ho
    have hev := (shaped_parts hs).2.1
    show aops _ _ _ _ _ _ ⟨_, .box b2 28 histZ :: .box b1 28 (histC o.hist) :: .glob 1 114 limitsC :: .glob 2 235 firstC :: .glob 3 238 acceptC :: .row n.vT.v 1 9 (o.hist.ts.map strR) :: .row n.vS.v 1 9 (o.hist.ss.map strR) :: .row n.vO.v 1 9 (o.hist.os.map strR) :: .row n.vP.v 1 9 (o.hist.ps.map strR) :: .row o.vE.v 9 77 ((o.evs).map evRw) :: .row o.vR.v 2 98 (o.ords.map ordRw) :: .row o.vM.v 4 91 (o.mats.map matRw) :: .row o.vW.v 2 102 (o.wants.map wanR) :: (scR 81 o.evs ++ (otR 3 o.ords ++ (mtR 3 o.mats ++ []))), _⟩
    refine rn ?_
    refine aops_e rfl (oe_makeSlice rfl rfl rfl (by have := la3.ts; simp; omega) (hk := fun bo => ?_))
    refine rn ?_
    refine aw_loop' (fun k : Nat => k ≤ o.evs.length) (fun k => ⟨[(27, iv k), (26, iv (o.evs.map evRw).length), (25, .v o.vE.v), (5, .v (.slice (some ⟨bo, 0, none⟩) (o.hist.ts.map strR).length (o.hist.ts.map strR).length : Value)), (1, .v (.pointer (some ⟨b1, 0, none⟩))), (2, .v (.pointer (some ⟨b2, 0, none⟩)))], .row (.slice (some ⟨bo, 0, none⟩) (o.hist.ts.map strR).length (o.hist.ts.map strR).length : Value) 1 4 (opensA (o.hist.ts.map strR).length (fun t => begunL (o.hist.evs.take k) (t : Nat))) :: .box b2 28 histZ :: .box b1 28 (n.cells ++ [.v o.vE.v, .v o.vR.v, .v o.vM.v, .v o.vW.v]) :: .glob 1 114 limitsC :: .glob 2 235 firstC :: .glob 3 238 acceptC :: .row n.vT.v 1 9 (o.hist.ts.map strR) :: .row n.vS.v 1 9 (o.hist.ss.map strR) :: .row n.vO.v 1 9 (o.hist.os.map strR) :: .row n.vP.v 1 9 (o.hist.ps.map strR) :: .row o.vE.v 9 77 ((o.evs).map evRw) :: .row o.vR.v 2 98 (o.ords.map ordRw) :: .row o.vM.v 4 91 (o.mats.map matRw) :: .row o.vW.v 2 102 (o.wants.map wanR) :: (scR 81 (o.evs) ++ (otR 3 o.ords ++ (mtR 3 o.mats ++ []))), []⟩) (fun k => o.evs.length - k) 0 (by omega)
      (by rw [show opensA (o.hist.ts.map strR).length (fun t => begunL (o.hist.evs.take 0) (t : Nat)) = List.replicate (o.hist.ts.map strR).length [AV.v (.bool false)] from (opens_start _).symm]; exact (ent_sub (.cons _ _ _ rfl (.cons _ _ _ rfl (.cons _ _ _ rfl (.cons _ _ _ rfl (.cons _ _ _ rfl (.cons _ _ _ rfl (.nil))))))))) ?_
    intro k hk
    refine rn ?_
    refine aw_cond rfl (fun hc28 => ?_) (fun hc28 => ?_)
    · have hk2 : k < o.evs.length := by simpa using hc28
      obtain ⟨sv, e, hp⟩ : ∃ sv e, o.evs[k]? = some (sv, e) := ⟨o.evs[k].1, o.evs[k].2, by simp [hk2]⟩
      have hrow : (o.evs.map evRw)[k]? = some (evRw (sv, e)) := by simp [hp]
      have hk3 : k < (o.evs.map evRw).length := by simpa using hk2
      have hek : o.hist.evs[k]? = some e := by simp [OH.hist, hp]
      have hek2 : k < o.hist.evs.length := by simpa [OH.hist] using hk2
      have hek3 : e = o.hist.evs[k] := by rw [List.getElem?_eq_getElem hek2] at hek; exact (Option.some.inj hek).symm
      obtain ⟨_, _, het, _⟩ := event_parts (hev e (by rw [hek3]; simp))
      have het2 := (toldB_iff _ _).1 het
      obtain ⟨m, hm0⟩ : ∃ m : Nat, e.t = m := ⟨e.t.toNat, by omega⟩
      have hle := la3.evs
      obtain ⟨ki, t, es_, el, eo, ev_, ep, esc⟩ := e
      simp only at hm0
      subst hm0
      have hmN : m < (o.hist.ts.map strR).length := by rw [List.length_map]; have := het2.2; simp only at this; omega
      have hmN2 := opens_len (o.hist.ts.map strR).length (fun t => begunL (o.hist.evs.take k) (t : Nat))
      have hmN3 : m < (opensA (o.hist.ts.map strR).length (fun t => begunL (o.hist.evs.take k) (t : Nat))).length := by rw [hmN2]; exact hmN
      have hopn := opens_get (f := fun t => begunL (o.hist.evs.take k) (t : Nat)) hmN
      have htk := take_snoc' hek2 hek3
      refine aw_skip ?_
      refine thn_n ?_
      refine aw_seq ?_
      refine aw_block ?_
      refine aw_seq (aw_region ?_)
      refine q1 ?_
      refine qq rfl rfl (qr_load_rp_all (row := evRw (sv, ⟨ki, ((m : Nat) : Int), es_, el, eo, ev_, ep, esc⟩)) rfl hrow rfl) ?_
      refine aops_e rfl (oe_alloc rfl fun b7 => ?_)
      refine rn ?_
      refine aw_draw 13 rfl ?_
      refine dq rfl rfl qrA ?_
      refine dq rfl rfl qrA ?_
      refine dq rfl rfl qrA ?_
      refine dq rfl rfl qrA ?_
      refine dq rfl rfl qrA ?_
      refine dq rfl rfl qrA ?_
      refine dq rfl rfl (qr_index_row rfl rfl hmN3) ?_
      refine dq rfl rfl (qr_load_rp_one rfl hopn rfl) ?_
      refine rn ?_
      refine dsplit (fun hg9_8 => ?_) (fun hg9_8 => ?_)
      · refine rn2 ?_
        refine qq rfl rfl (qr_index_row rfl rfl hmN3) ?_
        refine aops_e rfl (oe_store_rp rfl rfl rfl hopn rfl (Nat.le_of_ble_eq_true rfl) ?_)
        refine rn ?_
        have hset := opens_set (f := fun t => begunL (o.hist.evs.take k) (t : Nat)) (g := fun t => begunL (o.hist.evs.take (k + 1)) (t : Nat)) hmN (fun t ht => by simp only [htk]; rw [begun_other rfl ht]) ([bv (begunL (o.hist.evs.take k) ((m : Nat) : Int))].take 0 ++ [bv true] ++ [bv (begunL (o.hist.evs.take k) ((m : Nat) : Int))].drop (0 + 1)) (by simp only [htk]; rw [begun_this rfl]; exact congrArg (fun b => [bv b]) (begin_1 hg9_8))
        exact ⟨k + 1, by omega, (by rw [← hset]; exact (ent_trans (ent_drop (h1 := [_])) (ent_sub (.cons _ _ _ rfl (.cons _ _ _ rfl (.cons _ _ _ rfl (.cons _ _ _ rfl (.cons _ _ _ rfl (.cons _ _ _ rfl (.nil)))))))))), by omega⟩
      · refine rn2 ?_
        refine qq rfl rfl (qr_index_row rfl rfl hmN3) ?_
        refine aops_e rfl (oe_store_rp rfl rfl rfl hopn rfl (Nat.le_of_ble_eq_true rfl) ?_)
        refine rn ?_
        have hset := opens_set (f := fun t => begunL (o.hist.evs.take k) (t : Nat)) (g := fun t => begunL (o.hist.evs.take (k + 1)) (t : Nat)) hmN (fun t ht => by simp only [htk]; rw [begun_other rfl ht]) ([bv (begunL (o.hist.evs.take k) ((m : Nat) : Int))].take 0 ++ [bv (ki == 1)] ++ [bv (begunL (o.hist.evs.take k) ((m : Nat) : Int))].drop (0 + 1)) (by simp only [htk]; rw [begun_this rfl]; exact congrArg (fun b => [bv b]) (begin_2 hg9_8))
        exact ⟨k + 1, by omega, (by rw [← hset]; exact (ent_trans (ent_drop (h1 := [_])) (ent_sub (.cons _ _ _ rfl (.cons _ _ _ rfl (.cons _ _ _ rfl (.cons _ _ _ rfl (.cons _ _ _ rfl (.cons _ _ _ rfl (.nil)))))))))), by omega⟩
    · obtain rfl : k = o.evs.length := by
        have : ¬ k < o.evs.length := by simpa using hc28
        omega
      have hta : o.hist.evs.take o.evs.length = o.hist.evs := List.take_of_length_le (by simp [OH.hist])
      refine rn ?_
      refine aw_loop' (fun k : Nat => k ≤ o.evs.length) (fun k => ⟨[(49, iv k), (48, iv (o.evs.map evRw).length), (47, .v o.vE.v), (5, .v (.slice (some ⟨bo, 0, none⟩) (o.hist.ts.map strR).length (o.hist.ts.map strR).length : Value)), (1, .v (.pointer (some ⟨b1, 0, none⟩))), (2, .v (.pointer (some ⟨b2, 0, none⟩)))], .row (.slice (some ⟨bo, 0, none⟩) (o.hist.ts.map strR).length (o.hist.ts.map strR).length : Value) 1 4 (opensA (o.hist.ts.map strR).length (fun t => begunL o.hist.evs (t : Nat) && !overL (o.hist.evs.take k) (t : Nat))) :: .box b2 28 histZ :: .box b1 28 (n.cells ++ [.v o.vE.v, .v o.vR.v, .v o.vM.v, .v o.vW.v]) :: .glob 1 114 limitsC :: .glob 2 235 firstC :: .glob 3 238 acceptC :: .row n.vT.v 1 9 (o.hist.ts.map strR) :: .row n.vS.v 1 9 (o.hist.ss.map strR) :: .row n.vO.v 1 9 (o.hist.os.map strR) :: .row n.vP.v 1 9 (o.hist.ps.map strR) :: .row o.vE.v 9 77 ((o.evs).map evRw) :: .row o.vR.v 2 98 (o.ords.map ordRw) :: .row o.vM.v 4 91 (o.mats.map matRw) :: .row o.vW.v 2 102 (o.wants.map wanR) :: (scR 81 (o.evs) ++ (otR 3 o.ords ++ (mtR 3 o.mats ++ []))), []⟩) (fun k => o.evs.length - k) 0 (by omega)
        (by rw [show opensA (o.hist.ts.map strR).length (fun t => begunL o.hist.evs (t : Nat) && !overL (o.hist.evs.take 0) (t : Nat)) = opensA (o.hist.ts.map strR).length (fun t => begunL (o.hist.evs.take o.evs.length) (t : Nat)) from by simp [hta, overL]]; exact (ent_sub (.cons _ _ _ rfl (.cons _ _ _ rfl (.cons _ _ _ rfl (.cons _ _ _ rfl (.cons _ _ _ rfl (.cons _ _ _ rfl (.nil))))))))) ?_
      intro k hk
      refine rn ?_
      refine aw_cond rfl (fun hc50 => ?_) (fun hc50 => ?_)
      · have hk2 : k < o.evs.length := by simpa using hc50
        obtain ⟨sv, e, hp⟩ : ∃ sv e, o.evs[k]? = some (sv, e) := ⟨o.evs[k].1, o.evs[k].2, by simp [hk2]⟩
        have hrow : (o.evs.map evRw)[k]? = some (evRw (sv, e)) := by simp [hp]
        have hk3 : k < (o.evs.map evRw).length := by simpa using hk2
        have hek : o.hist.evs[k]? = some e := by simp [OH.hist, hp]
        have hek2 : k < o.hist.evs.length := by simpa [OH.hist] using hk2
        have hek3 : e = o.hist.evs[k] := by rw [List.getElem?_eq_getElem hek2] at hek; exact (Option.some.inj hek).symm
        obtain ⟨_, _, het, _⟩ := event_parts (hev e (by rw [hek3]; simp))
        have het2 := (toldB_iff _ _).1 het
        obtain ⟨m, hm0⟩ : ∃ m : Nat, e.t = m := ⟨e.t.toNat, by omega⟩
        have hle := la3.evs
        obtain ⟨ki, t, es_, el, eo, ev_, ep, esc⟩ := e
        simp only at hm0
        subst hm0
        have hmN : m < (o.hist.ts.map strR).length := by rw [List.length_map]; have := het2.2; simp only at this; omega
        have hmN2 := opens_len (o.hist.ts.map strR).length (fun t => begunL o.hist.evs (t : Nat) && !overL (o.hist.evs.take k) (t : Nat))
        have hmN3 : m < (opensA (o.hist.ts.map strR).length (fun t => begunL o.hist.evs (t : Nat) && !overL (o.hist.evs.take k) (t : Nat))).length := by rw [hmN2]; exact hmN
        have hopn := opens_get (f := fun t => begunL o.hist.evs (t : Nat) && !overL (o.hist.evs.take k) (t : Nat)) hmN
        have htk := take_snoc' hek2 hek3
        refine aw_skip ?_
        refine thn_n ?_
        refine aw_seq ?_
        refine aw_block ?_
        refine aw_seq (aw_region ?_)
        refine q1 ?_
        refine qq rfl rfl (qr_load_rp_all (row := evRw (sv, ⟨ki, ((m : Nat) : Int), es_, el, eo, ev_, ep, esc⟩)) rfl hrow rfl) ?_
        refine aops_e rfl (oe_alloc rfl fun b9 => ?_)
        refine rn ?_
        refine aw_draw 18 rfl ?_
        refine dq rfl rfl qrA ?_
        refine dq rfl rfl qrA ?_
        refine dq rfl rfl qrA ?_
        refine dq rfl rfl qrA ?_
        refine dq rfl rfl qrA ?_
        refine dq rfl rfl qrA ?_
        refine dq rfl rfl (qr_index_row rfl rfl hmN3) ?_
        refine dq rfl rfl (qr_load_rp_one rfl hopn rfl) ?_
        refine rn ?_
        refine dsplit (fun hg14_8 => ?_) (fun hg14_8 => ?_)
        · refine rn ?_
          refine dsplit (fun hg14_13 => ?_) (fun hg14_13 => ?_)
          · refine rn2 ?_
            refine qq rfl rfl (qr_index_row rfl rfl hmN3) ?_
            refine aops_e rfl (oe_store_rp rfl rfl rfl hopn rfl (Nat.le_of_ble_eq_true rfl) ?_)
            refine rn ?_
            have hset := opens_set (f := fun t => begunL o.hist.evs (t : Nat) && !overL (o.hist.evs.take k) (t : Nat)) (g := fun t => begunL o.hist.evs (t : Nat) && !overL (o.hist.evs.take (k + 1)) (t : Nat)) hmN (fun t ht => by simp only [htk]; rw [over_other rfl ht]) ([bv (begunL o.hist.evs ((m : Nat) : Int) && !overL (o.hist.evs.take k) ((m : Nat) : Int))].take 0 ++ [bv (ki != 6)] ++ [bv (begunL o.hist.evs ((m : Nat) : Int) && !overL (o.hist.evs.take k) ((m : Nat) : Int))].drop (0 + 1)) (by simp only [htk]; rw [over_this rfl]; exact congrArg (fun b => [bv b]) (open_1 hg14_8 hg14_13))
            exact ⟨k + 1, by omega, (by rw [← hset]; exact (ent_trans (ent_drop (h1 := [_])) (ent_sub (.cons _ _ _ rfl (.cons _ _ _ rfl (.cons _ _ _ rfl (.cons _ _ _ rfl (.cons _ _ _ rfl (.cons _ _ _ rfl (.nil)))))))))), by omega⟩
          · refine rn2 ?_
            refine qq rfl rfl (qr_index_row rfl rfl hmN3) ?_
            refine aops_e rfl (oe_store_rp rfl rfl rfl hopn rfl (Nat.le_of_ble_eq_true rfl) ?_)
            refine rn ?_
            have hset := opens_set (f := fun t => begunL o.hist.evs (t : Nat) && !overL (o.hist.evs.take k) (t : Nat)) (g := fun t => begunL o.hist.evs (t : Nat) && !overL (o.hist.evs.take (k + 1)) (t : Nat)) hmN (fun t ht => by simp only [htk]; rw [over_other rfl ht]) ([bv (begunL o.hist.evs ((m : Nat) : Int) && !overL (o.hist.evs.take k) ((m : Nat) : Int))].take 0 ++ [bv false] ++ [bv (begunL o.hist.evs ((m : Nat) : Int) && !overL (o.hist.evs.take k) ((m : Nat) : Int))].drop (0 + 1)) (by simp only [htk]; rw [over_this rfl]; exact congrArg (fun b => [bv b]) (open_2 hg14_8 hg14_13))
            exact ⟨k + 1, by omega, (by rw [← hset]; exact (ent_trans (ent_drop (h1 := [_])) (ent_sub (.cons _ _ _ rfl (.cons _ _ _ rfl (.cons _ _ _ rfl (.cons _ _ _ rfl (.cons _ _ _ rfl (.cons _ _ _ rfl (.nil)))))))))), by omega⟩
        · refine rn2 ?_
          refine qq rfl rfl (qr_index_row rfl rfl hmN3) ?_
          refine aops_e rfl (oe_store_rp rfl rfl rfl hopn rfl (Nat.le_of_ble_eq_true rfl) ?_)
          refine rn ?_
          have hset := opens_set (f := fun t => begunL o.hist.evs (t : Nat) && !overL (o.hist.evs.take k) (t : Nat)) (g := fun t => begunL o.hist.evs (t : Nat) && !overL (o.hist.evs.take (k + 1)) (t : Nat)) hmN (fun t ht => by simp only [htk]; rw [over_other rfl ht]) ([bv (begunL o.hist.evs ((m : Nat) : Int) && !overL (o.hist.evs.take k) ((m : Nat) : Int))].take 0 ++ [bv false] ++ [bv (begunL o.hist.evs ((m : Nat) : Int) && !overL (o.hist.evs.take k) ((m : Nat) : Int))].drop (0 + 1)) (by simp only [htk]; rw [over_this rfl]; exact congrArg (fun b => [bv b]) (open_3 hg14_8))
          exact ⟨k + 1, by omega, (by rw [← hset]; exact (ent_trans (ent_drop (h1 := [_])) (ent_sub (.cons _ _ _ rfl (.cons _ _ _ rfl (.cons _ _ _ rfl (.cons _ _ _ rfl (.cons _ _ _ rfl (.cons _ _ _ rfl (.nil)))))))))), by omega⟩
      · obtain rfl : k = o.evs.length := by
          have : ¬ k < o.evs.length := by simpa using hc50
          omega
        have hta : o.hist.evs.take o.evs.length = o.hist.evs := List.take_of_length_le (by simp [OH.hist])
        refine rn ?_
        refine aw_loop' (fun x : Nat × SV => x.1 ≤ o.hist.ts.length) (fun x => ⟨[(75, iv x.1), (74, iv (o.hist.ts.map strR).length), (73, .v (.slice (some ⟨bo, 0, none⟩) (o.hist.ts.map strR).length (o.hist.ts.map strR).length : Value)), (1, .v (.pointer (some ⟨b1, 0, none⟩))), (2, .v (.pointer (some ⟨b2, 0, none⟩)))], .row (.slice (some ⟨bo, 0, none⟩) (o.hist.ts.map strR).length (o.hist.ts.map strR).length : Value) 1 4 (opensA (o.hist.ts.map strR).length (isOpen o.hist)) :: .box b2 28 histZ :: .box b1 28 (n.cells ++ [.v x.2.v, .v o.vR.v, .v o.vM.v, .v o.vW.v]) :: .glob 1 114 limitsC :: .glob 2 235 firstC :: .glob 3 238 acceptC :: .row n.vT.v 1 9 (o.hist.ts.map strR) :: .row n.vS.v 1 9 (o.hist.ss.map strR) :: .row n.vO.v 1 9 (o.hist.os.map strR) :: .row n.vP.v 1 9 (o.hist.ps.map strR) :: .row x.2.v 9 77 ((o.evs ++ abR (opensTo o.hist x.1)).map evRw) :: .row o.vR.v 2 98 (o.ords.map ordRw) :: .row o.vM.v 4 91 (o.mats.map matRw) :: .row o.vW.v 2 102 (o.wants.map wanR) :: (scR 81 (o.evs ++ abR (opensTo o.hist x.1)) ++ (otR 3 o.ords ++ (mtR 3 o.mats ++ []))), []⟩) (fun x => o.hist.ts.length - x.1) (0, o.vE) (by simp)
          (by simp only [show opensTo o.hist 0 = [] from rfl, abR, List.map_nil, List.append_nil, opens_len]; rw [show opensA (o.hist.ts.map strR).length (isOpen o.hist) = opensA (o.hist.ts.map strR).length (fun t => begunL o.hist.evs (t : Nat) && !overL (o.hist.evs.take o.evs.length) (t : Nat)) from by simp only [hta]; rfl]; exact (ent_sub (.cons _ _ _ rfl (.cons _ _ _ rfl (.cons _ _ _ rfl (.cons _ _ _ rfl (.cons _ _ _ rfl (.nil)))))))) ?_
        rintro ⟨k, s⟩ hk
        simp only at hk
        refine rn ?_
        refine aw_cond rfl (fun hc76 => ?_) (fun hc76 => ?_)
        · have hk2 : k < (o.hist.ts.map strR).length := by simpa using hc76
          have hkt : k < o.hist.ts.length := by simpa using hk2
          have hk3 : k < (opensA (o.hist.ts.map strR).length (isOpen o.hist)).length := by rw [opens_len]; exact hk2
          have hopn := opens_get (f := isOpen o.hist) hk2
          have hlt := la3.ts
          have hle := la3.evs
          have hle2 : o.evs.length ≤ 3000 := by simpa [OH.hist] using hle
          have hol := opensTo_len o.hist k
          refine aw_skip ?_
          refine thn_n ?_
          refine aw_seq ?_
          refine aw_block ?_
          refine aw_seq (aw_region ?_)
          refine q1 ?_
          refine q1 ?_
          refine qq rfl rfl (qr_load_rp_one rfl hopn rfl) ?_
          refine rn ?_
          refine aw_cond rfl (fun hc80 => ?_) (fun hc80 => ?_)
          · have hop : isOpen o.hist k = true := hc80
            refine rn ?_
            refine qv rfl rfl (qv_buildSlice rfl rfl) ?_
            refine aops_e rfl (oe_append_row rfl rfl (by simp [abR]; omega) rfl (fun s86 => ?_) (fun r hr => by simp at hr; subst hr; rfl))
            refine aops_slice s86 fun sv hsv => ?_
            subst hsv
            refine rn ?_
            have hrows : (o.evs ++ abR (opensTo o.hist k)).map evRw ++ [evRw (nilS, abortE k)] = (o.evs ++ abR (opensTo o.hist (k + 1))).map evRw := by rw [opensTo_go hop]; simp [abR]
            have hsc : scR 81 (o.evs ++ abR (opensTo o.hist (k + 1))) = scR 81 (o.evs ++ abR (opensTo o.hist k)) ++ [.row nilS.v 3 81 []] := by rw [opensTo_go hop, abR, List.map_append, ← List.append_assoc]; exact scR_snoc _ _ _
            exact ⟨(k + 1, sv), by simp only; omega, (by rw [← hrows, hsc, List.append_assoc (scR 81 (o.evs ++ abR (opensTo o.hist k)))]; exact ent_trans (ent_nilrow 3 81) (ent_trans (ent_pcs (l1 := [[_], [_, _, _, _, _, _, _, _, _, _, _, _, _, _], scR 81 (o.evs ++ abR (opensTo o.hist k)), otR 3 o.ords, mtR 3 o.mats]) (l2 := [[_, _, _, _, _, _, _, _, _, _, _, _, _, _], scR 81 (o.evs ++ abR (opensTo o.hist k)), [_], otR 3 o.ords, mtR 3 o.mats]) ((pt1 _ _ _).trans (.cons _ (pt1 _ _ _)))) (ent_sub (.cons _ _ _ rfl (.cons _ _ _ rfl (.cons _ _ _ rfl (.cons _ _ _ rfl (.cons _ _ _ rfl (.nil))))))))), by simp only; omega⟩
          · have hop : isOpen o.hist k = false := hc80
            refine rn ?_
            exact ⟨(k + 1, s), by simp only; omega, (by simp only [opensTo_no hop]; exact (ent_sub (.cons _ _ _ rfl (.cons _ _ _ rfl (.cons _ _ _ rfl (.cons _ _ _ rfl (.cons _ _ _ rfl (.nil)))))))), by simp only; omega⟩
        · obtain rfl : k = o.hist.ts.length := by
            have : ¬ k < (o.hist.ts.map strR).length := by simpa using hc76
            simp at this; omega
          refine rn ?_
          refine aw_cond rfl (fun hc92 => ?_) (fun hc92 => ?_)
          · have hc : complE o.hist = 6 := complE_6 hm (many_6 hc92)
            refine rn ?_
            exact retq (.cons _ _ _ _ (.agg _ _ _ _ _ _ _ rfl inferInstance inferInstance inferInstance rfl) (.cons _ _ _ _ (.tmp _ _ rfl) .nil)) (.trans (.perm (pcs_perm (l1 := [[_, _, _], [.glob 1 114 limitsC, .glob 2 235 firstC, .glob 3 238 acceptC], [_, _, _, _, _, _, _, _], scR 81 (o.evs ++ abR (opensTo o.hist o.hist.ts.length)), otR 3 o.ords, mtR 3 o.mats]) (l2 := [[_, _, _], [_, _, _, _, _, _, _, _], scR 81 (o.evs ++ abR (opensTo o.hist o.hist.ts.length)), otR 3 o.ords, mtR 3 o.mats, [.glob 1 114 limitsC, .glob 2 235 firstC, .glob 3 238 acceptC]]) (.cons _ ((pt1 _ _ _).trans (.cons _ ((pt1 _ _ _).trans (.cons _ ((pt1 _ _ _).trans (.cons _ (pt1 _ _ _)))))))) []) _) (vent_drops [[_, _, _], [_, _, _, _, _, _, _, _], scR 81 (o.evs ++ abR (opensTo o.hist o.hist.ts.length)), otR 3 o.ords, mtR 3 o.mats] [.glob 1 114 limitsC, .glob 2 235 firstC, .glob 3 238 acceptC] _)) ⟨fun q => absurd (hc.symm.trans q) (by decide), fun _ => ⟨rfl, by rw [hc]; rfl⟩⟩
          · have hc : complE o.hist = 0 := complE_0 hm (many_0 hc92)
            refine rn ?_
            exact retq (.cons _ _ _ _ (.agg _ _ _ _ _ _ _ rfl inferInstance inferInstance inferInstance rfl) (.cons _ _ _ _ (.tmp _ _ rfl) .nil)) (.drop [_, _, _] _ _) ⟨fun _ => ⟨n, { o with vE := s, evs := o.evs ++ abR (opensTo o.hist o.hist.ts.length) }, compl_hist o s, rfl, rfl⟩, fun q => absurd hc q⟩
end Go.Proofs
/- Number and Complete, read plainly; the law's small history. Conditions: none. -/
set_option linter.unusedVariables false
set_option linter.unusedSimpArgs false
set_option maxRecDepth 10000
namespace Go.Proofs
open Go Go.Ab
attribute [local irreducible] QR QV OE aops aw dsoup dsoupM dalloc dallocM thn inBlk
open Go.H
theorem completeP (h : Hist) (la : Lim 4611686018427387904 h) : ACall Tryz.prog 27 [.agg (histC h)] [.glob 1 114 limitsC, .glob 2 235 firstC, .glob 3 238 acceptC] (fun r h' => h' = [.glob 1 114 limitsC, .glob 2 235 firstC, .glob 3 238 acceptC] ∧ r = .tup [.agg (histC (complR h)), iv (complE h)]) := by
  refine (complete h la).ventR ?_
  rintro r h' ⟨ht, hf⟩
  by_cases hs : complE h = 0
  · obtain ⟨n, o, ho, rfl, rfl⟩ := ht hs
    refine ⟨_, _, (by rw [← ho]; exact hist_freeze [.glob 1 114 limitsC, .glob 2 235 firstC, .glob 3 238 acceptC] n o 9 77 98 91 102 81 3 (nmR n o.hist (ohF o [])) (by simp [nmR, OH.hist]) (by simp [nmR, OH.hist]) (by simp [nmR, OH.hist]) (by simp [nmR, OH.hist]) (by simp [nmR, ohF]) (by simp [nmR, ohF]) (by simp [nmR, ohF]) (by simp [nmR, ohF]) (fun r hr => by simp [nmR, ohF, hr]) (fun r hr => by simp [nmR, ohF, hr]) (fun r hr => by simp [nmR, ohF, hr]) (iv 0) (.v _)), rfl, ?_⟩
    rw [ho, complR, if_pos hs, hs]
  · obtain ⟨rfl, rfl⟩ := hf (hs)
    refine ⟨_, _, .le (Sb.tups (aS := [.agg histZ, _]) (bs := [.agg (histC hist0), _]) ⟨Sb.aggs (aS := histZ) (bs := histC hist0) ⟨.nil _ _, .nil _ _, .nil _ _, .nil _ _, .nil _ _, .nil _ _, .nil _ _, .nil _ _, trivial⟩, .refl _, trivial⟩).le, rfl, ?_⟩
    rw [complR, if_neg hs]
end Go.Proofs
/- The walk of slices.IsSorted. Conditions: none. -/
set_option linter.unusedVariables false
set_option linter.unusedSimpArgs false
set_option maxRecDepth 10000
namespace Go.Proofs
open Go Go.Ab
attribute [local irreducible] QR QV OE aops aw dsoup dsoupM dalloc dallocM thn inBlk
open Go.H
theorem cmpNaN (a : Int) : ACall Tryz.prog 146 [iv a] [] (fun r h' => h' = [] ∧ r = bv false) := by
  refine acall_of_aw Tryz.func146 rfl rfl rfl ?_
  refine rn ?_
  refine rq 0 ?_
  exact ⟨rfl, congrArg bv (by simp)⟩
theorem cmpLess (a b : Int) : ACall Tryz.prog 80 [iv a, iv b] [] (fun r h' => h' = [] ∧ r = bv (decide (a < b))) := by
  refine acall_of_aw Tryz.func80 rfl rfl rfl ?_
  refine rn ?_
  refine qv rfl rfl (qv_call rfl rfl (pcall (cmpNaN _) (Sbs.refl _))) ?_
  refine rn ?_
  refine rq 0 ?_
  exact ⟨rfl, rfl⟩
theorem isSorted {f : Bool} (l : List Int) (hp : l.Pairwise (· ≤ ·)) (hl : l.length ≤ 4611686018427387904) : ACall Tryz.prog 28 [.list f 1 (l.map intR)] [] (fun r h' => h' = [] ∧ r = bv true) := by
  refine acall_of_aw Tryz.func28 rfl rfl rfl ?_
  have hl2 : (l.map intR).length ≤ 4611686018427387904 := by simpa using hl
  refine rn ?_
  refine aw_while (fun i : Int => i < l.length) (fun i => ⟨[(3, iv i), (0, .list f 1 (l.map intR))], [], []⟩) (fun i => i.toNat) (((l.map intR).length : Int) - 1) (by simp; omega) es ?_
  intro i hi
  refine rn ?_
  refine aw_cond rfl (fun hc8 => ?_) (fun hc8 => ?_)
  · have h0 : 0 < i := by simpa using hc8
    have h1 : i.toNat < l.length := by omega
    have h2 : (i - 1).toNat < l.length := by omega
    have r1 := atRow (f := intR) h1
    have r2 := atRow (f := intR) h2
    refine rn ?_
    refine aw_draw 9 rfl ?_
    refine dq rfl rfl qrA ?_
    refine dq rfl rfl qrA ?_
    refine dq rfl rfl (qr_index_int rfl rfl (by omega) r1) ?_
    refine dq rfl rfl qrA ?_
    refine dq rfl rfl qrA ?_
    refine dq rfl rfl qrA ?_
    refine dq rfl rfl qrA ?_
    refine dq rfl rfl (qr_index_int rfl rfl (by omega) r2) ?_
    refine rn ?_
    refine qv rfl rfl (qv_call rfl rfl (pcall (cmpLess _ _) (Sbs.refl _))) ?_
    refine rn ?_
    refine aw_cond rfl (fun hc20 => ?_) (fun hc20 => ?_)
    · exact absurd (of_decide_eq_true hc20) (Int.not_lt.2 (List.pairwise_iff_getElem.1 hp _ _ h2 h1 (by omega)))
    · refine rn ?_
      exact ⟨i - 1, by omega, eA, by omega⟩
  · refine rn ?_
    refine rq 0 ?_
    exact ⟨rfl, rfl⟩
end Go.Proofs
/- The walk of RulesEnds. Conditions: none. -/
set_option linter.unusedVariables false
set_option linter.unusedSimpArgs false
set_option maxRecDepth 10000
namespace Go.Proofs
open Go Go.Ab
attribute [local irreducible] QR QV OE aops aw dsoup dsoupM dalloc dallocM thn inBlk jsoup jch lsoup
open Go.H
set_option maxHeartbeats 4000000 in
theorem rulesEnds (x : Hist) (la : Lim 4611686018427387904 x) : ACall Tryz.prog 6 [.agg (histC x)] [.glob 1 114 limitsC, .glob 2 235 firstC, .glob 3 238 acceptC, .glob 0 104 asksC] (fun r h' => h' = [.glob 1 114 limitsC, .glob 2 235 firstC, .glob 3 238 acceptC, .glob 0 104 asksC] ∧ r = bv true) := by
  refine acall_of_aw Tryz.func6 rfl rfl rfl ?_
  refine rn ?_
  refine aops_e rfl (oe_box rfl rfl rfl fun b1 => ?_)
  refine rn ?_
  refine qv rfl rfl (qv_call rfl rfl (FCall.qt (FCall.of_fun wakesA) ((pt1 _ _ _).trans (.cons _ ((pt1 _ _ _).trans (.cons _ ((pt1 _ _ _).trans (.cons _ (pt1 _ _ _))))))))) ?_
  refine rn ?_
  refine aw_cond rfl (fun hc12 => ?_) (fun hc12 => ?_)
  · exact absurd hc12 (by decide)
  · refine rn ?_
    refine qv rfl rfl (qv_call rfl rfl (pcall (few x la) (Sbs.refl _))) ?_
    refine aops_e rfl (oe_alloc rfl fun b3 => ?_)
    refine rn ?_
    refine qv rfl rfl (qv_call rfl rfl (FCall.qt (FCall.of_fun (rSound (fewA x) ((fewA_lim x).mono (by decide)))) ((pt2 _ _ _ _).trans (.cons _ ((pt2 _ _ _ _).trans (.cons _ ((pt2 _ _ _ _).trans (.cons _ (pt2 _ _ _ _))))))))) ?_
    refine rn ?_
    refine aw_cond rfl (fun hc17 => ?_) (fun hc17 => ?_)
    · refine rn ?_
      refine rq 2 ?_
      exact ⟨rfl, rfl⟩
    · have hs : soundB (fewA x) = true := by simpa using hc17
      obtain ⟨he, hC, hcs, hcl⟩ := ends15 hs
      obtain ⟨hm, hf⟩ := sound_may hs
      obtain ⟨hcm, _⟩ := sound_may hcs
      have few_evs := (fewA_lim x).evs
      refine rn ?_
      refine qv rfl rfl (qv_call rfl rfl (FCall.qt (FCall.of_fun (completeP (fewA x) ((fewA_lim x).mono (by decide)))) ((pt2 _ _ _ _).trans (.cons _ ((pt2 _ _ _ _).trans (.cons _ (pt2 _ _ _ _))))))) ?_
      refine rn ?_
      refine aops_e rfl (oe_alloc rfl fun b4 => ?_)
      first | refine aops_e rfl (oe_store_all rfl rfl rfl ?_) | refine aops_e rfl (oe_store rfl rfl rfl rfl (Nat.le_of_ble_eq_true rfl) ?_)
      refine q1 ?_
      refine aops_nil (thn_n ?_)
      refine aw_seq ?_
      refine aw_seq (aw_region ?_)
      refine q1 ?_
      refine qq rfl rfl (qr_cmp (c := false) rfl rfl (by rw [he]; rfl)) ?_
      refine rn ?_
      refine qv rfl rfl (qv_call rfl rfl (by rw [hC]; exact FCall.qt (FCall.of_fun (soundT (complH (fewA x)) (hcl.mono (by decide)) hcs)) ((pt3 _ _ _ _ _).trans (.cons _ ((pt3 _ _ _ _ _).trans (.cons _ ((pt3 _ _ _ _ _).trans (.cons _ (pt3 _ _ _ _ _))))))))) ?_
      refine rn ?_
      refine aw_cond rfl (fun hc29 => ?_) (fun hc29 => ?_)
      · exact absurd hc29 (by decide)
      · refine rn ?_
        refine aw_rng ((fewA x).os.length) (fun k : Nat => True) (fun k => [(33, iv k)]) [(3, _), (4, _), (32, _)] trivial ?_
        intro k lk _
        refine rn ?_
        refine aw_cond rfl (fun hc34 => ?_) (fun hc34 => ?_)
        · have hk := ltMap hc34
          have rk := atRow (f := strR) hk
          have ol := (fewA_lim x).os
          refine rn ?_
          refine qv rfl rfl (qv_call rfl rfl (FCall.qt (FCall.of_fun (writersM (fewA x) (k : Nat) hm)) ((pt3 _ _ _ _ _).trans (.cons _ ((pt3 _ _ _ _ _).trans (.cons _ ((pt3 _ _ _ _ _).trans (.cons _ (pt3 _ _ _ _ _))))))))) ?_
          refine rn ?_
          refine qv rfl rfl (qv_call rfl rfl (by rw [hC]; exact FCall.qt (FCall.of_fun (writersE (fewA x) (k : Nat) hcm)) ((pt3 _ _ _ _ _).trans (.cons _ ((pt3 _ _ _ _ _).trans (.cons _ ((pt3 _ _ _ _ _).trans (.cons _ (pt3 _ _ _ _ _))))))))) ?_
          refine rn ?_
          refine qv rfl rfl (qv_call rfl rfl (pcall (equalT (writersP (fewA x).evs (k : Nat)) (Nat.le_trans (writers_le _ _) (Nat.le_trans (few_evs) (by decide)))) (Sbs.refl _))) ?_
          refine rn ?_
          refine qv rfl rfl (qv_call rfl rfl (pcall (isSorted (writersP (fewA x).evs (k : Nat)) (writers_le' _ _) (Nat.le_trans (writers_le _ _) (Nat.le_trans (few_evs) (by decide)))) (Sbs.refl _))) ?_
          refine rn ?_
          refine aw_cond rfl (fun hc64 => ?_) (fun hc64 => ?_)
          · exact absurd hc64 (by decide)
          · refine rn ?_
            exact ⟨hk, trivial, eA⟩
        · have qk := geMap hc34 lk
          refine rn ?_
          refine rq 3 ?_
          exact ⟨rfl, rfl⟩
end Go.Proofs
/- RulesEnds: the row and the tied card. Conditions: none. -/
set_option linter.unusedVariables false
set_option maxRecDepth 100000
namespace Go.Proofs.YtmbbjpoljcmhlaaGreatDoor
open Go Go.Ab Go.H Go.ChangeShapes Go.WideShapes Go.ChangeAt Go.RowKit
theorem rulesEnds_lifted (os : Os) (started : os.Started) (K : Type) (enc : TypeId × Value → K) :
    ReturnsInHanded {} Tryz.checked os 6 .any (fun w args => (Rows.rulesEndsSpec.pre enc Tryz.prog Tryz.f6 [] false w args ∧ laidMetH Tryz.prog laid4 w) ∧ sizedMet enc Tryz.prog Tryz.f6 (OpenSpec.ofChange Rows.rulesEndsSpec) false w args)
      (Rows.rulesEndsSpec.post enc Tryz.prog Tryz.f6 false true false false) := by
  refine returnsInHanded_of_change_and (C := Tryz.checked) (X := fun w _ => laidMetH Tryz.prog laid4 w) (fun _ _ _ hh h => h.of_heap hh) own started (by kernel_rfl) Tryz.func6
    (ChangeSpec.witness_shaped (enc := enc) (C := Tryz.checked) (os := os) (X := fun w _ => laidMetH Tryz.prog laid4 w) false (wit os)
      #[.agg #[.slice none 0 0, .slice none 0 0, .slice none 0 0, .slice none 0 0, .slice none 0 0, .slice none 0 0, .slice none 0 0, .slice none 0 0]] 8 (wit_os _)
      (World.shaped_of_ZipB (by kernel_rfl) (by kernel_rfl)) (by kernel_rfl) (by kernel_rfl) (by kernel_rfl)
      (wit_met _ _)) ?_
  intro W base args ds gs before hval0 hW _ hsz hL _
  have hval : ∀ (j : Nat) t v, Tryz.f6.params[j]? = some t → args[j]? = some v → Value.okWide Tryz.prog W .any base t v := hval0
  have hlt := hW.lt
  have hW' := hW
  obtain ⟨p, q, hA0, hV, rfl, hfz, hnd⟩ := hW
  have hA : DataW.TrodAll enc Tryz.prog W 0 (fun _ => true) true Tryz.f6.params.toList args.toList ds p := hA0
  rw [Tryz.params6] at hA hval
  obtain ⟨v0, d0, rfl, rfl, h0⟩ := trodAll_one hA
  have hlt0 : ∀ x ∈ p, x.block < W.heap.size := fun x hx => hlt x (by simp [hx])
  obtain ⟨rfl, rfl⟩ := trodVars_none hV
  have hw0 : ∀ n ∈ d0.weights Tryz.prog 28, n ≤ reachBytes := fun n hn => by
    have := List.all_eq_true.1 hsz n (DataW.weights_mem_each (j := 0) (t := 28) (d := d0) (by kernel_rfl) rfl n hn)
    simpa using this
  have hv0 := hval 0 28 v0 rfl rfl
  unfold Value.okWide at hv0
  rw [Tryz.underlying28] at hv0
  obtain ⟨cs0, rfl, _, _⟩ := hv0
  obtain ⟨x0, hlim0, hrel0⟩ := hist_of h0 hw0
  refine (((rulesEnds x0 hlim0) noX W [.agg cs0] (laid_hrel4 hL) ⟨by rw [OO_G4]; exact hrel0, trivial⟩).calls (fun k => room_FW none k)).mono fun e W' hp => ?_
  obtain ⟨v, av, h', rfl, ⟨rfl, rfl⟩, hr, _, hk⟩ := hp
  obtain rfl := hr.v_eq
  simp only [List.append_nil] at hW'
  refine ⟨_, rfl, _, _, _, [], _, [], hW', trodAll_mk1 (shut_bool Tryz.underlying4 _), trodAll_mk1 (trod_keep hk h0 hlt0), rfl, keep_but hk _, fun h => by cases h⟩
theorem rulesEnds_holds : Rows.RulesEndsSaid :=
  OpenClaim.holds_of_wide 6 Tryz.f6 rfl rfl rfl rfl rfl rfl rfl ⟨rfl, rfl, rfl, rfl, rfl⟩ rfl rfl rfl rfl rfl (by kernel_rfl) Tryz.func6 (by kernel_rfl)
    (of_decide_eq_true (by kernel_rfl)) (by unfold Func.isWrapper; first | (rw [if_pos (by decide +kernel)]; kernel_rfl) | (rw [if_neg (by decide +kernel)]; exact ⟨rfl, rfl⟩))
    (fun os started H enc _ => rulesEnds_lifted os started H enc)
theorem rulesEnds_card : Rows.RulesEndsCardSaid :=
  Claim7.holds_tied_plain_at .later [] [.data, .data, .funcs, .pinned] true (true, "d55ab8e815a290dad6f2351e9d6ec18f48be6eec6ef6cea3a1db13a56bb930ed") false rulesEnds_holds (fun _ h => by cases h) (by kernel_rfl) (fun _ h => by cases h) rulesEnds_row_tie rfl ⟨rfl, rfl⟩ (by kernel_rfl) rfl
    (fun f fn hf hfn => by
      obtain rfl : f = 6 := Option.some.inj ((show Tryz.prog.funcNamed "yardarm/yardarmlaw15.RulesEnds" = some 6 by kernel_rfl).symm.trans hf) |>.symm
      obtain rfl : fn = Tryz.f6 := (Option.some.inj (Tryz.func6.symm.trans hfn)).symm
      exact ⟨by kernel_rfl, fun j t ht => by
        rw [Tryz.params6] at ht
        have hm : t ∈ [28] := by simpa using Array.mem_of_getElem? ht
        have hall : ([28].all fun u => !Tryz.prog.wantsStandIn u) = true := by kernel_rfl
        exact (show Tryz.prog.wantsStandIn t = false by simpa using List.all_eq_true.1 hall t hm)⟩)
    (by kernel_rfl)
#print axioms rulesEnds_card
end Go.Proofs.YtmbbjpoljcmhlaaGreatDoor
