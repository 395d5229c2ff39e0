/- The walk of history.Number. Conditions: none. -/
import Derived.Test.YtcickpoefijkmaaGreatDoorPartsF
set_option linter.unusedVariables false
set_option linter.unusedSimpArgs false
set_option maxRecDepth 10000
namespace Go.Proofs
open Go Go.Ab
attribute [local irreducible] QR QV OE aops aw dsoup dsoupM dalloc dallocM thn inBlk
open Go.H
theorem ownN (h : Hist) (la : Lim 1099511627776 h) (L : List Res) : FCall Tryz.prog (.fn (.func 46) [] []) [.agg (histC h)] L (fun r h' => ∃ o : OH, o.hist = h ∧ h' = L ++ ohF o [] ∧ r = .agg (namesC h ++ o.cells)) := by
  have h0 : ACall Tryz.prog 46 [.agg (histC h)] [] (fun r h' => ∃ o : OH, o.hist = h ∧ h' = ohF o [] ∧ r = .agg (namesC h ++ o.cells)) := by
    refine (own h la).ventR ?_
    rintro _ _ ⟨n, o, ho, rfl, rfl⟩
    exact ⟨_, _, (vent_freeze_cell [] _).trans ((vent_freeze_cell [_] _).trans ((vent_freeze_cell [_, _] _).trans (vent_freeze_cell [_, _, _] _))), o, ho, by rw [← ohF_eq, List.append_nil], rfl⟩
  refine FCall.permR (((FCall.of_fun h0).frame L).mono ?_)
  rintro _ _ ⟨h1, rfl, o, ho, rfl, rfl⟩
  exact ⟨_, List.perm_append_comm, o, ho, rfl, rfl⟩
theorem shapedN (h : Hist) (la : Lim 4611686018427387904 h) : FCall Tryz.prog (.fn (.func 31) [] []) [.agg (histC h)] [.glob 0 68 limitsC, .glob 1 168 firstC, .glob 2 171 acceptC] (fun r h' => h' = [.glob 0 68 limitsC, .glob 1 168 firstC, .glob 2 171 acceptC] ∧ r = bv (shapedB h)) := FCall.of_fun (shaped h la)
theorem namesO (h : Hist) (o : OH) : ACall Tryz.prog 33 [.agg (namesC h ++ o.cells)] [] (fun r h' => h' = [] ∧ r = .agg (namesC h)) := by
  refine acall_of_aw Tryz.func33 rfl rfl rfl ?_
  refine rn ?_
  refine aops_e rfl (oe_box rfl rfl rfl fun b1 => ?_)
  refine aops_e rfl (oe_alloc rfl fun b2 => ?_)
  refine rn ?_
  exact retq (.cons _ _ _ _ (.agg _ _ _ _ _ _ _ rfl inferInstance inferInstance inferInstance rfl) .nil) (.drop [_, _] _ _) ⟨rfl, rfl⟩
def INum (lp : LP) (q r20 b2 b4 b5 b6 : Nat) (h : Hist) : Olds → List Res → Prop := fun k L => KOk h k ∧ ∃ (A : AN) (es : List ((Int × Int) × AV)), MapK es k ∧ A.map (·.2) = k.mapIdx (fun s l => l.map (nameAt (nmK h s))) ∧ L = lp .ready none :: .defs q :: .box b5 74 (A.map cellA) :: .box b6 86 [.v (.map (some r20))] :: .map r20 (encM int2K es) :: .box b4 74 (namesC h) :: .box b2 28 histZ :: (A.map rowA ++ [.glob 0 68 limitsC, .glob 1 168 firstC, .glob 2 171 acceptC])
set_option maxHeartbeats 4000000 in
theorem number (h : Hist) (la : Lim 4611686018427387904 h) : ACall Tryz.prog 15 [.agg (histC h)] [.glob 0 68 limitsC, .glob 1 168 firstC, .glob 2 171 acceptC] (fun r h' => (shapedB h = true → ∃ (n : NV) (o : OH), o.hist = numberH h ∧ h' = [.glob 0 68 limitsC, .glob 1 168 firstC, .glob 2 171 acceptC] ++ nmR n (numberH h) (ohF o []) ∧ r = .tup [.agg (n.cells ++ o.cells), iv 0]) ∧ (shapedB h = false → h' = [.glob 0 68 limitsC, .glob 1 168 firstC, .glob 2 171 acceptC] ∧ r = .tup [.agg histZ, iv 210])) := by
  refine acall_of_aw Tryz.func15 rfl rfl rfl ?_
  refine rn ?_
  refine aops_e rfl (oe_box rfl rfl rfl fun b1 => ?_)
  refine aops_e rfl (oe_alloc rfl fun b2 => ?_)
  refine rn ?_
  refine qv rfl rfl (qv_call rfl rfl (FCall.qt (shapedN h la) ((pt2 _ _ _ _).trans (.cons _ ((pt2 _ _ _ _).trans (.cons _ (pt2 _ _ _ _))))))) ?_
  refine rn ?_
  refine aw_cond rfl (fun hc14 => ?_) (fun hc14 => ?_)
  · have hs : shapedB h = false := not_t hc14
    refine rn ?_
    exact retq (.cons _ _ _ _ (.agg _ _ _ _ _ _ _ rfl inferInstance inferInstance inferInstance rfl) (.cons _ _ _ _ (.tmp _ _ rfl) .nil)) (.drop [_, _] _ _) ⟨fun q => absurd (hs.symm.trans q) (by decide), fun _ => ⟨rfl, rfl⟩⟩
  · have hs : shapedB h = true := not_f hc14
    have la3 := shaped_lim hs
    refine rn ?_
    refine aops_e rfl (oe_call rfl rfl (ownN h (la3.mono (by decide)) _) rfl ?_)
    rintro _ _ ⟨o, ho, rfl, rfl⟩
    show aops _ _ _ _ _ _ ⟨_, .box b2 28 histZ :: .box b1 28 (histC h) :: .glob 0 68 limitsC :: .glob 1 168 firstC :: .glob 2 171 acceptC :: .row o.vE.v 9 39 (o.evs.map evRw) :: .row o.vR.v 2 61 (o.ords.map ordRw) :: .row o.vM.v 4 64 (o.mats.map matRw) :: .row o.vW.v 2 67 (o.wants.map wanR) :: (scR 59 o.evs ++ (otR 3 o.ords ++ (mtR 3 o.mats ++ []))), _⟩
    refine rn ?_
    refine qv rfl rfl (qv_call rfl rfl (pcall (namesO h o) (Sbs.refl _))) ?_
    refine aops_e rfl (oe_alloc rfl fun b4 => ?_)
    refine rn ?_
    refine aops_e rfl (oe_alloc rfl fun b5 => ?_)
    refine rn ?_
    refine aops_e rfl (oe_makeMap (enc := int2K) rfl fun r20 => ?_)
    refine aops_e rfl (oe_alloc rfl fun b6 => ?_)
    refine rn ?_
    refine aops_e rfl (oe_call rfl rfl (FCall.of_fun (spoken b1 _)) rfl ?_)
    rintro _ _ ⟨b1', rfl, rfl⟩
    refine rn ?_
    refine aw_ent (ent_trans (ent_nilrow 1 9) (ent_trans (ent_nilrow 1 9) (ent_trans (ent_nilrow 1 9) (ent_nilrow 1 9)))) ?_
    refine aw_rf (fun pend h'' => pend = none ∧ ∃ (o' : OH) (A : AN) (es : List ((Int × Int) × AV)), o'.hist = (travH numStep olds0 h).1 ∧ A.map (·.2) = (travH numStep olds0 h).2.mapIdx (fun s l => l.map (nameAt (nmK h s))) ∧ (travH numStep olds0 h).2.length = 4 ∧ h'' = .box b5 74 (A.map cellA) :: .box b1 28 (namesC h ++ o'.cells) :: .box b2 28 histZ :: .box b1' 72 [.v (.pointer (some ⟨b1, 0, none⟩))] :: .box b6 86 [.v (.map (some r20))] :: .map r20 (encM int2K es) :: .box b4 74 (namesC h) :: (A.map rowA ++ .glob 0 68 limitsC :: .glob 1 168 firstC :: .glob 2 171 acceptC :: .row o'.vE.v 9 39 (o'.evs.map evRw) :: .row o'.vR.v 2 61 (o'.ords.map ordRw) :: .row o'.vM.v 4 64 (o'.mats.map matRw) :: .row o'.vW.v 2 67 (o'.wants.map wanR) :: (scR 59 o'.evs ++ (otR 3 o'.ords ++ (mtR 3 o'.mats ++ []))))) rfl (fun fn l q lp hlp => ?_) (fun q h'' hK => ?_) (fun q h'' c hK => ?_)
    · suffices hy : ∀ (s : Olds) (L : List Res) (sort : Nat) (n : Int) (sl : Value) (sz k off : Nat) (T : TypeId) (rows rows' : List (List AV)) (row : List AV), OkN h (sort, n) → INum lp q r20 b2 b4 b5 b6 h s L → rows[k]? = some row → row[off]? = some (iv n) → rows.set k (row.take off ++ [iv (numStep s sort n).1] ++ row.drop (off + 1)) = rows' → FCall Tryz.prog (yv l) [iv sort, .rp sl sz k off] (.row sl sz T rows :: L) (fun r h' => ∃ L', r = bv true ∧ INum lp q r20 b2 b4 b5 b6 h (numStep s sort n).2 L' ∧ h' = .row sl sz T rows' :: L') by
        refine ACall.mono (ACall.perm (pcs_perm (l1 := [[lp .ready none], [.defs q], [.row (.slice none 0 0) 1 9 [], .row (.slice none 0 0) 1 9 [], .row (.slice none 0 0) 1 9 [], .row (.slice none 0 0) 1 9 []], [.box b1' 72 [.v (.pointer (some ⟨b1, 0, none⟩))]], [.box b6 86 [.v (.map (some r20))], .map r20 (encM int2K [])], [.box b5 74 (([(⟨none, 0, 0⟩, []), (⟨none, 0, 0⟩, []), (⟨none, 0, 0⟩, []), (⟨none, 0, 0⟩, [])] : AN).map cellA)], [.box b4 74 (namesC h)], [.box b2 28 histZ], [.box b1 28 (namesC h ++ o.cells)], [.glob 0 68 limitsC, .glob 1 168 firstC, .glob 2 171 acceptC], [.row o.vE.v 9 39 (o.evs.map evRw), .row o.vR.v 2 61 (o.ords.map ordRw), .row o.vM.v 4 64 (o.mats.map matRw), .row o.vW.v 2 67 (o.wants.map wanR)], scR 59 o.evs, otR 3 o.ords, mtR 3 o.mats]) (l2 := [[.box b1' 72 [.v (.pointer (some ⟨b1, 0, none⟩))]], [.box b1 28 (namesC h ++ o.cells)], [.row o.vE.v 9 39 (o.evs.map evRw), .row o.vR.v 2 61 (o.ords.map ordRw), .row o.vM.v 4 64 (o.mats.map matRw), .row o.vW.v 2 67 (o.wants.map wanR)], scR 59 o.evs, otR 3 o.ords, mtR 3 o.mats, [lp .ready none], [.defs q], [.box b5 74 (([(⟨none, 0, 0⟩, []), (⟨none, 0, 0⟩, []), (⟨none, 0, 0⟩, []), (⟨none, 0, 0⟩, [])] : AN).map cellA)], [.box b6 86 [.v (.map (some r20))], .map r20 (encM int2K [])], [.box b4 74 (namesC h)], [.box b2 28 histZ], [.row (.slice none 0 0) 1 9 [], .row (.slice none 0 0) 1 9 [], .row (.slice none 0 0) 1 9 [], .row (.slice none 0 0) 1 9 []], [.glob 0 68 limitsC, .glob 1 168 firstC, .glob 2 171 acceptC]]) ((pt3 _ _ _ _ _).trans (.cons _ ((pt7 _ _ _ _ _ _ _ _ _).trans (.cons _ ((pt8 _ _ _ _ _ _ _ _ _ _).trans (.cons _ ((pt8 _ _ _ _ _ _ _ _ _ _).trans (.cons _ ((pt8 _ _ _ _ _ _ _ _ _ _).trans (.cons _ ((pt8 _ _ _ _ _ _ _ _ _ _).trans (.cons _ (.cons _ (.cons _ ((pt2 _ _ _ _).trans (.cons _ ((pt1 _ _ _).trans (.cons _ ((pt1 _ _ _).trans (.cons _ (pt1 _ _ _))))))))))))))))))))) []) (spokenW numStep (OkN h) (INum lp q r20 b2 b4 b5 b6 h) (yv l) rfl hy o (by rw [ho]; exact la) (strsA h.ts) (strsA h.ss) (strsA h.os) (strsA h.ps) b1' b1 (by rw [ho]; exact shaped_ok hs) olds0 _ ⟨kok0 h, ([(⟨none, 0, 0⟩, []), (⟨none, 0, 0⟩, []), (⟨none, 0, 0⟩, []), (⟨none, 0, 0⟩, [])] : AN), [], mapK0, rfl, rfl⟩)) ?_
        rintro _ _ ⟨o', L', ho', hcs, ⟨hk, A, es, hes, hA, rfl⟩, rfl⟩
        rw [ho] at ho' hA hk
        refine ⟨none, .ready, _, ?_, by simp, rfl, o', A, es, ho', hA, hk.four, rfl⟩
        rw [← hcs]
        exact pcs_perm (l1 := [[.box b1' 72 [.v (.pointer (some ⟨b1, 0, none⟩))]], [.box b1 28 (namesC h ++ o'.cells)], [.row o'.vE.v 9 39 (o'.evs.map evRw), .row o'.vR.v 2 61 (o'.ords.map ordRw), .row o'.vM.v 4 64 (o'.mats.map matRw), .row o'.vW.v 2 67 (o'.wants.map wanR)], scR 59 o'.evs, otR 3 o'.ords, mtR 3 o'.mats, [lp .ready none], [.defs q], [.box b5 74 (A.map cellA)], [.box b6 86 [.v (.map (some r20))], .map r20 (encM int2K es)], [.box b4 74 (namesC h)], [.box b2 28 histZ], A.map rowA, [.glob 0 68 limitsC, .glob 1 168 firstC, .glob 2 171 acceptC]]) (l2 := [[lp .ready none], [.defs q], [.box b5 74 (A.map cellA)], [.box b1 28 (namesC h ++ o'.cells)], [.box b2 28 histZ], [.box b1' 72 [.v (.pointer (some ⟨b1, 0, none⟩))]], [.box b6 86 [.v (.map (some r20))], .map r20 (encM int2K es)], [.box b4 74 (namesC h)], A.map rowA, [.glob 0 68 limitsC, .glob 1 168 firstC, .glob 2 171 acceptC], [.row o'.vE.v 9 39 (o'.evs.map evRw), .row o'.vR.v 2 61 (o'.ords.map ordRw), .row o'.vM.v 4 64 (o'.mats.map matRw), .row o'.vW.v 2 67 (o'.wants.map wanR)], scR 59 o'.evs, otR 3 o'.ords, mtR 3 o'.mats]) ((pt6 _ _ _ _ _ _ _ _).trans (.cons _ ((pt6 _ _ _ _ _ _ _ _).trans (.cons _ ((pt6 _ _ _ _ _ _ _ _).trans (.cons _ ((pt1 _ _ _).trans (.cons _ ((pt7 _ _ _ _ _ _ _ _ _).trans (.cons _ (.cons _ ((pt4 _ _ _ _ _ _).trans (.cons _ ((pt4 _ _ _ _ _ _).trans (.cons _ ((pt4 _ _ _ _ _ _).trans (.cons _ (pt4 _ _ _ _ _ _)))))))))))))))))) []
      rintro s _ sort n sl sz k off T rows rows' row ⟨hs4, hn0, hn1⟩ ⟨hk, A, es, hes, hA, rfl⟩ h1 h2 hset
      simp only at hs4 hn0 hn1
      obtain ⟨m, rfl⟩ : ∃ m : Nat, n = m := ⟨n.toNat, by omega⟩
      have hm1 : m < (nmK h sort).length := by omega
      have hl3 := la3.nm sort
      have hoff : off + 1 ≤ row.length := (List.getElem?_eq_some_iff.1 h2).1
      refine FCall.perm (pt1 _ _ _) (FCall.ventE (fcall_yl hlp rfl rfl ?_))
      refine rn ?_
      refine ⟨[(7, iv (sort : Nat)), (8, .rp sl sz k off), (4, .v (.pointer (some ⟨b4, 0, none⟩))), (5, .v (.pointer (some ⟨b5, 0, none⟩))), (6, .v (.pointer (some ⟨b6, 0, none⟩)))], (ent_sub (.cons _ _ _ rfl (.cons _ _ _ rfl (.cons _ _ _ rfl (.cons _ _ _ rfl (.cons _ _ _ rfl (.nil))))))), ?_⟩
      refine aw_block ?_
      refine aw_seq (aw_region ?_)
      refine q1 ?_
      refine q1 ?_
      refine q1 ?_
      refine qq rfl rfl (qr_load_rp_one rfl h1 h2) ?_
      refine qq rfl rfl (qr_buildArr (out := [iv (sort : Nat), iv (m : Nat)]) rfl (by rfl)) ?_
      refine aops_e rfl (oe_alloc rfl fun b9 => ?_)
      refine rn ?_
      refine qq rfl rfl (qr_lookup2 (enc := int2K) (k := ((sort : Int), ((m : Nat) : Int))) rfl rfl (hes.look _ hs4) (hes.has _ hs4)) ?_
      refine rn ?_
      refine aw_cond rfl (fun hc36 => ?_) (fun hc36 => ?_)
      · have hg : posOf (m : Nat) 0 (s.getD sort []) = none := by
          have := not_t hc36
          cases hq : posOf (m : Nat) 0 (s.getD sort []) with
          | none => rfl
          | some j => rw [hq] at this; cases this
        have hAl : A.length = 4 := by have := congrArg List.length hA; simpa [hk.four] using this
        have hsA : sort < A.length := by omega
        obtain ⟨p, hp⟩ : ∃ p, A[sort]? = some p := ⟨A[sort], by simp [hsA]⟩
        obtain ⟨hp2, _⟩ := an_snd hA hp
        have hpl : p.2.length ≤ 3000 := by rw [hp2, List.length_map]; have := hk.len sort; omega
        refine aw_ent (s' := ⟨[(9, .v (.pointer (some ⟨b9, 0, none⟩))), (7, iv (sort : Nat)), (8, .rp sl sz k off), (4, .v (.pointer (some ⟨b4, 0, none⟩))), (5, .v (.pointer (some ⟨b5, 0, none⟩))), (6, .v (.pointer (some ⟨b6, 0, none⟩)))], .row p.1.v 1 9 (p.2.map strR) :: .box b9 87 [iv (sort : Nat), iv (m : Nat)] :: lp .busy none :: .row sl sz T rows :: .defs q :: .box b5 74 (A.map cellA) :: .box b6 86 [.v (.map (some r20))] :: .map r20 (encM int2K es) :: .box b4 74 (namesC h) :: .box b2 28 histZ :: ((A.eraseIdx sort).map rowA ++ [.glob 0 68 limitsC, .glob 1 168 firstC, .glob 2 171 acceptC]), []⟩) (ent_trans (ent_perm (an_outF [.box b9 87 [iv (sort : Nat), iv (m : Nat)], lp .busy none, .row sl sz T rows, .defs q, .box b5 74 (A.map cellA), .box b6 86 [.v (.map (some r20))], .map r20 (encM int2K es), .box b4 74 (namesC h), .box b2 28 histZ] [.glob 0 68 limitsC, .glob 1 168 firstC, .glob 2 171 acceptC] hp)) (ent_sub (.cons _ _ _ rfl (.cons _ _ _ rfl (.cons _ _ _ rfl (.cons _ _ _ rfl (.cons _ _ _ rfl (.cons _ _ _ rfl (.nil))))))))) ?_
        refine aw_seq (aw_region ?_)
        refine q1 ?_
        refine qq rfl rfl (qr_indexAddr_arr rfl rfl (by omega)) ?_
        refine qq rfl rfl (qr_load_one rfl (an_get hp)) ?_
        refine rn ?_
        refine aops_e rfl (oe_mapUpdate (enc := int2K) (k := ((sort : Int), ((m : Nat) : Int))) rfl rfl rfl ?_)
        refine rn ?_
        have hrowN : ((nmK h sort).map strR)[m]? = some (strR (nmK h sort)[m]) := by simp [hm1]
        refine aw_drawC 14 (.box b9 87 [iv (sort : Nat), iv (m : Nat)] :: lp .busy none :: .row sl sz T rows :: .defs q :: .box b5 74 (A.map cellA) :: .box b6 86 [.v (.map (some r20))] :: .map r20 (encM int2K (updM ((sort : Int), ((m : Nat) : Int)) (iv ((p.2.map strR).length : Nat)) es)) :: .box b4 74 (namesC h) :: .box b2 28 histZ :: ((A.eraseIdx sort).map rowA ++ [.glob 0 68 limitsC, .glob 1 168 firstC, .glob 2 171 acceptC])) rfl ?_
        refine mq rfl rfl qrA ?_
        refine mq rfl rfl qrA ?_
        refine mq rfl rfl (qr_indexAddr_arr rfl rfl (by omega)) ?_
        refine mq rfl rfl (qr_load_one rfl (an_get hp)) ?_
        refine mq rfl rfl qrA ?_
        refine mq rfl rfl (qr_indexAddr_arr rfl rfl (by omega)) ?_
        refine mq rfl rfl (qr_load_one rfl (by have := nmK_get h hs4; simpa using this)) ?_
        refine mq rfl rfl qrA ?_
        refine mq rfl rfl qrA ?_
        refine mq rfl rfl (qr_load_rp_one rfl h1 h2) ?_
        refine rn ?_
        refine mv rfl rfl (qv_buildSlice rfl rfl) ?_
        refine mapp (xs := p.2.map strR) rfl rfl rfl rfl rfl rfl (by simp; omega) (fun r hr => by simp at hr; subst hr; rfl) ?_
        refine mnil ⟨.refl _, ?_⟩
        refine rn ?_
        refine mal_row fun s57 => ?_
        refine rn2 ?_
        refine qq rfl rfl (qr_indexAddr_arr rfl rfl (by omega)) ?_
        refine aops_e rfl (oe_store rfl rfl rfl rfl (by simp [hAl]; omega) ?_)
        refine rn ?_
        refine aops_e rfl (oe_store_rp rfl rfl rfl h1 rfl hoff ?_)
        refine rn ?_
        have hlen : (p.2.map strR).length = (s.getD sort []).length := by rw [hp2]; simp
        have hst : numStep s sort (m : Nat) = ((((p.2.map strR).length : Nat) : Int), s.set sort ((s.getD sort []) ++ [((m : Nat) : Int)])) := by rw [numStep, hg, hlen]
        have hkn := hk.step hs4 hn0 hn1
        rw [hst] at hkn hset ⊢
        have h57 := row57 (s := s57) (l := p.2) (nameAt_get hm1)
        exact round_n (pt2 _ _ _ _) ⟨_, (.row sl sz T rows' :: (lp .ready none :: .defs q :: .box b5 74 ((A.set sort (s57, p.2 ++ [nameAt (nmK h sort) ((m : Nat) : Int)])).map cellA) :: .box b6 86 [.v (.map (some r20))] :: .map r20 (encM int2K (updM ((sort : Int), ((m : Nat) : Int)) (iv ((p.2.map strR).length : Nat)) es)) :: .box b4 74 (namesC h) :: .box b2 28 histZ :: ((A.set sort (s57, p.2 ++ [nameAt (nmK h sort) ((m : Nat) : Int)])).map rowA ++ [.glob 0 68 limitsC, .glob 1 168 firstC, .glob 2 171 acceptC]))), (by rw [← hset, ← an_set (p := (s57, p.2 ++ [nameAt (nmK h sort) ((m : Nat) : Int)])) hsA, h57]; exact VEnt.trans (.perm (pcs_perm (l1 := [[lp .ready none], [rowA (s57, p.2 ++ [nameAt (nmK h sort) ((m : Nat) : Int)])], [.box b9 87 [iv (sort : Nat), iv (m : Nat)]], [.row sl sz T (rows.set k (row.take off ++ [iv ((p.2.map strR).length : Nat)] ++ row.drop (off + 1)))], [.defs q, .box b5 74 ((A.map cellA).take (0 + sort * 1) ++ [AV.v s57.v] ++ (A.map cellA).drop (0 + sort * 1 + [AV.v s57.v].length)), .box b6 86 [.v (.map (some r20))], .map r20 (encM int2K (updM ((sort : Int), ((m : Nat) : Int)) (iv ((p.2.map strR).length : Nat)) es)), .box b4 74 (namesC h), .box b2 28 histZ], (A.eraseIdx sort).map rowA, [.glob 0 68 limitsC, .glob 1 168 firstC, .glob 2 171 acceptC]]) (l2 := [[.box b9 87 [iv (sort : Nat), iv (m : Nat)]], [rowA (s57, p.2 ++ [nameAt (nmK h sort) ((m : Nat) : Int)])], [.row sl sz T (rows.set k (row.take off ++ [iv ((p.2.map strR).length : Nat)] ++ row.drop (off + 1)))], [lp .ready none], [.defs q, .box b5 74 ((A.map cellA).take (0 + sort * 1) ++ [AV.v s57.v] ++ (A.map cellA).drop (0 + sort * 1 + [AV.v s57.v].length)), .box b6 86 [.v (.map (some r20))], .map r20 (encM int2K (updM ((sort : Int), ((m : Nat) : Int)) (iv ((p.2.map strR).length : Nat)) es)), .box b4 74 (namesC h), .box b2 28 histZ], (A.eraseIdx sort).map rowA, [.glob 0 68 limitsC, .glob 1 168 firstC, .glob 2 171 acceptC]]) ((pt2 _ _ _ _).trans (.cons _ ((pt1 _ _ _).trans (.cons _ (pt1 _ _ _))))) []) _) (VEnt.trans (.drop1 _ _ _) (.perm (an_inF [.row sl sz T (rows.set k (row.take off ++ [iv ((p.2.map strR).length : Nat)] ++ row.drop (off + 1))), lp .ready none, .defs q, .box b5 74 ((A.map cellA).take (0 + sort * 1) ++ [AV.v s57.v] ++ (A.map cellA).drop (0 + sort * 1 + [AV.v s57.v].length)), .box b6 86 [.v (.map (some r20))], .map r20 (encM int2K (updM ((sort : Int), ((m : Nat) : Int)) (iv ((p.2.map strR).length : Nat)) es)), .box b4 74 (namesC h), .box b2 28 histZ] [.glob 0 68 limitsC, .glob 1 168 firstC, .glob 2 171 acceptC] hsA) _))), (lp .ready none :: .defs q :: .box b5 74 ((A.set sort (s57, p.2 ++ [nameAt (nmK h sort) ((m : Nat) : Int)])).map cellA) :: .box b6 86 [.v (.map (some r20))] :: .map r20 (encM int2K (updM ((sort : Int), ((m : Nat) : Int)) (iv ((p.2.map strR).length : Nat)) es)) :: .box b4 74 (namesC h) :: .box b2 28 histZ :: ((A.set sort (s57, p.2 ++ [nameAt (nmK h sort) ((m : Nat) : Int)])).map rowA ++ [.glob 0 68 limitsC, .glob 1 168 firstC, .glob 2 171 acceptC])), rfl, ⟨hkn, (A.set sort (s57, p.2 ++ [nameAt (nmK h sort) ((m : Nat) : Int)])), (updM ((sort : Int), ((m : Nat) : Int)) (iv ((p.2.map strR).length : Nat)) es), (by rw [hlen]; exact hes.step hs4 hk.four hg), an_snd_set (f := fun s => nameAt (nmK h s)) hA hp2, rfl⟩, rfl⟩
      · refine rn ?_
        refine aops_e rfl (oe_store_rp rfl rfl rfl h1 rfl hoff ?_)
        refine rn ?_
        obtain ⟨x, hx⟩ := Option.isSome_iff_exists.1 (not_f hc36)
        have hst : numStep s sort (m : Nat) = (((x : Nat) : Int), s) := by rw [numStep, hx]
        rw [hst] at hset ⊢
        exact round_n (pt1 _ _ _) ⟨_, (.row sl sz T rows' :: (lp .ready none :: .defs q :: .box b5 74 (A.map cellA) :: .box b6 86 [.v (.map (some r20))] :: .map r20 (encM int2K es) :: .box b4 74 (namesC h) :: .box b2 28 histZ :: (A.map rowA ++ [.glob 0 68 limitsC, .glob 1 168 firstC, .glob 2 171 acceptC]))), (by rw [← hset, show ((x : Nat) : Int) = (((posOf ((m : Nat) : Int) 0 (s.getD sort [])).getD 0 : Nat) : Int) from by rw [hx]; rfl]; exact VEnt.trans (.perm (pcs_perm (l1 := [[lp .ready none], [.box b9 87 [iv (sort : Nat), iv (m : Nat)]], [.row sl sz T (rows.set k (row.take off ++ [iv (((posOf ((m : Nat) : Int) 0 (s.getD sort [])).getD 0 : Nat) : Int)] ++ row.drop (off + 1)))], [.defs q, .box b5 74 (A.map cellA), .box b6 86 [.v (.map (some r20))], .map r20 (encM int2K es), .box b4 74 (namesC h), .box b2 28 histZ], A.map rowA, [.glob 0 68 limitsC, .glob 1 168 firstC, .glob 2 171 acceptC]]) (l2 := [[.box b9 87 [iv (sort : Nat), iv (m : Nat)]], [.row sl sz T (rows.set k (row.take off ++ [iv (((posOf ((m : Nat) : Int) 0 (s.getD sort [])).getD 0 : Nat) : Int)] ++ row.drop (off + 1)))], [lp .ready none], [.defs q, .box b5 74 (A.map cellA), .box b6 86 [.v (.map (some r20))], .map r20 (encM int2K es), .box b4 74 (namesC h), .box b2 28 histZ], A.map rowA, [.glob 0 68 limitsC, .glob 1 168 firstC, .glob 2 171 acceptC]]) ((pt1 _ _ _).trans (.cons _ (pt1 _ _ _))) []) _) (.drop1 _ _ _)), (lp .ready none :: .defs q :: .box b5 74 (A.map cellA) :: .box b6 86 [.v (.map (some r20))] :: .map r20 (encM int2K es) :: .box b4 74 (namesC h) :: .box b2 28 histZ :: (A.map rowA ++ [.glob 0 68 limitsC, .glob 1 168 firstC, .glob 2 171 acceptC])), rfl, ⟨hk, A, es, hes, hA, rfl⟩, rfl⟩
    · obtain ⟨_, o', A, es, ho', hA, hk4, rfl⟩ := hK
      obtain ⟨p0, p1, p2, p3, rfl⟩ : ∃ p0 p1 p2 p3, A = [p0, p1, p2, p3] := by
        have := congrArg List.length hA
        simp [hk4] at this
        match A, this with
        | [p0, p1, p2, p3], _ => exact ⟨p0, p1, p2, p3, rfl⟩
      refine rn ?_
      refine aw_drawS 14 [(b1, 28, _)] rfl ((pt2 _ _ _ _).trans (List.perm_append_comm (l₁ := [_]))) ?_
      refine dq rfl rfl (qr_indexAddr_int rfl rfl (by decide) (by decide)) ?_
      refine rn ?_
      refine dq rfl rfl (qr_indexAddr_int rfl rfl (by decide) (by decide)) ?_
      refine rn ?_
      refine dq rfl rfl (qr_indexAddr_int rfl rfl (by decide) (by decide)) ?_
      refine rn ?_
      refine dq rfl rfl (qr_indexAddr_int rfl rfl (by decide) (by decide)) ?_
      refine rn ?_
      refine dw 0 rfl rfl rfl rfl rfl (Nat.le_of_ble_eq_true rfl) ?_
      refine rn ?_
      refine dw 0 rfl rfl rfl rfl rfl (Nat.le_of_ble_eq_true rfl) ?_
      refine rn ?_
      refine dw 0 rfl rfl rfl rfl rfl (Nat.le_of_ble_eq_true rfl) ?_
      refine rn2 ?_
      show aops _ _ _ _ _ _ ⟨_, .box b1 28 [.v p0.1.v, .v p1.1.v, .v p2.1.v, strsA h.ps, .v o'.vE.v, .v o'.vR.v, .v o'.vM.v, .v o'.vW.v] :: .defs q :: .box b5 74 (([p0, p1, p2, p3] : AN).map cellA) :: .box b2 28 histZ :: .box b1' 72 [.v (.pointer (some ⟨b1, 0, none⟩))] :: .box b6 86 [.v (.map (some r20))] :: .map r20 (encM int2K es) :: .box b4 74 (namesC h) :: rowA p0 :: rowA p1 :: rowA p2 :: rowA p3 :: .glob 0 68 limitsC :: .glob 1 168 firstC :: .glob 2 171 acceptC :: .row o'.vE.v 9 39 (o'.evs.map evRw) :: .row o'.vR.v 2 61 (o'.ords.map ordRw) :: .row o'.vM.v 4 64 (o'.mats.map matRw) :: .row o'.vW.v 2 67 (o'.wants.map wanR) :: (scR 59 o'.evs ++ (otR 3 o'.ords ++ (mtR 3 o'.mats ++ []))), _⟩
      refine rn ?_
      have q0 := (an_snd (f := fun s => nameAt (nmK h s)) (s := 0) hA rfl).1
      have q1 := (an_snd (f := fun s => nameAt (nmK h s)) (s := 1) hA rfl).1
      have q2 := (an_snd (f := fun s => nameAt (nmK h s)) (s := 2) hA rfl).1
      have q3 := (an_snd (f := fun s => nameAt (nmK h s)) (s := 3) hA rfl).1
      have hH : ({ o' with ts := p0.2, ss := p1.2, os := p2.2, ps := p3.2 } : OH).hist = numberH h := by
        unfold numberH
        simp only
        rw [← ho', q0, q1, q2, q3]
        rfl
      exact retqd (pt1 _ _ _) (.cons _ _ _ _ (.agg _ _ _ _ _ _ _ rfl inferInstance inferInstance inferInstance rfl) (.cons _ _ _ _ (.tmp _ _ rfl) .nil)) (.trans (.perm (pcs_perm (l1 := [[_, _, _, _, _, _, _], [rowA p0, rowA p1, rowA p2, rowA p3], [.glob 0 68 limitsC, .glob 1 168 firstC, .glob 2 171 acceptC]]) (l2 := [[_, _, _, _, _, _, _], [.glob 0 68 limitsC, .glob 1 168 firstC, .glob 2 171 acceptC], [rowA p0, rowA p1, rowA p2, rowA p3]]) (.cons _ (pt1 _ _ _)) _) _) (.drop [_, _, _, _, _, _, _] _ _)) ⟨fun _ => ⟨⟨p0.1, p1.1, p2.1, p3.1⟩, _, hH, by rw [← hH]; rfl, rfl⟩, fun q => absurd (q.symm.trans hs) (by decide)⟩
    · cases hK.1
end Go.Proofs
/- The walk of history.Check. Conditions: none. -/
set_option linter.unusedVariables false
set_option linter.unusedSimpArgs false
set_option maxRecDepth 10000
namespace Go.Proofs
open Go Go.Ab
attribute [local irreducible] QR QV OE aops aw dsoup dsoupM dalloc dallocM thn inBlk
open Go.H
def IJC (lp : LP) (q b2 b3 : Nat) : Option (List Int) → List Res → Prop
  | some m, L => L = lp .ready none :: .defs q :: .box b3 68 ((m).map iv) :: .box b2 32 [iv 0] :: [.glob 0 68 limitsC, .glob 1 168 firstC, .glob 2 171 acceptC] ∧ m.length = 4
  | none, L => ∃ m : List Int, L = lp .done (some .ret) :: .defs q :: .box b3 68 ((m).map iv) :: .box b2 32 [iv 210] :: [.glob 0 68 limitsC, .glob 1 168 firstC, .glob 2 171 acceptC]
theorem check (h : Hist) (la : Lim 4611686018427387904 h) : ACall Tryz.prog 9 [.agg (histC h)] [.glob 0 68 limitsC, .glob 1 168 firstC, .glob 2 171 acceptC] (fun r h' => h' = [.glob 0 68 limitsC, .glob 1 168 firstC, .glob 2 171 acceptC] ∧ r = iv (checkE h)) := by
  refine acall_of_aw Tryz.func9 rfl rfl rfl ?_
  refine rn ?_
  refine aops_e rfl (oe_box rfl rfl rfl fun b1 => ?_)
  refine aops_e rfl (oe_alloc rfl fun b2 => ?_)
  refine rn ?_
  refine qv rfl rfl (qv_call rfl rfl (FCall.qt (FCall.of_fun (shaped h la)) ((pt2 _ _ _ _).trans (.cons _ ((pt2 _ _ _ _).trans (.cons _ (pt2 _ _ _ _))))))) ?_
  refine rn ?_
  refine aw_cond rfl (fun hc10 => ?_) (fun hc10 => ?_)
  · have hs : shapedB h = false := not_t hc10
    refine rn ?_
    exact retq (.cons _ _ _ _ (.one _ _ _ _ _ _ _ rfl inferInstance inferInstance rfl) .nil) (.drop [_, _] _ _) ⟨rfl, congrArg iv (check_no hs).symm⟩
  · have hs : shapedB h = true := not_f hc10
    refine rn ?_
    refine aops_e rfl (oe_alloc rfl fun b3 => ?_)
    refine rn ?_
    refine aops_e rfl (oe_call rfl rfl (FCall.of_fun (spoken b1 _)) rfl ?_)
    rintro _ _ ⟨b1', rfl, rfl⟩
    refine rn ?_
    refine aw_rf (fun pend h'' => (pend = none ∧ ∃ m : List Int, manyL h = some m ∧ m.length = 4 ∧ h'' = .box b1' 72 [.v (.pointer (some ⟨b1, 0, none⟩))] :: .box b1 28 (histC h) :: .box b3 68 ((m).map iv) :: .box b2 32 [iv 0] :: [.glob 0 68 limitsC, .glob 1 168 firstC, .glob 2 171 acceptC]) ∨ (pend = some .ret ∧ manyL h = none ∧ ∃ m : List Int, h'' = .box b1' 72 [.v (.pointer (some ⟨b1, 0, none⟩))] :: .box b1 28 (histC h) :: .box b3 68 ((m).map iv) :: .box b2 32 [iv 210] :: [.glob 0 68 limitsC, .glob 1 168 firstC, .glob 2 171 acceptC])) rfl (fun fn l q lp hlp => ?_) (fun q h'' hK => ?_) (fun q h'' c hK => ?_)
    · suffices hy : ∀ (s : List Int) (L : List Res) (sort : Nat) (n : Int) (cells : List AV), OkN h (sort, n) → IJC lp q b2 b3 (some s) L → FCall Tryz.prog (yv l) [iv sort, .pp (iv n :: cells)] L (fun r h' => r = bv (manyStep s (sort, n)).isSome ∧ IJC lp q b2 b3 (manyStep s (sort, n)) h') by
        refine ACall.mono (ACall.perm ((pt2 _ _ _ _).trans (.cons _ (pt4 _ _ _ _ _ _))) (spokenR manyStep (OkN h) (IJC lp q b2 b3) (yv l) rfl hy h la b1' b1 (shaped_ok hs) [0, 0, 0, 0] _ ⟨rfl, rfl⟩)) ?_
        rintro _ _ ⟨L', hI, rfl⟩
        cases hm : goes manyStep (some [0, 0, 0, 0]) (spokenL h) with
        | some m =>
          rw [hm] at hI
          obtain ⟨rfl, hl⟩ := hI
          exact ⟨_, _, _, ((pt2 _ _ _ _).trans (.cons _ (pt2 _ _ _ _))), by simp, .inl ⟨rfl, m, hm, hl, rfl⟩⟩
        | none =>
          rw [hm] at hI
          obtain ⟨m, rfl⟩ := hI
          exact ⟨_, _, _, ((pt2 _ _ _ _).trans (.cons _ (pt2 _ _ _ _))), by simp, .inr ⟨rfl, hm, m, rfl⟩⟩
      rintro m _ sort n cells ⟨hs4, hn0, hn1⟩ ⟨rfl, hl⟩
      simp only at hs4 hn0 hn1
      have hnm := la.nm sort
      refine fcall_yl hlp rfl rfl ?_
      refine rn ?_
      refine ⟨[(4, iv sort), (5, .pp (iv n :: cells)), (3, .v (.pointer (some ⟨b3, 0, none⟩))), (2, .v (.pointer (some ⟨b2, 0, none⟩)))], (ent_sub (.cons _ _ _ rfl (.cons _ _ _ rfl (.cons _ _ _ rfl (.cons _ _ _ rfl (.nil)))))), ?_⟩
      refine rn ?_
      refine aw_draw 6 rfl ?_
      refine dq rfl rfl qrA ?_
      refine dq rfl rfl qrA ?_
      refine dq rfl rfl qrA ?_
      refine dq rfl rfl qrA ?_
      refine dq rfl rfl (qr_indexAddr_arr rfl rfl hs4) ?_
      refine dq rfl rfl (qr_load_one rfl (get4 hl hs4)) ?_
      refine rn ?_
      refine aw_cond rfl (fun hc20 => ?_) (fun hc20 => ?_)
      · refine rn ?_
        have hst : manyStep m (sort, n) = none := by rw [manyStep]; exact if_pos (by simpa using hc20)
        exact round_r (.refl _) (by rw [hst]; exact ⟨rfl, _, rfl⟩)
      · refine rn ?_
        refine aw_draw 9 rfl ?_
        refine dq rfl rfl qrA ?_
        refine dq rfl rfl qrA ?_
        refine dq rfl rfl (qr_indexAddr_arr rfl rfl hs4) ?_
        refine dq rfl rfl (qr_load_one rfl (get4 hl hs4)) ?_
        refine rn2 ?_
        refine qq rfl rfl (qr_indexAddr_arr rfl rfl hs4) ?_
        refine aops_e rfl (oe_store rfl rfl rfl rfl (by simp [hl]; omega) ?_)
        refine rn ?_
        have hst : manyStep m (sort, n) = some (m.set sort (max (m.getD sort 0) (n + 1))) := by rw [manyStep]; exact if_neg (by simpa using hc20)
        exact round_n (.refl _) (by rw [hst]; exact ⟨rfl, by rw [← set4 hl hs4]; rfl, by simpa using hl⟩)
    · obtain ⟨_, m, hm, hl, rfl⟩ | ⟨hc, _⟩ := hK
      rotate_left
      · cases hc
      refine rn ?_
      refine qv rfl rfl (qv_call rfl rfl (pcall (names _) (Sbs.refl _))) ?_
      refine rn ?_
      refine aw_loop' (fun k : Nat => k ≤ 4 ∧ ∀ j, j < k → m.getD j 0 = (nmK h j).length) (fun k => ⟨[(33, iv k), (32, .agg (namesC h)), (3, .v (.pointer (some ⟨b3, 0, none⟩))), (2, .v (.pointer (some ⟨b2, 0, none⟩)))], .defs q :: .box b1' 72 [.v (.pointer (some ⟨b1, 0, none⟩))] :: .box b1 28 (histC h) :: .box b3 68 ((m).map iv) :: .box b2 32 [iv 0] :: [.glob 0 68 limitsC, .glob 1 168 firstC, .glob 2 171 acceptC], [q]⟩) (fun k => 4 - k) 0 ⟨by omega, fun j hj => absurd hj (Nat.not_lt_zero j)⟩
        (ent_sub (.cons _ _ _ rfl (.cons _ _ _ rfl (.cons _ _ _ rfl (.cons _ _ _ rfl (.nil)))))) ?_
      rintro k ⟨hk, hz⟩
      refine rn ?_
      refine aw_cond rfl (fun hc34 => ?_) (fun hc34 => ?_)
      · have hk4 : k < 4 := by simp at hc34; omega
        refine aw_skip ?_
        refine thn_n ?_
        refine aw_seq ?_
        refine aw_block ?_
        refine aw_seq (aw_region ?_)
        refine q1 ?_
        refine qq rfl rfl (qr_index_arr_one rfl rfl (by omega) (by have := nmK_get h hk4; simpa using this)) ?_
        refine q1 ?_
        refine q1 ?_
        refine aops_nil (thn_n ?_)
        refine aw_seq (aw_region ?_)
        refine q1 ?_
        refine qq rfl rfl (qr_indexAddr_arr rfl rfl hk4) ?_
        refine qq rfl rfl (qr_load_one rfl (get4 hl hk4)) ?_
        refine rn ?_
        refine aw_cond rfl (fun hc42 => ?_) (fun hc42 => ?_)
        · refine rn ?_
          exact retqd (.refl _) (.cons _ _ _ _ (.one _ _ _ _ _ _ _ rfl inferInstance inferInstance rfl) .nil) (.drop [_, _, _, _] _ _) ⟨rfl, congrArg iv (check_ne hm hk4 (by simpa using hc42)).symm⟩
        · refine rn ?_
          exact ⟨k + 1, ⟨by omega, fun j hj => by
            by_cases hjk : j = k
            · subst hjk; simpa using hc42
            · exact hz j (by omega)⟩, (ent_sub (.cons _ _ _ rfl (.cons _ _ _ rfl (.cons _ _ _ rfl (.cons _ _ _ rfl (.nil)))))), by omega⟩
      · have hk4 : k = 4 := by simp at hc34; omega
        subst hk4
        refine rn ?_
        exact retqd (.refl _) (.cons _ _ _ _ (.one _ _ _ _ _ _ _ rfl inferInstance inferInstance rfl) .nil) (.drop [_, _, _, _] _ _) ⟨rfl, congrArg iv (check_eq hs hm hl hz).symm⟩
    · obtain ⟨hc, _⟩ | ⟨hc, hm, m, rfl⟩ := hK
      · cases hc
      obtain rfl : c = .ret := by simpa using hc
      refine rn ?_
      exact retqd (.refl _) (.cons _ _ _ _ (.one _ _ _ _ _ _ _ rfl inferInstance inferInstance rfl) .nil) (.drop [_, _, _, _] _ _) ⟨rfl, congrArg iv (check_none hm).symm⟩
end Go.Proofs
/- The walk of history.Of. Conditions: none. -/
set_option linter.unusedVariables false
set_option linter.unusedSimpArgs false
set_option maxRecDepth 10000
namespace Go.Proofs
open Go Go.Ab
attribute [local irreducible] QR QV OE aops aw dsoup dsoupM dalloc dallocM thn inBlk
open Go.H
theorem ofO (h : Hist) (t : Int) (la : Lim 4611686018427387904 h) : ACall Tryz.prog 21 [.agg (histC h), iv t] [.glob 0 68 limitsC, .glob 1 168 firstC, .glob 2 171 acceptC] (fun r h' => ∃ s, h' = .row s 1 3 ((ofR h t).map intR) :: [.glob 0 68 limitsC, .glob 1 168 firstC, .glob 2 171 acceptC] ∧ r = .tup [.v s, iv (checkE h)]) := by
  refine acall_of_aw Tryz.func21 rfl rfl rfl ?_
  refine rn ?_
  refine aops_e rfl (oe_box rfl rfl rfl fun b2 => ?_)
  refine rn ?_
  refine qv rfl rfl (qv_call rfl rfl (FCall.qt (FCall.of_fun (check h la)) ((pt1 _ _ _).trans (.cons _ ((pt1 _ _ _).trans (.cons _ (pt1 _ _ _))))))) ?_
  refine rn ?_
  refine aw_cond rfl (fun hc13 => ?_) (fun hc13 => ?_)
  · have hm : mayB h = false := by
      cases hq : mayB h with
      | false => rfl
      | true => rw [check_0.2 hq] at hc13; cases hc13
    refine rn ?_
    exact retq (.cons _ _ _ _ (.tmp _ _ rfl) (.cons _ _ _ _ (.tmp _ _ rfl) .nil)) (.trans (.drop1 _ _ _) (vent_nilrow 1 3 _)) ⟨.slice none 0 0, by rw [ofR, hm]; rfl, rfl⟩
  · have hm : mayB h = true := check_0.1 (by simpa using hc13)
    have la3 := shaped_lim (may_shaped hm)
    have hle := la3.evs
    refine rn ?_
    refine aw_loop' (fun x : Nat × List Int × Value => x.1 ≤ h.evs.length ∧ x.2.1.length ≤ x.1 ∧ ofL t 0 h.evs = x.2.1 ++ ofL t x.1 (h.evs.drop x.1)) (fun x => ⟨[(18, iv x.1), (17, iv (h.evs.map evR).length), (16, evsA h.evs), (1, iv t), (7, .v x.2.2), (2, .v (.pointer (some ⟨b2, 0, none⟩)))], .row x.2.2 1 3 (x.2.1.map intR) :: .box b2 28 (histC h) :: [.glob 0 68 limitsC, .glob 1 168 firstC, .glob 2 171 acceptC], []⟩) (fun x => h.evs.length - x.1) (0, [], .slice none 0 0) ⟨by omega, by simp, by simp⟩
      (ent_trans (ent_nilrow 1 3) (ent_sub (.cons _ _ _ rfl (.cons _ _ _ rfl (.cons _ _ _ rfl (.cons _ _ _ rfl (.cons _ _ _ rfl (.cons _ _ _ rfl (.nil))))))))) ?_
    rintro ⟨k, d, s⟩ ⟨hk, hdk, hd⟩
    simp only at hk hdk hd
    refine rn ?_
    refine aw_cond rfl (fun hc19 => ?_) (fun hc19 => ?_)
    · have hk2 : k < h.evs.length := by simpa using hc19
      obtain ⟨e, he⟩ : ∃ e, e = h.evs[k] := ⟨_, rfl⟩
      have hrow : (h.evs.map evR)[k]? = some (evR e) := by rw [he]; simp [hk2]
      have hdr := List.drop_eq_getElem_cons hk2
      rw [← he] at hdr
      refine rn ?_
      refine aops_e rfl (oe_alloc rfl fun b9 => ?_)
      refine rn ?_
      refine aw_cond rfl (fun hc26 => ?_) (fun hc26 => ?_)
      · have het : e.t = t := by simpa using hc26
        refine rn ?_
        refine qv rfl rfl (qv_buildSlice rfl rfl) ?_
        refine aops_e rfl (oe_append_row rfl rfl (by simp; omega) rfl (fun s30 => ?_) (fun r hr => by simp at hr; subst hr; rfl))
        refine rn ?_
        exact ⟨(k + 1, d ++ [(k : Int)], s30), ⟨by omega, by simp; omega, by rw [hd, hdr, ofL, if_pos het]; simp⟩, (by rw [show (d ++ [(k : Int)]).map intR = d.map intR ++ [[iv k]] from by simp [intR]]; exact (ent_trans (ent_drop (h1 := [_])) (ent_sub (.cons _ _ _ rfl (.cons _ _ _ rfl (.cons _ _ _ rfl (.cons _ _ _ rfl (.cons _ _ _ rfl (.cons _ _ _ rfl (.nil)))))))))), by simp only; omega⟩
      · have het : ¬ e.t = t := by simpa using hc26
        refine rn ?_
        exact ⟨(k + 1, d, s), ⟨by omega, by simp only; omega, by rw [hd, hdr, ofL, if_neg het]⟩, (ent_trans (ent_drop (h1 := [_])) (ent_sub (.cons _ _ _ rfl (.cons _ _ _ rfl (.cons _ _ _ rfl (.cons _ _ _ rfl (.cons _ _ _ rfl (.cons _ _ _ rfl (.nil))))))))), by simp only; omega⟩
    · have hk2 : k = h.evs.length := by
        have : ¬ k < h.evs.length := by simpa using hc19
        omega
      subst hk2
      rw [List.drop_length, ofL, List.append_nil] at hd
      refine rn ?_
      have hz : checkE h = 0 := check_0.2 hm
      exact retq (.cons _ _ _ _ (.tmp _ _ rfl) (.cons _ _ _ _ (.tmp _ _ rfl) .nil)) (.trans (.perm (pt1 _ _ _) _) (.drop1 _ _ _)) ⟨s, by rw [ofR, hm, hd]; rfl, by rw [hz]; rfl⟩
theorem ofW (h : Hist) (t : Int) (la : Lim 4611686018427387904 h) : ACall Tryz.prog 21 [.agg (histC h), iv t] [.glob 0 68 limitsC, .glob 1 168 firstC, .glob 2 171 acceptC] (fun r h' => h' = [.glob 0 68 limitsC, .glob 1 168 firstC, .glob 2 171 acceptC] ∧ r = .tup [intsA (ofR h t), iv (checkE h)]) :=
  (ofO h t la).ventR (by rintro _ _ ⟨s, rfl, rfl⟩; exact ⟨_, _, vent_freeze_tup [] [_], rfl, rfl⟩)
end Go.Proofs
/- The walk of history.Complete. Conditions: none. -/
set_option linter.unusedVariables false
set_option linter.unusedSimpArgs false
set_option maxRecDepth 10000
namespace Go.Proofs
open Go Go.Ab
attribute [local irreducible] QR QV OE aops aw dsoup dsoupM dalloc dallocM thn inBlk
open Go.H
theorem ownL (h : Hist) (la : Lim 1099511627776 h) (L : List Res) : FCall Tryz.prog (.fn (.func 46) [] []) [.agg (histC h)] L (fun r h' => ∃ (n : NV) (o : OH), o.hist = h ∧ h' = L ++ nmR n h (ohF o []) ∧ r = .agg (n.cells ++ o.cells)) := by
  refine FCall.permR (((FCall.of_fun (own h la)).frame L).mono ?_)
  rintro _ _ ⟨h1, rfl, n, o, ho, rfl, rfl⟩
  rw [show ohR o = ohF o [] from by rw [← ohF_eq, List.append_nil]]
  exact ⟨_, List.perm_append_comm, n, o, ho, rfl, rfl⟩
set_option maxHeartbeats 4000000 in
theorem complete (h : Hist) (la : Lim 4611686018427387904 h) : ACall Tryz.prog 19 [.agg (histC h)] [.glob 0 68 limitsC, .glob 1 168 firstC, .glob 2 171 acceptC] (fun r h' => (complE h = 0 → ∃ (n : NV) (o : OH), o.hist = complH h ∧ h' = [.glob 0 68 limitsC, .glob 1 168 firstC, .glob 2 171 acceptC] ++ nmR n (complH h) (ohF o []) ∧ r = .tup [.agg (n.cells ++ o.cells), iv 0]) ∧ (complE h ≠ 0 → h' = [.glob 0 68 limitsC, .glob 1 168 firstC, .glob 2 171 acceptC] ∧ r = .tup [.agg histZ, iv (complE h)])) := by
  refine acall_of_aw Tryz.func19 rfl rfl rfl ?_
  refine rn ?_
  refine aops_e rfl (oe_box rfl rfl rfl fun b1 => ?_)
  refine aops_e rfl (oe_alloc rfl fun b2 => ?_)
  refine rn ?_
  refine qv rfl rfl (qv_call rfl rfl (FCall.qt (FCall.of_fun (check h la)) ((pt2 _ _ _ _).trans (.cons _ ((pt2 _ _ _ _).trans (.cons _ (pt2 _ _ _ _))))))) ?_
  refine rn ?_
  refine aw_cond rfl (fun hc15 => ?_) (fun hc15 => ?_)
  · have hm : mayB h = false := by
      cases hq : mayB h with
      | false => rfl
      | true => rw [check_0.2 hq] at hc15; cases hc15
    refine rn ?_
    have hc := complE_210 hm
    have h210 : checkE h = 210 := by rw [checkE, hm]; rfl
    exact retq (.cons _ _ _ _ (.agg _ _ _ _ _ _ _ rfl inferInstance inferInstance inferInstance rfl) (.cons _ _ _ _ (.tmp _ _ rfl) .nil)) (.drop [_, _] _ _) ⟨fun q => absurd (hc.symm.trans q) (by decide), fun _ => ⟨rfl, by rw [hc, h210]; rfl⟩⟩
  · have hm : mayB h = true := check_0.1 (by simpa using hc15)
    have hs := may_shaped hm
    have la3 := shaped_lim hs
    refine rn ?_
    refine aops_e rfl (oe_call rfl rfl (ownL h (la3.mono (by decide)) _) rfl ?_)
    rintro _ _ ⟨n, o, ho, rfl, rfl⟩
    subst ho
    have hev := (shaped_parts hs).2.1
    show aops _ _ _ _ _ _ ⟨_, .box b2 28 histZ :: .box b1 28 (histC o.hist) :: .glob 0 68 limitsC :: .glob 1 168 firstC :: .glob 2 171 acceptC :: .row n.vT.v 1 9 (o.hist.ts.map strR) :: .row n.vS.v 1 9 (o.hist.ss.map strR) :: .row n.vO.v 1 9 (o.hist.os.map strR) :: .row n.vP.v 1 9 (o.hist.ps.map strR) :: .row o.vE.v 9 39 ((o.evs).map evRw) :: .row o.vR.v 2 61 (o.ords.map ordRw) :: .row o.vM.v 4 64 (o.mats.map matRw) :: .row o.vW.v 2 67 (o.wants.map wanR) :: (scR 59 o.evs ++ (otR 3 o.ords ++ (mtR 3 o.mats ++ []))), _⟩
    refine rn ?_
    refine aops_e rfl (oe_makeSlice rfl rfl rfl (by have := la3.ts; simp; omega) (hk := fun bo => ?_))
    refine rn ?_
    refine aw_loop' (fun k : Nat => k ≤ o.evs.length) (fun k => ⟨[(27, iv k), (26, iv (o.evs.map evRw).length), (25, .v o.vE.v), (5, .v (.slice (some ⟨bo, 0, none⟩) (o.hist.ts.map strR).length (o.hist.ts.map strR).length : Value)), (1, .v (.pointer (some ⟨b1, 0, none⟩))), (2, .v (.pointer (some ⟨b2, 0, none⟩)))], .row (.slice (some ⟨bo, 0, none⟩) (o.hist.ts.map strR).length (o.hist.ts.map strR).length : Value) 1 4 (opens (o.hist.ts.map strR).length (fun t => begunL (o.hist.evs.take k) (t : Nat))) :: .box b2 28 histZ :: .box b1 28 (n.cells ++ [.v o.vE.v, .v o.vR.v, .v o.vM.v, .v o.vW.v]) :: .glob 0 68 limitsC :: .glob 1 168 firstC :: .glob 2 171 acceptC :: .row n.vT.v 1 9 (o.hist.ts.map strR) :: .row n.vS.v 1 9 (o.hist.ss.map strR) :: .row n.vO.v 1 9 (o.hist.os.map strR) :: .row n.vP.v 1 9 (o.hist.ps.map strR) :: .row o.vE.v 9 39 ((o.evs).map evRw) :: .row o.vR.v 2 61 (o.ords.map ordRw) :: .row o.vM.v 4 64 (o.mats.map matRw) :: .row o.vW.v 2 67 (o.wants.map wanR) :: (scR 59 (o.evs) ++ (otR 3 o.ords ++ (mtR 3 o.mats ++ []))), []⟩) (fun k => o.evs.length - k) 0 (by omega)
      (by rw [show opens (o.hist.ts.map strR).length (fun t => begunL (o.hist.evs.take 0) (t : Nat)) = List.replicate (o.hist.ts.map strR).length [AV.v (.bool false)] from (opens_start _).symm]; exact (ent_sub (.cons _ _ _ rfl (.cons _ _ _ rfl (.cons _ _ _ rfl (.cons _ _ _ rfl (.cons _ _ _ rfl (.cons _ _ _ rfl (.nil))))))))) ?_
    intro k hk
    refine rn ?_
    refine aw_cond rfl (fun hc28 => ?_) (fun hc28 => ?_)
    · have hk2 : k < o.evs.length := by simpa using hc28
      obtain ⟨sv, e, hp⟩ : ∃ sv e, o.evs[k]? = some (sv, e) := ⟨o.evs[k].1, o.evs[k].2, by simp [hk2]⟩
      have hrow : (o.evs.map evRw)[k]? = some (evRw (sv, e)) := by simp [hp]
      have hk3 : k < (o.evs.map evRw).length := by simpa using hk2
      have hek : o.hist.evs[k]? = some e := by simp [OH.hist, hp]
      have hek2 : k < o.hist.evs.length := by simpa [OH.hist] using hk2
      have hek3 : e = o.hist.evs[k] := by rw [List.getElem?_eq_getElem hek2] at hek; exact (Option.some.inj hek).symm
      obtain ⟨_, _, het, _⟩ := event_parts (hev e (by rw [hek3]; simp))
      have het2 := (toldB_iff _ _).1 het
      obtain ⟨m, hm0⟩ : ∃ m : Nat, e.t = m := ⟨e.t.toNat, by omega⟩
      have hle := la3.evs
      obtain ⟨ki, t, es_, el, eo, ev_, ep, esc⟩ := e
      simp only at hm0
      subst hm0
      have hmN : m < (o.hist.ts.map strR).length := by rw [List.length_map]; have := het2.2; simp only at this; omega
      have hmN2 := opens_len (o.hist.ts.map strR).length (fun t => begunL (o.hist.evs.take k) (t : Nat))
      have hmN3 : m < (opens (o.hist.ts.map strR).length (fun t => begunL (o.hist.evs.take k) (t : Nat))).length := by rw [hmN2]; exact hmN
      have hopn := opens_get (f := fun t => begunL (o.hist.evs.take k) (t : Nat)) hmN
      have htk := take_snoc' hek2 hek3
      refine aw_skip ?_
      refine thn_n ?_
      refine aw_seq ?_
      refine aw_block ?_
      refine aw_seq (aw_region ?_)
      refine q1 ?_
      refine qq rfl rfl (qr_load_rp_all (row := evRw (sv, ⟨ki, ((m : Nat) : Int), es_, el, eo, ev_, ep, esc⟩)) rfl hrow rfl) ?_
      refine aops_e rfl (oe_alloc rfl fun b7 => ?_)
      refine rn ?_
      refine aw_draw 13 rfl ?_
      refine dq rfl rfl qrA ?_
      refine dq rfl rfl qrA ?_
      refine dq rfl rfl qrA ?_
      refine dq rfl rfl qrA ?_
      refine dq rfl rfl qrA ?_
      refine dq rfl rfl qrA ?_
      refine dq rfl rfl (qr_index_row rfl rfl hmN3) ?_
      refine dq rfl rfl (qr_load_rp_one rfl hopn rfl) ?_
      refine rn ?_
      refine dsplit (fun hg9_8 => ?_) (fun hg9_8 => ?_)
      · refine rn2 ?_
        refine qq rfl rfl (qr_index_row rfl rfl hmN3) ?_
        refine aops_e rfl (oe_store_rp rfl rfl rfl hopn rfl (Nat.le_of_ble_eq_true rfl) ?_)
        refine rn ?_
        have hset := opens_set (f := fun t => begunL (o.hist.evs.take k) (t : Nat)) (g := fun t => begunL (o.hist.evs.take (k + 1)) (t : Nat)) hmN (fun t ht => by simp only [htk]; rw [begun_other rfl ht]) ([bv (begunL (o.hist.evs.take k) ((m : Nat) : Int))].take 0 ++ [bv true] ++ [bv (begunL (o.hist.evs.take k) ((m : Nat) : Int))].drop (0 + 1)) (by simp only [htk]; rw [begun_this rfl]; exact congrArg (fun b => [bv b]) (begin_1 hg9_8))
        exact ⟨k + 1, by omega, (by rw [← hset]; exact (ent_trans (ent_drop (h1 := [_])) (ent_sub (.cons _ _ _ rfl (.cons _ _ _ rfl (.cons _ _ _ rfl (.cons _ _ _ rfl (.cons _ _ _ rfl (.cons _ _ _ rfl (.nil)))))))))), by omega⟩
      · refine rn2 ?_
        refine qq rfl rfl (qr_index_row rfl rfl hmN3) ?_
        refine aops_e rfl (oe_store_rp rfl rfl rfl hopn rfl (Nat.le_of_ble_eq_true rfl) ?_)
        refine rn ?_
        have hset := opens_set (f := fun t => begunL (o.hist.evs.take k) (t : Nat)) (g := fun t => begunL (o.hist.evs.take (k + 1)) (t : Nat)) hmN (fun t ht => by simp only [htk]; rw [begun_other rfl ht]) ([bv (begunL (o.hist.evs.take k) ((m : Nat) : Int))].take 0 ++ [bv (ki == 1)] ++ [bv (begunL (o.hist.evs.take k) ((m : Nat) : Int))].drop (0 + 1)) (by simp only [htk]; rw [begun_this rfl]; exact congrArg (fun b => [bv b]) (begin_2 hg9_8))
        exact ⟨k + 1, by omega, (by rw [← hset]; exact (ent_trans (ent_drop (h1 := [_])) (ent_sub (.cons _ _ _ rfl (.cons _ _ _ rfl (.cons _ _ _ rfl (.cons _ _ _ rfl (.cons _ _ _ rfl (.cons _ _ _ rfl (.nil)))))))))), by omega⟩
    · obtain rfl : k = o.evs.length := by
        have : ¬ k < o.evs.length := by simpa using hc28
        omega
      have hta : o.hist.evs.take o.evs.length = o.hist.evs := List.take_of_length_le (by simp [OH.hist])
      refine rn ?_
      refine aw_loop' (fun k : Nat => k ≤ o.evs.length) (fun k => ⟨[(49, iv k), (48, iv (o.evs.map evRw).length), (47, .v o.vE.v), (5, .v (.slice (some ⟨bo, 0, none⟩) (o.hist.ts.map strR).length (o.hist.ts.map strR).length : Value)), (1, .v (.pointer (some ⟨b1, 0, none⟩))), (2, .v (.pointer (some ⟨b2, 0, none⟩)))], .row (.slice (some ⟨bo, 0, none⟩) (o.hist.ts.map strR).length (o.hist.ts.map strR).length : Value) 1 4 (opens (o.hist.ts.map strR).length (fun t => begunL o.hist.evs (t : Nat) && !overL (o.hist.evs.take k) (t : Nat))) :: .box b2 28 histZ :: .box b1 28 (n.cells ++ [.v o.vE.v, .v o.vR.v, .v o.vM.v, .v o.vW.v]) :: .glob 0 68 limitsC :: .glob 1 168 firstC :: .glob 2 171 acceptC :: .row n.vT.v 1 9 (o.hist.ts.map strR) :: .row n.vS.v 1 9 (o.hist.ss.map strR) :: .row n.vO.v 1 9 (o.hist.os.map strR) :: .row n.vP.v 1 9 (o.hist.ps.map strR) :: .row o.vE.v 9 39 ((o.evs).map evRw) :: .row o.vR.v 2 61 (o.ords.map ordRw) :: .row o.vM.v 4 64 (o.mats.map matRw) :: .row o.vW.v 2 67 (o.wants.map wanR) :: (scR 59 (o.evs) ++ (otR 3 o.ords ++ (mtR 3 o.mats ++ []))), []⟩) (fun k => o.evs.length - k) 0 (by omega)
        (by rw [show opens (o.hist.ts.map strR).length (fun t => begunL o.hist.evs (t : Nat) && !overL (o.hist.evs.take 0) (t : Nat)) = opens (o.hist.ts.map strR).length (fun t => begunL (o.hist.evs.take o.evs.length) (t : Nat)) from by simp [hta, overL]]; exact (ent_sub (.cons _ _ _ rfl (.cons _ _ _ rfl (.cons _ _ _ rfl (.cons _ _ _ rfl (.cons _ _ _ rfl (.cons _ _ _ rfl (.nil))))))))) ?_
      intro k hk
      refine rn ?_
      refine aw_cond rfl (fun hc50 => ?_) (fun hc50 => ?_)
      · have hk2 : k < o.evs.length := by simpa using hc50
        obtain ⟨sv, e, hp⟩ : ∃ sv e, o.evs[k]? = some (sv, e) := ⟨o.evs[k].1, o.evs[k].2, by simp [hk2]⟩
        have hrow : (o.evs.map evRw)[k]? = some (evRw (sv, e)) := by simp [hp]
        have hk3 : k < (o.evs.map evRw).length := by simpa using hk2
        have hek : o.hist.evs[k]? = some e := by simp [OH.hist, hp]
        have hek2 : k < o.hist.evs.length := by simpa [OH.hist] using hk2
        have hek3 : e = o.hist.evs[k] := by rw [List.getElem?_eq_getElem hek2] at hek; exact (Option.some.inj hek).symm
        obtain ⟨_, _, het, _⟩ := event_parts (hev e (by rw [hek3]; simp))
        have het2 := (toldB_iff _ _).1 het
        obtain ⟨m, hm0⟩ : ∃ m : Nat, e.t = m := ⟨e.t.toNat, by omega⟩
        have hle := la3.evs
        obtain ⟨ki, t, es_, el, eo, ev_, ep, esc⟩ := e
        simp only at hm0
        subst hm0
        have hmN : m < (o.hist.ts.map strR).length := by rw [List.length_map]; have := het2.2; simp only at this; omega
        have hmN2 := opens_len (o.hist.ts.map strR).length (fun t => begunL o.hist.evs (t : Nat) && !overL (o.hist.evs.take k) (t : Nat))
        have hmN3 : m < (opens (o.hist.ts.map strR).length (fun t => begunL o.hist.evs (t : Nat) && !overL (o.hist.evs.take k) (t : Nat))).length := by rw [hmN2]; exact hmN
        have hopn := opens_get (f := fun t => begunL o.hist.evs (t : Nat) && !overL (o.hist.evs.take k) (t : Nat)) hmN
        have htk := take_snoc' hek2 hek3
        refine aw_skip ?_
        refine thn_n ?_
        refine aw_seq ?_
        refine aw_block ?_
        refine aw_seq (aw_region ?_)
        refine q1 ?_
        refine qq rfl rfl (qr_load_rp_all (row := evRw (sv, ⟨ki, ((m : Nat) : Int), es_, el, eo, ev_, ep, esc⟩)) rfl hrow rfl) ?_
        refine aops_e rfl (oe_alloc rfl fun b9 => ?_)
        refine rn ?_
        refine aw_draw 18 rfl ?_
        refine dq rfl rfl qrA ?_
        refine dq rfl rfl qrA ?_
        refine dq rfl rfl qrA ?_
        refine dq rfl rfl qrA ?_
        refine dq rfl rfl qrA ?_
        refine dq rfl rfl qrA ?_
        refine dq rfl rfl (qr_index_row rfl rfl hmN3) ?_
        refine dq rfl rfl (qr_load_rp_one rfl hopn rfl) ?_
        refine rn ?_
        refine dsplit (fun hg14_8 => ?_) (fun hg14_8 => ?_)
        · refine rn ?_
          refine dsplit (fun hg14_13 => ?_) (fun hg14_13 => ?_)
          · refine rn2 ?_
            refine qq rfl rfl (qr_index_row rfl rfl hmN3) ?_
            refine aops_e rfl (oe_store_rp rfl rfl rfl hopn rfl (Nat.le_of_ble_eq_true rfl) ?_)
            refine rn ?_
            have hset := opens_set (f := fun t => begunL o.hist.evs (t : Nat) && !overL (o.hist.evs.take k) (t : Nat)) (g := fun t => begunL o.hist.evs (t : Nat) && !overL (o.hist.evs.take (k + 1)) (t : Nat)) hmN (fun t ht => by simp only [htk]; rw [over_other rfl ht]) ([bv (begunL o.hist.evs ((m : Nat) : Int) && !overL (o.hist.evs.take k) ((m : Nat) : Int))].take 0 ++ [bv (ki != 6)] ++ [bv (begunL o.hist.evs ((m : Nat) : Int) && !overL (o.hist.evs.take k) ((m : Nat) : Int))].drop (0 + 1)) (by simp only [htk]; rw [over_this rfl]; exact congrArg (fun b => [bv b]) (open_1 hg14_8 hg14_13))
            exact ⟨k + 1, by omega, (by rw [← hset]; exact (ent_trans (ent_drop (h1 := [_])) (ent_sub (.cons _ _ _ rfl (.cons _ _ _ rfl (.cons _ _ _ rfl (.cons _ _ _ rfl (.cons _ _ _ rfl (.cons _ _ _ rfl (.nil)))))))))), by omega⟩
          · refine rn2 ?_
            refine qq rfl rfl (qr_index_row rfl rfl hmN3) ?_
            refine aops_e rfl (oe_store_rp rfl rfl rfl hopn rfl (Nat.le_of_ble_eq_true rfl) ?_)
            refine rn ?_
            have hset := opens_set (f := fun t => begunL o.hist.evs (t : Nat) && !overL (o.hist.evs.take k) (t : Nat)) (g := fun t => begunL o.hist.evs (t : Nat) && !overL (o.hist.evs.take (k + 1)) (t : Nat)) hmN (fun t ht => by simp only [htk]; rw [over_other rfl ht]) ([bv (begunL o.hist.evs ((m : Nat) : Int) && !overL (o.hist.evs.take k) ((m : Nat) : Int))].take 0 ++ [bv false] ++ [bv (begunL o.hist.evs ((m : Nat) : Int) && !overL (o.hist.evs.take k) ((m : Nat) : Int))].drop (0 + 1)) (by simp only [htk]; rw [over_this rfl]; exact congrArg (fun b => [bv b]) (open_2 hg14_8 hg14_13))
            exact ⟨k + 1, by omega, (by rw [← hset]; exact (ent_trans (ent_drop (h1 := [_])) (ent_sub (.cons _ _ _ rfl (.cons _ _ _ rfl (.cons _ _ _ rfl (.cons _ _ _ rfl (.cons _ _ _ rfl (.cons _ _ _ rfl (.nil)))))))))), by omega⟩
        · refine rn2 ?_
          refine qq rfl rfl (qr_index_row rfl rfl hmN3) ?_
          refine aops_e rfl (oe_store_rp rfl rfl rfl hopn rfl (Nat.le_of_ble_eq_true rfl) ?_)
          refine rn ?_
          have hset := opens_set (f := fun t => begunL o.hist.evs (t : Nat) && !overL (o.hist.evs.take k) (t : Nat)) (g := fun t => begunL o.hist.evs (t : Nat) && !overL (o.hist.evs.take (k + 1)) (t : Nat)) hmN (fun t ht => by simp only [htk]; rw [over_other rfl ht]) ([bv (begunL o.hist.evs ((m : Nat) : Int) && !overL (o.hist.evs.take k) ((m : Nat) : Int))].take 0 ++ [bv false] ++ [bv (begunL o.hist.evs ((m : Nat) : Int) && !overL (o.hist.evs.take k) ((m : Nat) : Int))].drop (0 + 1)) (by simp only [htk]; rw [over_this rfl]; exact congrArg (fun b => [bv b]) (open_3 hg14_8))
          exact ⟨k + 1, by omega, (by rw [← hset]; exact (ent_trans (ent_drop (h1 := [_])) (ent_sub (.cons _ _ _ rfl (.cons _ _ _ rfl (.cons _ _ _ rfl (.cons _ _ _ rfl (.cons _ _ _ rfl (.cons _ _ _ rfl (.nil)))))))))), by omega⟩
      · obtain rfl : k = o.evs.length := by
          have : ¬ k < o.evs.length := by simpa using hc50
          omega
        have hta : o.hist.evs.take o.evs.length = o.hist.evs := List.take_of_length_le (by simp [OH.hist])
        refine rn ?_
        refine aw_loop' (fun x : Nat × SV => x.1 ≤ o.hist.ts.length) (fun x => ⟨[(75, iv x.1), (74, iv (o.hist.ts.map strR).length), (73, .v (.slice (some ⟨bo, 0, none⟩) (o.hist.ts.map strR).length (o.hist.ts.map strR).length : Value)), (1, .v (.pointer (some ⟨b1, 0, none⟩))), (2, .v (.pointer (some ⟨b2, 0, none⟩)))], .row (.slice (some ⟨bo, 0, none⟩) (o.hist.ts.map strR).length (o.hist.ts.map strR).length : Value) 1 4 (opens (o.hist.ts.map strR).length (isOpen o.hist)) :: .box b2 28 histZ :: .box b1 28 (n.cells ++ [.v x.2.v, .v o.vR.v, .v o.vM.v, .v o.vW.v]) :: .glob 0 68 limitsC :: .glob 1 168 firstC :: .glob 2 171 acceptC :: .row n.vT.v 1 9 (o.hist.ts.map strR) :: .row n.vS.v 1 9 (o.hist.ss.map strR) :: .row n.vO.v 1 9 (o.hist.os.map strR) :: .row n.vP.v 1 9 (o.hist.ps.map strR) :: .row x.2.v 9 39 ((o.evs ++ abR (opensTo o.hist x.1)).map evRw) :: .row o.vR.v 2 61 (o.ords.map ordRw) :: .row o.vM.v 4 64 (o.mats.map matRw) :: .row o.vW.v 2 67 (o.wants.map wanR) :: (scR 59 (o.evs ++ abR (opensTo o.hist x.1)) ++ (otR 3 o.ords ++ (mtR 3 o.mats ++ []))), []⟩) (fun x => o.hist.ts.length - x.1) (0, o.vE) (by simp)
          (by simp only [show opensTo o.hist 0 = [] from rfl, abR, List.map_nil, List.append_nil, opens_len]; rw [show opens (o.hist.ts.map strR).length (isOpen o.hist) = opens (o.hist.ts.map strR).length (fun t => begunL o.hist.evs (t : Nat) && !overL (o.hist.evs.take o.evs.length) (t : Nat)) from by simp only [hta]; rfl]; exact (ent_sub (.cons _ _ _ rfl (.cons _ _ _ rfl (.cons _ _ _ rfl (.cons _ _ _ rfl (.cons _ _ _ rfl (.nil)))))))) ?_
        rintro ⟨k, s⟩ hk
        simp only at hk
        refine rn ?_
        refine aw_cond rfl (fun hc76 => ?_) (fun hc76 => ?_)
        · have hk2 : k < (o.hist.ts.map strR).length := by simpa using hc76
          have hkt : k < o.hist.ts.length := by simpa using hk2
          have hk3 : k < (opens (o.hist.ts.map strR).length (isOpen o.hist)).length := by rw [opens_len]; exact hk2
          have hopn := opens_get (f := isOpen o.hist) hk2
          have hlt := la3.ts
          have hle := la3.evs
          have hle2 : o.evs.length ≤ 3000 := by simpa [OH.hist] using hle
          have hol := opensTo_len o.hist k
          refine aw_skip ?_
          refine thn_n ?_
          refine aw_seq ?_
          refine aw_block ?_
          refine aw_seq (aw_region ?_)
          refine q1 ?_
          refine q1 ?_
          refine qq rfl rfl (qr_load_rp_one rfl hopn rfl) ?_
          refine rn ?_
          refine aw_cond rfl (fun hc80 => ?_) (fun hc80 => ?_)
          · have hop : isOpen o.hist k = true := hc80
            refine rn ?_
            refine qv rfl rfl (qv_buildSlice rfl rfl) ?_
            refine aops_e rfl (oe_append_row rfl rfl (by simp [abR]; omega) rfl (fun s86 => ?_) (fun r hr => by simp at hr; subst hr; rfl))
            refine aops_slice s86 fun sv hsv => ?_
            subst hsv
            refine rn ?_
            have hrows : (o.evs ++ abR (opensTo o.hist k)).map evRw ++ [evRw (nilS, abortE k)] = (o.evs ++ abR (opensTo o.hist (k + 1))).map evRw := by rw [opensTo_go hop]; simp [abR]
            have hsc : scR 59 (o.evs ++ abR (opensTo o.hist (k + 1))) = scR 59 (o.evs ++ abR (opensTo o.hist k)) ++ [.row nilS.v 3 59 []] := by rw [opensTo_go hop, abR, List.map_append, ← List.append_assoc]; exact scR_snoc _ _ _
            exact ⟨(k + 1, sv), by simp only; omega, (by rw [← hrows, hsc, List.append_assoc (scR 59 (o.evs ++ abR (opensTo o.hist k)))]; exact ent_trans (ent_nilrow 3 59) (ent_trans (ent_pcs (l1 := [[_], [_, _, _, _, _, _, _, _, _, _, _, _, _, _], scR 59 (o.evs ++ abR (opensTo o.hist k)), otR 3 o.ords, mtR 3 o.mats]) (l2 := [[_, _, _, _, _, _, _, _, _, _, _, _, _, _], scR 59 (o.evs ++ abR (opensTo o.hist k)), [_], otR 3 o.ords, mtR 3 o.mats]) ((pt1 _ _ _).trans (.cons _ (pt1 _ _ _)))) (ent_sub (.cons _ _ _ rfl (.cons _ _ _ rfl (.cons _ _ _ rfl (.cons _ _ _ rfl (.cons _ _ _ rfl (.nil))))))))), by simp only; omega⟩
          · have hop : isOpen o.hist k = false := hc80
            refine rn ?_
            exact ⟨(k + 1, s), by simp only; omega, (by simp only [opensTo_no hop]; exact (ent_sub (.cons _ _ _ rfl (.cons _ _ _ rfl (.cons _ _ _ rfl (.cons _ _ _ rfl (.cons _ _ _ rfl (.nil)))))))), by simp only; omega⟩
        · obtain rfl : k = o.hist.ts.length := by
            have : ¬ k < (o.hist.ts.map strR).length := by simpa using hc76
            simp at this; omega
          refine rn ?_
          refine aw_cond rfl (fun hc92 => ?_) (fun hc92 => ?_)
          · have hc : complE o.hist = 6 := complE_6 hm (many_6 hc92)
            refine rn ?_
            exact retq (.cons _ _ _ _ (.agg _ _ _ _ _ _ _ rfl inferInstance inferInstance inferInstance rfl) (.cons _ _ _ _ (.tmp _ _ rfl) .nil)) (.trans (.perm (pcs_perm (l1 := [[_, _, _], [.glob 0 68 limitsC, .glob 1 168 firstC, .glob 2 171 acceptC], [_, _, _, _, _, _, _, _], scR 59 (o.evs ++ abR (opensTo o.hist o.hist.ts.length)), otR 3 o.ords, mtR 3 o.mats]) (l2 := [[_, _, _], [_, _, _, _, _, _, _, _], scR 59 (o.evs ++ abR (opensTo o.hist o.hist.ts.length)), otR 3 o.ords, mtR 3 o.mats, [.glob 0 68 limitsC, .glob 1 168 firstC, .glob 2 171 acceptC]]) (.cons _ ((pt1 _ _ _).trans (.cons _ ((pt1 _ _ _).trans (.cons _ ((pt1 _ _ _).trans (.cons _ (pt1 _ _ _)))))))) []) _) (vent_drops [[_, _, _], [_, _, _, _, _, _, _, _], scR 59 (o.evs ++ abR (opensTo o.hist o.hist.ts.length)), otR 3 o.ords, mtR 3 o.mats] [.glob 0 68 limitsC, .glob 1 168 firstC, .glob 2 171 acceptC] _)) ⟨fun q => absurd (hc.symm.trans q) (by decide), fun _ => ⟨rfl, by rw [hc]; rfl⟩⟩
          · have hc : complE o.hist = 0 := complE_0 hm (many_0 hc92)
            refine rn ?_
            exact retq (.cons _ _ _ _ (.agg _ _ _ _ _ _ _ rfl inferInstance inferInstance inferInstance rfl) (.cons _ _ _ _ (.tmp _ _ rfl) .nil)) (.drop [_, _, _] _ _) ⟨fun _ => ⟨n, { o with vE := s, evs := o.evs ++ abR (opensTo o.hist o.hist.ts.length) }, compl_hist o s, rfl, rfl⟩, fun q => absurd hc q⟩
end Go.Proofs
/- Number and Complete, read plainly; the law's small history. Conditions: none. -/
set_option linter.unusedVariables false
set_option linter.unusedSimpArgs false
set_option maxRecDepth 10000
namespace Go.Proofs
open Go Go.Ab
attribute [local irreducible] QR QV OE aops aw dsoup dsoupM dalloc dallocM thn inBlk
open Go.H
theorem numberP (h : Hist) (la : Lim 4611686018427387904 h) : ACall Tryz.prog 15 [.agg (histC h)] [.glob 0 68 limitsC, .glob 1 168 firstC, .glob 2 171 acceptC] (fun r h' => h' = [.glob 0 68 limitsC, .glob 1 168 firstC, .glob 2 171 acceptC] ∧ r = .tup [.agg (histC (numR h)), iv (numE h)]) := by
  refine (number h la).ventR ?_
  rintro r h' ⟨ht, hf⟩
  by_cases hs : shapedB h = true
  · obtain ⟨n, o, ho, rfl, rfl⟩ := ht hs
    refine ⟨_, _, (by rw [← ho]; exact hist_freeze [.glob 0 68 limitsC, .glob 1 168 firstC, .glob 2 171 acceptC] n o 9 39 61 64 67 59 3 (nmR n o.hist (ohF o [])) (by simp [nmR, OH.hist]) (by simp [nmR, OH.hist]) (by simp [nmR, OH.hist]) (by simp [nmR, OH.hist]) (by simp [nmR, ohF]) (by simp [nmR, ohF]) (by simp [nmR, ohF]) (by simp [nmR, ohF]) (fun r hr => by simp [nmR, ohF, hr]) (fun r hr => by simp [nmR, ohF, hr]) (fun r hr => by simp [nmR, ohF, hr]) (iv 0) (.v _)), rfl, ?_⟩
    rw [ho, numR, numE, if_pos hs, if_pos hs]
  · obtain ⟨rfl, rfl⟩ := hf (by simpa using hs)
    refine ⟨_, _, .le (Sb.tups (aS := [.agg histZ, _]) (bs := [.agg (histC hist0), _]) ⟨Sb.aggs (aS := histZ) (bs := histC hist0) ⟨.nil _ _, .nil _ _, .nil _ _, .nil _ _, .nil _ _, .nil _ _, .nil _ _, .nil _ _, trivial⟩, .refl _, trivial⟩).le, rfl, ?_⟩
    rw [numR, numE, if_neg hs, if_neg hs]
theorem completeP (h : Hist) (la : Lim 4611686018427387904 h) : ACall Tryz.prog 19 [.agg (histC h)] [.glob 0 68 limitsC, .glob 1 168 firstC, .glob 2 171 acceptC] (fun r h' => h' = [.glob 0 68 limitsC, .glob 1 168 firstC, .glob 2 171 acceptC] ∧ r = .tup [.agg (histC (complR h)), iv (complE h)]) := by
  refine (complete h la).ventR ?_
  rintro r h' ⟨ht, hf⟩
  by_cases hs : complE h = 0
  · obtain ⟨n, o, ho, rfl, rfl⟩ := ht hs
    refine ⟨_, _, (by rw [← ho]; exact hist_freeze [.glob 0 68 limitsC, .glob 1 168 firstC, .glob 2 171 acceptC] n o 9 39 61 64 67 59 3 (nmR n o.hist (ohF o [])) (by simp [nmR, OH.hist]) (by simp [nmR, OH.hist]) (by simp [nmR, OH.hist]) (by simp [nmR, OH.hist]) (by simp [nmR, ohF]) (by simp [nmR, ohF]) (by simp [nmR, ohF]) (by simp [nmR, ohF]) (fun r hr => by simp [nmR, ohF, hr]) (fun r hr => by simp [nmR, ohF, hr]) (fun r hr => by simp [nmR, ohF, hr]) (iv 0) (.v _)), rfl, ?_⟩
    rw [ho, complR, if_pos hs, hs]
  · obtain ⟨rfl, rfl⟩ := hf (hs)
    refine ⟨_, _, .le (Sb.tups (aS := [.agg histZ, _]) (bs := [.agg (histC hist0), _]) ⟨Sb.aggs (aS := histZ) (bs := histC hist0) ⟨.nil _ _, .nil _ _, .nil _ _, .nil _ _, .nil _ _, .nil _ _, .nil _ _, .nil _ _, trivial⟩, .refl _, trivial⟩).le, rfl, ?_⟩
    rw [complR, if_neg hs]
theorem smallP  : ACall Tryz.prog 26 [] [] (fun r h' => h' = [] ∧ r = .agg (histC smallH)) := by
  refine acall_of_aw Tryz.func26 rfl rfl rfl ?_
  refine rn ?_
  refine aops_e rfl (oe_alloc rfl fun b0 => ?_)
  refine rn ?_
  refine qv rfl rfl (qv_buildSlice rfl rfl) ?_
  refine qv rfl rfl (qv_buildSlice rfl rfl) ?_
  refine qv rfl rfl (qv_buildSlice rfl rfl) ?_
  refine rn ?_
  refine qv rfl rfl (qv_buildSlice rfl rfl) ?_
  refine rn ?_
  exact retq (.cons _ _ _ _ (.agg _ _ _ _ _ _ _ rfl inferInstance inferInstance inferInstance rfl) .nil) (.trans (.drop1 _ _ _) (.le (Sb.aggs (bs := histC smallH) (by exact ⟨.unfull, .unfull, .unfull, .nil _ _, (.lists (by simp) ⟨⟨.refl _, .refl _, .refl _, .refl _, .refl _, .refl _, .refl _, .refl _, .nil _ _, trivial⟩, ⟨.refl _, .refl _, .refl _, .refl _, .refl _, .refl _, .refl _, .refl _, .nil _ _, trivial⟩, ⟨.refl _, .refl _, .refl _, .refl _, .refl _, .refl _, .refl _, .refl _, .nil _ _, trivial⟩, trivial⟩), .nil _ _, .nil _ _, .nil _ _, trivial⟩)).le)) ⟨rfl, rfl⟩
theorem smallO  : ACall Tryz.prog 26 [] [] (fun r h' => ∃ s : SV, h' = [.row s.v 9 39 (smallH.evs.map evR)] ∧ r = .agg ([strsA smallH.ts, strsA smallH.ss, strsA smallH.os, strsA []] ++ .v s.v :: [ordsA [], matsA [], wansA []])) := by
  refine acall_of_aw Tryz.func26 rfl rfl rfl ?_
  refine rn ?_
  refine aops_e rfl (oe_alloc rfl fun b0 => ?_)
  refine rn ?_
  refine qv rfl rfl (qv_buildSlice rfl rfl) ?_
  refine qv rfl rfl (qv_buildSlice rfl rfl) ?_
  refine qv rfl rfl (qv_buildSlice rfl rfl) ?_
  refine rn ?_
  refine aops_e rfl (oe_buildRow rfl rfl rfl fun s8 => ?_)
  refine aops_slice s8 fun sv hsv => ?_
  subst hsv
  refine rn ?_
  exact retq (.cons _ _ _ _ (.agg _ _ _ _ _ _ _ rfl inferInstance inferInstance inferInstance rfl) .nil) (.trans (.perm (pt1 _ _ _) _) (.trans (.drop1 _ _ _) (.trans (vent_row_sb (rows' := smallH.evs.map evR) (by exact ⟨⟨.refl _, .refl _, .refl _, .refl _, .refl _, .refl _, .refl _, .refl _, .nil _ _, trivial⟩, ⟨.refl _, .refl _, .refl _, .refl _, .refl _, .refl _, .refl _, .refl _, .nil _ _, trivial⟩, ⟨.refl _, .refl _, .refl _, .refl _, .refl _, .refl _, .refl _, .refl _, .nil _ _, trivial⟩, trivial⟩) _) (.le (Sb.aggs (bs := [strsA smallH.ts, strsA smallH.ss, strsA smallH.os, strsA []] ++ .v sv.v :: [ordsA [], matsA [], wansA []]) (by exact ⟨.unfull, .unfull, .unfull, .nil _ _, .refl _, .nil _ _, .nil _ _, .nil _ _, trivial⟩)).le)))) ⟨sv, rfl, rfl⟩
end Go.Proofs
/- The walks of the law's cut and few. Conditions: none. -/
set_option linter.unusedVariables false
set_option linter.unusedSimpArgs false
set_option maxRecDepth 10000
namespace Go.Proofs
open Go Go.Ab
attribute [local irreducible] QR QV OE aops aw dsoup dsoupM dalloc dallocM thn inBlk
open Go.H
theorem cut {full : Bool} (l : List ByteArray) (most : Nat) (hm : most ≤ 1000) : ACall Tryz.prog 27 [.list full 1 (l.map strR), iv most] [] (fun r h' => h' = [] ∧ r = strsA (cutL most l)) := by
  refine acall_of_aw Tryz.func27 rfl rfl rfl ?_
  refine aw_seq (aw_region ?_)
  refine q1 ?_
  refine aops_nil (thn_n ?_)
  refine aw_seq (aw_region ?_)
  refine q1 ?_
  refine q1 ?_
  refine q1 ?_
  refine q1 ?_
  refine qq rfl rfl (qr_minN (l.map strR).length most rfl rfl) ?_
  refine qq rfl rfl (qr_slice_hE (rows' := (l.take most).map strR) rfl rfl (by omega) (by rw [List.length_map]; exact take_min strR l most)) ?_
  refine aops_e rfl (oe_call rfl rfl (FCall.rowS (FCall.of_fun (cloneRowStr _ (by simp; omega) (one_str _)))) rfl ?_)
  rintro _ _ ⟨s, rfl, rfl⟩
  refine rn ?_
  refine aw_loop' (fun k : Nat => k ≤ (l.take most).length) (fun k => ⟨[(17, iv k), (16, iv ((l.take most).map strR).length), (15, .v s.v), (5, .v s.v)], [.row s.v 1 9 ((((l.take most).take k).map cutS).map strR ++ ((l.take most).drop k).map strR)], []⟩) (fun k => (l.take most).length - k) 0 (by omega)
    (by simp only [List.take_zero, List.map_nil, List.nil_append, List.drop_zero]; exact (ent_sub (.cons _ _ _ rfl (.cons _ _ _ rfl (.cons _ _ _ rfl (.cons _ _ _ rfl (.nil))))))) ?_
  intro k hk
  refine rn ?_
  refine aw_cond rfl (fun hc18 => ?_) (fun hc18 => ?_)
  · have hk2 : k < (l.take most).length := by simpa using hc18
    obtain ⟨b, hb⟩ : ∃ b, b = (l.take most)[k] := ⟨_, rfl⟩
    have hd := List.drop_eq_getElem_cons hk2
    rw [← hb] at hd
    have hL := List.length_take_le most l
    have hkl : (((l.take most).take k).map cutS).length = k := by rw [List.length_map, List.length_take]; omega
    have hrow := mid_get (f := strR) (g := strR) (xs := ((l.take most).take k).map cutS) (k := k) hkl hd
    have hk3 : k < ((((l.take most).take k).map cutS).map strR ++ ((l.take most).drop k).map strR).length := by rw [mid_len hkl hk]; exact hk2
    refine aw_skip ?_
    refine thn_n ?_
    refine aw_seq ?_
    refine aw_block ?_
    refine aw_seq (aw_region ?_)
    refine q1 ?_
    refine q1 ?_
    refine qq rfl rfl (qr_load_rp_one rfl hrow rfl) ?_
    refine q1 ?_
    refine q1 ?_
    refine aops_nil (thn_n ?_)
    refine aw_region ?_
    refine q1 ?_
    refine q1 ?_
    refine q1 ?_
    refine q1 ?_
    refine q1 ?_
    refine qq rfl rfl (qr_minN b.size 40 rfl rfl) ?_
    refine qq rfl rfl (qr_slice_string_h rfl rfl (by omega)) ?_
    refine rn ?_
    refine aops_e rfl (oe_store_rp rfl rfl rfl hrow rfl (Nat.le_of_ble_eq_true rfl) ?_)
    refine rn ?_
    have hset := mid_set (f := strR) (g := strR) (l := (l.take most)) (xs := ((l.take most).take k).map cutS) (a := cutS b) (r := (strR b).take 0 ++ [sv (cutS b)] ++ (strR b).drop (0 + 1)) hkl hd rfl
    have hx : ((l.take most).take k).map cutS ++ [cutS b] = ((l.take most).take (k + 1)).map cutS := by rw [List.take_succ_eq_append_getElem hk2, hb]; simp
    rw [hx] at hset
    exact ⟨k + 1, by omega, (by rw [← hset]; exact (ent_sub (.cons _ _ _ rfl (.cons _ _ _ rfl (.cons _ _ _ rfl (.cons _ _ _ rfl (.nil))))))), by omega⟩
  · obtain rfl : k = (l.take most).length := by
      have : ¬ k < (l.take most).length := by simpa using hc18
      omega
    rw [List.take_length, List.drop_length, List.map_nil, List.append_nil]
    refine rn ?_
    exact retq (.cons _ _ _ _ (.tmp _ _ rfl) .nil) vent_freeze ⟨rfl, rfl⟩
set_option maxHeartbeats 4000000 in
theorem few (h : Hist) (la : Lim 4611686018427387904 h) : ACall Tryz.prog 8 [.agg (histC h)] [] (fun r h' => h' = [] ∧ r = .agg (histC (fewH h))) := by
  refine acall_of_aw Tryz.func8 rfl rfl rfl ?_
  refine rn ?_
  refine aops_e rfl (oe_box rfl rfl rfl fun b1 => ?_)
  refine aops_e rfl (oe_alloc rfl fun b2 => ?_)
  refine rn0 ?_
  refine aw_cutE (fun _ : Nat => True) (fun b3 => ⟨[(1, .v (.pointer (some ⟨b1, 0, none⟩))), (2, .v (.pointer (some ⟨b2, 0, none⟩))), (3, .v (.pointer (some ⟨b3, 0, none⟩)))], [.box b3 28 [strsA (cutL 20 h.ts), strsA (cutL 10 h.ss), strsA (cutL 20 h.os), strsA (cutL 10 h.ps), nilA, nilA, nilA, nilA], .box b2 28 histZ, .box b1 28 (histC h)], []⟩) ?_ ?_
  · refine aw_draw 14 rfl ?_
    refine rn ?_
    refine dv rfl rfl (by exact qv_call rfl rfl (pcall (cut h.ts 20 (by decide)) (Sbs.refl _))) ?_
    refine rn ?_
    refine dv rfl rfl (by exact qv_call rfl rfl (pcall (cut h.ss 10 (by decide)) (Sbs.refl _))) ?_
    refine rn ?_
    refine dv rfl rfl (by exact qv_call rfl rfl (pcall (cut h.os 20 (by decide)) (Sbs.refl _))) ?_
    refine rn ?_
    refine dv rfl rfl (by exact qv_call rfl rfl (pcall (cut h.ps 10 (by decide)) (Sbs.refl _))) ?_
    refine rn ?_
    refine dalloc_a rfl fun b3 => ?_
    refine rn ?_
    exact ⟨b3, trivial, (ent_sub (.cons _ _ _ rfl (.cons _ _ _ rfl (.cons _ _ _ rfl (.nil)))))⟩
  · intro b3 _
    refine rn ?_
    refine aw_loop' (fun x : Nat × SV => x.1 ≤ h.evs.length) (fun x => ⟨[(26, iv x.1), (25, iv (h.evs.map evR).length), (24, evsA h.evs), (1, .v (.pointer (some ⟨b1, 0, none⟩))), (2, .v (.pointer (some ⟨b2, 0, none⟩))), (3, .v (.pointer (some ⟨b3, 0, none⟩)))], [.row x.2.v 9 39 (((h.evs.take (min x.1 80)).map cutE).map evR), .box b3 28 [strsA (cutL 20 h.ts), strsA (cutL 10 h.ss), strsA (cutL 20 h.os), strsA (cutL 10 h.ps), .v x.2.v, nilA, nilA, nilA], .box b2 28 histZ, .box b1 28 (histC h)], []⟩) (fun x => h.evs.length - x.1) (0, nilS) (by simp)
      (ent_trans (ent_nilrow 9 39) (ent_sub (.cons _ _ _ rfl (.cons _ _ _ rfl (.cons _ _ _ rfl (.cons _ _ _ rfl (.cons _ _ _ rfl (.cons _ _ _ rfl (.nil))))))))) ?_
    rintro ⟨k, s⟩ hk
    simp only at hk
    refine rn ?_
    refine aw_cond rfl (fun hc27 => ?_) (fun hc27 => ?_)
    · have hk2 : k < h.evs.length := by simpa using hc27
      obtain ⟨e, he⟩ : ∃ e, e = h.evs[k] := ⟨_, rfl⟩
      have hrow : (h.evs.map evR)[k]? = some (evR e) := by rw [he]; simp [hk2]
      have hle := la.evs
      refine rn ?_
      refine aops_e rfl (oe_alloc rfl fun b5 => ?_)
      refine rn ?_
      refine aw_cond rfl (fun hc32 => ?_) (fun hc32 => ?_)
      · have hlt : k < 80 := by have := hc32; simp at this; omega
        refine aw_seq (aw_region ?_)
        refine q1 ?_
        refine q1 ?_
        refine q1 ?_
        refine q1 ?_
        refine q1 ?_
        refine qq rfl rfl (qr_minN (e.scan.map seenR).length 41 rfl rfl) ?_
        refine qq rfl rfl (qr_slice_hE (rows' := (e.scan.take 41).map seenR) rfl rfl (by omega) (by rw [List.length_map]; exact take_min seenR e.scan 41)) ?_
        refine qv rfl rfl (qv_call rfl rfl (pcall (cloneSeen ((e.scan.take 41).map seenR) (by simp; omega)) (Sbs.refl _))) ?_
        refine rn ?_
        refine qv rfl rfl (qv_buildSlice rfl rfl) ?_
        refine aops_e rfl (oe_append_row rfl rfl (by have := tk_len h.evs k 80; simp at this ⊢; omega) rfl (fun s46 => ?_) (fun r hr => by simp at hr; subst hr; rfl))
        refine aops_slice s46 fun sv hsv => ?_
        subst hsv
        refine rn ?_
        have hx : ((h.evs.take (min (k + 1) 80)).map cutE).map evR = ((h.evs.take (min k 80)).map cutE).map evR ++ [evR (cutE e)] := by rw [tk_go hk2 hlt he]; simp
        exact ⟨(k + 1, sv), by simp only; omega, (by rw [hx]; exact (ent_trans (ent_drop (h1 := [_])) (ent_sub (.cons _ _ _ rfl (.cons _ _ _ rfl (.cons _ _ _ rfl (.cons _ _ _ rfl (.cons _ _ _ rfl (.cons _ _ _ rfl (.nil)))))))))), by simp only; omega⟩
      · have hlt : ¬ k < 80 := by have := hc32; simp at this; omega
        refine rn ?_
        exact ⟨(k + 1, s), by simp only; omega, (by rw [tk_no hlt]; exact (ent_trans (ent_drop (h1 := [_])) (ent_sub (.cons _ _ _ rfl (.cons _ _ _ rfl (.cons _ _ _ rfl (.cons _ _ _ rfl (.cons _ _ _ rfl (.cons _ _ _ rfl (.nil)))))))))), by simp only; omega⟩
    · obtain rfl : k = h.evs.length := by
        have : ¬ k < h.evs.length := by simpa using hc27
        omega
      obtain ⟨sE, hsE⟩ : ∃ sE : SV, sE = s := ⟨_, rfl⟩
      simp only [tk_end, ← hsE]
      refine rn ?_
      refine aw_loop' (fun x : Nat × SV => x.1 ≤ h.ords.length) (fun x => ⟨[(52, iv x.1), (51, iv (h.ords.map ordR).length), (50, ordsA h.ords), (1, .v (.pointer (some ⟨b1, 0, none⟩))), (2, .v (.pointer (some ⟨b2, 0, none⟩))), (3, .v (.pointer (some ⟨b3, 0, none⟩)))], [.row x.2.v 2 61 (((h.ords.take (min x.1 20)).map cutO).map ordR), .row sE.v 9 39 (((h.evs.take 80).map cutE).map evR), .box b3 28 [strsA (cutL 20 h.ts), strsA (cutL 10 h.ss), strsA (cutL 20 h.os), strsA (cutL 10 h.ps), .v sE.v, .v x.2.v, nilA, nilA], .box b2 28 histZ, .box b1 28 (histC h)], []⟩) (fun x => h.ords.length - x.1) (0, nilS) (by simp)
        (ent_trans (ent_nilrow 2 61) (ent_sub (.cons _ _ _ rfl (.cons _ _ _ rfl (.cons _ _ _ rfl (.cons _ _ _ rfl (.cons _ _ _ rfl (.cons _ _ _ rfl (.nil))))))))) ?_
      rintro ⟨k, s⟩ hk
      simp only at hk
      refine rn ?_
      refine aw_cond rfl (fun hc53 => ?_) (fun hc53 => ?_)
      · have hk2 : k < h.ords.length := by simpa using hc53
        obtain ⟨e, he⟩ : ∃ e, e = h.ords[k] := ⟨_, rfl⟩
        have hrow : (h.ords.map ordR)[k]? = some (ordR e) := by rw [he]; simp [hk2]
        have hle := la.ords
        refine rn ?_
        refine aops_e rfl (oe_alloc rfl fun b7 => ?_)
        refine rn ?_
        refine aw_cond rfl (fun hc58 => ?_) (fun hc58 => ?_)
        · have hlt : k < 20 := by have := hc58; simp at this; omega
          refine aw_draw 14 rfl ?_
          refine dq rfl rfl qrA ?_
          refine dq rfl rfl qrA ?_
          refine dq rfl rfl qrA ?_
          refine dq rfl rfl qrA ?_
          refine dq rfl rfl qrA ?_
          refine dq rfl rfl qrA ?_
          refine dq rfl rfl qrA ?_
          refine dq rfl rfl qrA ?_
          refine dq rfl rfl qrA ?_
          refine dq rfl rfl (qr_minN (e.ts.map intR).length 20 rfl rfl) ?_
          refine dq rfl rfl (qr_slice_hE (rows' := (e.ts.take 20).map intR) rfl rfl (by omega) (by rw [List.length_map]; exact take_min intR e.ts 20)) ?_
          refine dv rfl rfl (by exact qv_call rfl rfl (pcall (cloneInt ((e.ts.take 20).map intR) (by simp; omega)) (Sbs.refl _))) ?_
          refine rn ?_
          refine dv rfl rfl (qv_buildSlice rfl rfl) ?_
          refine rn ?_
          refine aops_e rfl (oe_append_row rfl rfl (by have := tk_len h.ords k 20; simp at this ⊢; omega) rfl (fun s73 => ?_) (fun r hr => by simp at hr; subst hr; rfl))
          refine aops_slice s73 fun sv hsv => ?_
          subst hsv
          refine rn ?_
          have hx : ((h.ords.take (min (k + 1) 20)).map cutO).map ordR = ((h.ords.take (min k 20)).map cutO).map ordR ++ [ordR (cutO e)] := by rw [tk_go hk2 hlt he]; simp
          exact ⟨(k + 1, sv), by simp only; omega, (by rw [hx]; exact (ent_trans (ent_drop (h1 := [_])) (ent_sub (.cons _ _ _ rfl (.cons _ _ _ rfl (.cons _ _ _ rfl (.cons _ _ _ rfl (.cons _ _ _ rfl (.cons _ _ _ rfl (.nil)))))))))), by simp only; omega⟩
        · have hlt : ¬ k < 20 := by have := hc58; simp at this; omega
          refine rn ?_
          exact ⟨(k + 1, s), by simp only; omega, (by rw [tk_no hlt]; exact (ent_trans (ent_drop (h1 := [_])) (ent_sub (.cons _ _ _ rfl (.cons _ _ _ rfl (.cons _ _ _ rfl (.cons _ _ _ rfl (.cons _ _ _ rfl (.cons _ _ _ rfl (.nil)))))))))), by simp only; omega⟩
      · obtain rfl : k = h.ords.length := by
          have : ¬ k < h.ords.length := by simpa using hc53
          omega
        obtain ⟨sO, hsO⟩ : ∃ sO : SV, sO = s := ⟨_, rfl⟩
        simp only [tk_end, ← hsO]
        refine rn ?_
        refine aw_loop' (fun x : Nat × SV => x.1 ≤ h.mats.length) (fun x => ⟨[(79, iv x.1), (78, iv (h.mats.map matR).length), (77, matsA h.mats), (1, .v (.pointer (some ⟨b1, 0, none⟩))), (2, .v (.pointer (some ⟨b2, 0, none⟩))), (3, .v (.pointer (some ⟨b3, 0, none⟩)))], [.row x.2.v 4 64 (((h.mats.take (min x.1 20)).map cutM).map matR), .row sO.v 2 61 (((h.ords.take 20).map cutO).map ordR), .row sE.v 9 39 (((h.evs.take 80).map cutE).map evR), .box b3 28 [strsA (cutL 20 h.ts), strsA (cutL 10 h.ss), strsA (cutL 20 h.os), strsA (cutL 10 h.ps), .v sE.v, .v sO.v, .v x.2.v, nilA], .box b2 28 histZ, .box b1 28 (histC h)], []⟩) (fun x => h.mats.length - x.1) (0, nilS) (by simp)
          (ent_trans (ent_nilrow 4 64) (ent_sub (.cons _ _ _ rfl (.cons _ _ _ rfl (.cons _ _ _ rfl (.cons _ _ _ rfl (.cons _ _ _ rfl (.cons _ _ _ rfl (.nil))))))))) ?_
        rintro ⟨k, s⟩ hk
        simp only at hk
        refine rn ?_
        refine aw_cond rfl (fun hc80 => ?_) (fun hc80 => ?_)
        · have hk2 : k < h.mats.length := by simpa using hc80
          obtain ⟨e, he⟩ : ∃ e, e = h.mats[k] := ⟨_, rfl⟩
          have hrow : (h.mats.map matR)[k]? = some (matR e) := by rw [he]; simp [hk2]
          have hle := la.mats
          refine rn ?_
          refine aops_e rfl (oe_alloc rfl fun b9 => ?_)
          refine rn ?_
          refine aw_cond rfl (fun hc85 => ?_) (fun hc85 => ?_)
          · have hlt : k < 20 := by have := hc85; simp at this; omega
            refine aw_seq (aw_region ?_)
            refine q1 ?_
            refine q1 ?_
            refine q1 ?_
            refine q1 ?_
            refine q1 ?_
            refine qq rfl rfl (qr_minN (e.ts.map intR).length 20 rfl rfl) ?_
            refine qq rfl rfl (qr_slice_hE (rows' := (e.ts.take 20).map intR) rfl rfl (by omega) (by rw [List.length_map]; exact take_min intR e.ts 20)) ?_
            refine qv rfl rfl (qv_call rfl rfl (pcall (cloneInt ((e.ts.take 20).map intR) (by simp; omega)) (Sbs.refl _))) ?_
            refine rn ?_
            refine qv rfl rfl (qv_buildSlice rfl rfl) ?_
            refine aops_e rfl (oe_append_row rfl rfl (by have := tk_len h.mats k 20; simp at this ⊢; omega) rfl (fun s99 => ?_) (fun r hr => by simp at hr; subst hr; rfl))
            refine aops_slice s99 fun sv hsv => ?_
            subst hsv
            refine rn ?_
            have hx : ((h.mats.take (min (k + 1) 20)).map cutM).map matR = ((h.mats.take (min k 20)).map cutM).map matR ++ [matR (cutM e)] := by rw [tk_go hk2 hlt he]; simp
            exact ⟨(k + 1, sv), by simp only; omega, (by rw [hx]; exact (ent_trans (ent_drop (h1 := [_])) (ent_sub (.cons _ _ _ rfl (.cons _ _ _ rfl (.cons _ _ _ rfl (.cons _ _ _ rfl (.cons _ _ _ rfl (.cons _ _ _ rfl (.nil)))))))))), by simp only; omega⟩
          · have hlt : ¬ k < 20 := by have := hc85; simp at this; omega
            refine rn ?_
            exact ⟨(k + 1, s), by simp only; omega, (by rw [tk_no hlt]; exact (ent_trans (ent_drop (h1 := [_])) (ent_sub (.cons _ _ _ rfl (.cons _ _ _ rfl (.cons _ _ _ rfl (.cons _ _ _ rfl (.cons _ _ _ rfl (.cons _ _ _ rfl (.nil)))))))))), by simp only; omega⟩
        · obtain rfl : k = h.mats.length := by
            have : ¬ k < h.mats.length := by simpa using hc80
            omega
          obtain ⟨sM, hsM⟩ : ∃ sM : SV, sM = s := ⟨_, rfl⟩
          simp only [tk_end, ← hsM]
          refine aw_exit ?_
          refine thn_e ?_
          refine thn_e ?_
          refine inBlk_hit ?_
          refine thn_n ?_
          refine aw_seq (aw_region ?_)
          refine q1 ?_
          refine q1 ?_
          refine q1 ?_
          refine q1 ?_
          refine q1 ?_
          refine qq rfl rfl (qr_minN (h.wants.map wanR).length 20 rfl rfl) ?_
          refine qq rfl rfl (qr_slice_hE (rows' := (h.wants.take 20).map wanR) rfl rfl (by omega) (by rw [List.length_map]; exact take_min wanR h.wants 20)) ?_
          refine qv rfl rfl (qv_call rfl rfl (pcall (cloneWan ((h.wants.take 20).map wanR) (by simp; omega)) (Sbs.refl _))) ?_
          refine rn ?_
          exact retq (.cons _ _ _ _ (.agg _ _ _ _ _ _ _ rfl inferInstance inferInstance inferInstance rfl) .nil) (.trans (vent_freeze_cell [_, _, _, _, _, _] _) (.trans (vent_freeze_cell [_, _, _, _, _] _) (.trans (vent_freeze_cell [_, _, _, _] _) (.drop [_, _, _] _ _)))) ⟨rfl, rfl⟩
end Go.Proofs
/- The walk of history.Same. Conditions: none. -/
set_option linter.unusedVariables false
set_option linter.unusedSimpArgs false
set_option maxRecDepth 10000
namespace Go.Proofs
open Go Go.Ab
attribute [local irreducible] QR QV OE aops aw dsoup dsoupM dalloc dallocM thn inBlk
open Go.H
theorem same (a b : Hist) (la : Lim 4611686018427387904 a) (lb : Lim 4611686018427387904 b) : ACall Tryz.prog 13 [.agg (histC a), .agg (histC b)] [] (fun r h' => h' = [] ∧ r = bv (sameB a b)) := by
  refine acall_of_aw Tryz.func13 rfl rfl rfl ?_
  refine rn ?_
  refine aops_e rfl (oe_box rfl rfl rfl fun b2 => ?_)
  refine aops_e rfl (oe_box rfl rfl rfl fun b3 => ?_)
  refine rn ?_
  refine aw_draw 6 rfl ?_
  refine rn ?_
  refine dv rfl rfl (by exact qv_call rfl rfl (pcall (names _) (Sbs.refl _))) ?_
  refine rn ?_
  refine dv rfl rfl (by exact qv_call rfl rfl (pcall (names _) (Sbs.refl _))) ?_
  refine rn ?_
  refine dalloc_a rfl fun b5 => ?_
  refine dalloc_a rfl fun b6 => ?_
  refine rn ?_
  refine aw_loop' (fun k : Nat => k ≤ 4 ∧ ∀ j, j < k → namesEq a b j = true) (fun k => ⟨[(14, iv k), (2, .v (.pointer (some ⟨b2, 0, none⟩))), (3, .v (.pointer (some ⟨b3, 0, none⟩))), (5, .v (.pointer (some ⟨b5, 0, none⟩))), (6, .v (.pointer (some ⟨b6, 0, none⟩)))], [.box b6 _ (namesC b), .box b5 _ (namesC a), .box b3 _ (histC b), .box b2 _ (histC a)], []⟩) (fun k => 4 - k) 0 ⟨by omega, fun j hj => by omega⟩
    (ent_sub (.cons _ _ _ rfl (.cons _ _ _ rfl (.cons _ _ _ rfl (.cons _ _ _ rfl (.cons _ _ _ rfl (.nil))))))) ?_
  rintro k ⟨hk, hz⟩
  refine rn ?_
  refine aw_cond rfl (fun hc15 => ?_) (fun hc15 => ?_)
  · have hk4 : k < 4 := by simp at hc15; omega
    refine rn ?_
    refine aw_draw 6 rfl ?_
    refine dq rfl rfl qrA ?_
    refine dq rfl rfl qrA ?_
    refine dq rfl rfl (qr_load_one rfl (by have := nmK_get a hk4; simpa using this)) ?_
    refine dq rfl rfl qrA ?_
    refine dq rfl rfl qrA ?_
    refine dq rfl rfl (qr_load_one rfl (by have := nmK_get b hk4; simpa using this)) ?_
    refine rn ?_
    refine qv rfl rfl (qv_call rfl rfl (pcall (equalStr _ _ (la.nm k) (lb.nm k)) (Sbs.refl _))) ?_
    refine rn ?_
    refine aw_cond rfl (fun hc24 => ?_) (fun hc24 => ?_)
    · refine rn ?_
      exact retq (.cons _ _ _ _ (.tmp _ _ rfl) .nil) (.drop [_, _, _, _] _ _) ⟨rfl, congrArg bv (by rw [sameB, all_not hk4 (not_t hc24)]; rfl)⟩
    · refine rn ?_
      exact ⟨k + 1, ⟨by omega, fun j hj => by
        by_cases hjk : j = k
        · subst hjk; exact not_f hc24
        · exact hz j (by omega)⟩, (ent_sub (.cons _ _ _ rfl (.cons _ _ _ rfl (.cons _ _ _ rfl (.cons _ _ _ rfl (.cons _ _ _ rfl (.nil))))))), by omega⟩
  · have hk3 : k = 4 := by simp at hc15; omega
    subst hk3
    refine rn ?_
    refine qv rfl rfl (qv_call rfl rfl (pcall (equalFuncOrd _ _ _ ordEq (fun x hx y hy => FCall.of_fun (sameOrd x y (la.ordts x hx) (lb.ordts y hy))) la.ords lb.ords) (Sbs.refl _))) ?_
    refine rn ?_
    refine qv rfl rfl (qv_call rfl rfl (pcall (equalFuncMat _ _ _ matEq (fun x hx y hy => FCall.of_fun (sameMat x y (la.matts x hx) (lb.matts y hy))) la.mats lb.mats) (Sbs.refl _))) ?_
    refine rn ?_
    refine asplit (fun hg10_1 => ?_) (fun hg10_1 => ?_)
    · refine rn ?_
      refine asplit (fun hg10_4 => ?_) (fun hg10_4 => ?_)
      · refine rn ?_
        refine qv rfl rfl (qv_call rfl rfl (pcall (equalWan _ _ la.wants lb.wants) (Sbs.refl _))) ?_
        refine rn ?_
        refine asplit (fun hg10_11 => ?_) (fun hg10_11 => ?_)
        · refine rn ?_
          refine qv rfl rfl (qv_call rfl rfl (pcall (equalFuncEv _ _ _ evEq (fun x hx y hy => FCall.of_fun (sameEvent x y (la.scans x hx) (lb.scans y hy))) la.evs lb.evs) (Sbs.refl _))) ?_
          refine rn ?_
          exact retq (.cons _ _ _ _ (.tmp _ _ rfl) .nil) (.drop [_, _, _, _] _ _) ⟨rfl, congrArg bv (by rw [sameB, all_lt hz]; simp only [*, Bool.true_and, Bool.false_and, Bool.and_false, Bool.and_true, Bool.true_or, Bool.or_false, Bool.false_or, Bool.or_true, if_true, if_false, Bool.false_eq_true, Bool.not_true, Bool.not_false])⟩
        · refine rn ?_
          exact retq (.cons _ _ _ _ (.tmp _ _ rfl) .nil) (.drop [_, _, _, _] _ _) ⟨rfl, congrArg bv (by rw [sameB, all_lt hz]; simp only [*, Bool.true_and, Bool.false_and, Bool.and_false, Bool.and_true, Bool.true_or, Bool.or_false, Bool.false_or, Bool.or_true, if_true, if_false, Bool.false_eq_true, Bool.not_true, Bool.not_false])⟩
      · refine rn ?_
        exact retq (.cons _ _ _ _ (.tmp _ _ rfl) .nil) (.drop [_, _, _, _] _ _) ⟨rfl, congrArg bv (by rw [sameB, all_lt hz]; simp only [*, Bool.true_and, Bool.false_and, Bool.and_false, Bool.and_true, Bool.true_or, Bool.or_false, Bool.false_or, Bool.or_true, if_true, if_false, Bool.false_eq_true, Bool.not_true, Bool.not_false])⟩
    · refine rn ?_
      exact retq (.cons _ _ _ _ (.tmp _ _ rfl) .nil) (.drop [_, _, _, _] _ _) ⟨rfl, congrArg bv (by rw [sameB, all_lt hz]; simp only [*, Bool.true_and, Bool.false_and, Bool.and_false, Bool.and_true, Bool.true_or, Bool.or_false, Bool.false_or, Bool.or_true, if_true, if_false, Bool.false_eq_true, Bool.not_true, Bool.not_false])⟩
end Go.Proofs
/- The walk of the law's wakes. Conditions: none. -/
set_option linter.unusedVariables false
set_option linter.unusedSimpArgs false
set_option maxRecDepth 10000
namespace Go.Proofs
open Go Go.Ab
attribute [local irreducible] QR QV OE aops aw dsoup dsoupM dalloc dallocM thn inBlk
open Go.H
theorem limOpen : Lim 4611686018427387904 openH := ⟨by decide, by decide, by decide, by decide, by decide, by decide, by decide, by decide, by decide, by decide, by decide⟩
theorem limSmall : Lim 4611686018427387904 smallH := ⟨by decide, by decide, by decide, by decide, by decide, by decide, by decide, by decide, by decide, by decide, by decide⟩
theorem limOther : Lim 4611686018427387904 otherH := ⟨by decide, by decide, by decide, by decide, by decide, by decide, by decide, by decide, by decide, by decide, by decide⟩
theorem equalW : ACall Tryz.prog 22 [.list false 1 ((ofR smallH 0).map intR), .list true 1 ([0, 1, 2].map intR)] [] (fun r h' => h' = [] ∧ r = bv true) :=
  (equalInt (ofR smallH 0) [0, 1, 2] (by rw [w2]; decide) (by decide)).mono (fun r h' q => ⟨q.1, by rw [q.2, w2]; rfl⟩)
theorem sameW : ACall Tryz.prog 13 [.agg (histC (numR otherH)), .agg (histC smallH)] [] (fun r h' => h' = [] ∧ r = bv true) := by
  rw [w7]
  exact (same smallH smallH limSmall limSmall).mono (fun r h' q => ⟨q.1, by rw [q.2, sameB_self]⟩)
theorem ofLent (s : SV) : FCall Tryz.prog (.fn (.func 21) [] []) [.agg ([strsA smallH.ts, strsA smallH.ss, strsA smallH.os, strsA []] ++ .v s.v :: [ordsA [], matsA [], wansA []]), iv 0] (.row s.v 9 39 (smallH.evs.map evR) :: [.glob 0 68 limitsC, .glob 1 168 firstC, .glob 2 171 acceptC])
    (fun r h' => ∃ h'', h' = .row s.v 9 39 (smallH.evs.map evR) :: h'' ∧ ∃ s5, h'' = .row s5 1 3 ((ofR smallH 0).map intR) :: [.glob 0 68 limitsC, .glob 1 168 firstC, .glob 2 171 acceptC] ∧ r = .tup [.v s5, iv (checkE smallH)]) := by
  refine FCall.lendRow (args' := [.agg (histC smallH), iv 0]) (fun X w vs hh hr => ?_) ?_ (FCall.of_fun (ofO smallH 0 limSmall))
  · match vs, hr with
    | [v1, v2], ⟨r1, r2, _⟩ => exact ⟨lend_cell hh r1, (Scal.v _).rel r2, trivial⟩
  · rintro _ _ ⟨s5, rfl, rfl⟩
    refine ⟨.tup _ (fun j hj => ?_), fun x hx => ?_⟩
    · match j, hj with
      | 0, _ => exact .v _
      | 1, _ => exact .v _
    · simp only [List.mem_cons, List.not_mem_nil, or_false] at hx
      rcases hx with rfl | rfl | rfl | rfl
      · refine .inl (scal_row fun r hr a ha => ?_)
        obtain ⟨n, _, rfl⟩ := List.mem_map.1 hr
        simp only [intR, List.mem_singleton] at ha; subst ha; exact .v _
      · exact .inr ⟨by simp, _, _, _, rfl⟩
      · exact .inr ⟨by simp, _, _, _, rfl⟩
      · exact .inr ⟨by simp, _, _, _, rfl⟩
theorem wakes  : ACall Tryz.prog 7 [] [.glob 0 68 limitsC, .glob 1 168 firstC, .glob 2 171 acceptC] (fun r h' => h' = [.glob 0 68 limitsC, .glob 1 168 firstC, .glob 2 171 acceptC] ∧ r = bv true) := by
  refine acall_of_aw Tryz.func7 rfl rfl rfl ?_
  refine rn ?_
  refine aops_e rfl (oe_call rfl rfl (FCall.fr (FCall.of_fun smallO) (.refl _)) rfl ?_)
  rintro _ _ ⟨_, rfl, s1, rfl, rfl⟩
  show aops _ _ _ _ _ _ ⟨_, .row s1.v 9 39 (smallH.evs.map evR) :: .glob 0 68 limitsC :: .glob 1 168 firstC :: .glob 2 171 acceptC :: [], _⟩
  refine aops_e rfl (oe_alloc rfl fun b1 => ?_)
  refine rn ?_
  refine qv rfl rfl (qv_call rfl rfl (pcall smallP (Sbs.refl _))) ?_
  refine aops_e rfl (oe_alloc rfl fun b2 => ?_)
  first | refine aops_e rfl (oe_store_all rfl rfl rfl ?_) | refine aops_e rfl (oe_store rfl rfl rfl rfl (Nat.le_of_ble_eq_true rfl) ?_)
  refine aops_nil (thn_n ?_)
  refine aw_seq (aw_region ?_)
  refine q1 ?_
  refine q1 ?_
  refine qq rfl rfl (qr_slice_hE (k := 2) (rows' := openH.evs.map evR) rfl rfl (by decide) rfl) ?_
  refine rn ?_
  refine qv rfl rfl (qv_call rfl rfl (FCall.qt (FCall.of_fun (completeP openH limOpen)) ((pt3 _ _ _ _ _).trans (.cons _ ((pt3 _ _ _ _ _).trans (.cons _ (pt3 _ _ _ _ _))))))) ?_
  refine rn ?_
  refine aops_e rfl (oe_alloc rfl fun b3 => ?_)
  refine rn ?_
  refine aops_e rfl (oe_call rfl rfl (FCall.fr (ofLent s1) ((pt3 _ _ _ _ _).trans (.cons _ ((pt3 _ _ _ _ _).trans (.cons _ ((pt3 _ _ _ _ _).trans (.cons _ (pt3 _ _ _ _ _)))))))) rfl ?_)
  rintro _ _ ⟨_, rfl, _, rfl, s5, rfl, rfl⟩
  show aops _ _ _ _ _ _ ⟨_, .row s1.v 9 39 (smallH.evs.map evR) :: .row s5 1 3 ((ofR smallH 0).map intR) :: .glob 0 68 limitsC :: .glob 1 168 firstC :: .glob 2 171 acceptC :: .box b3 28 (histC (complR openH)) :: .box b2 28 (histC openH) :: .box b1 28 ([strsA smallH.ts, strsA smallH.ss, strsA smallH.os, strsA []] ++ .v s1.v :: [ordsA [], matsA [], wansA []]) :: [], _⟩
  refine rn ?_
  refine qv rfl rfl (qv_buildSlice rfl rfl) ?_
  refine q1 ?_
  first | refine aops_e rfl (oe_store_all rfl rfl rfl ?_) | refine aops_e rfl (oe_store rfl rfl rfl rfl (Nat.le_of_ble_eq_true rfl) ?_)
  refine aops_nil (thn_n ?_)
  refine aw_seq (aw_region ?_)
  refine q1 ?_
  refine q1 ?_
  refine qq rfl rfl (qr_index_row (k := 1) rfl rfl (by decide)) ?_
  refine rn ?_
  refine aops_e rfl (oe_store_rp (row := evR ⟨2, 0, 0, 0, 0, ⟨0, 1⟩, 0, []⟩) rfl rfl rfl rfl rfl (Nat.le_of_ble_eq_true rfl) ?_)
  refine rn0 ?_
  refine aw_seq ?_
  refine aw_ent (s' := ⟨[(1, .v (.pointer (some ⟨b1, 0, none⟩))), (3, .v (.pointer (some ⟨b3, 0, none⟩))), (4, iv (complE openH)), (6, iv (checkE smallH)), (5, .list false 1 ((ofR smallH 0).map intR))], .box b1 28 ([strsA smallH.ts, strsA smallH.ss, .list true 1 [[sv bY], [sv bX]], strsA []] ++ .list false 9 (otherH.evs.map evR) :: [ordsA [], matsA [], wansA []]) :: .box b3 28 (histC (complR openH)) :: .box b2 28 (histC openH) :: .glob 0 68 limitsC :: .glob 1 168 firstC :: .glob 2 171 acceptC :: [], []⟩) (ent_trans (ent_perm (h' := .row s1.v 9 39 (otherH.evs.map evR) :: .box b1 28 ([strsA smallH.ts, strsA smallH.ss, .list true 1 [[sv bY], [sv bX]], strsA []] ++ .v s1.v :: [ordsA [], matsA [], wansA []]) :: .row s5 1 3 ((ofR smallH 0).map intR) :: .box b3 28 (histC (complR openH)) :: .box b2 28 (histC openH) :: .glob 0 68 limitsC :: .glob 1 168 firstC :: .glob 2 171 acceptC :: []) (.cons _ ((pt6 _ _ _ _ _ _ _ _).trans (.cons _ (.cons _ ((pt3 _ _ _ _ _).trans (.cons _ (pt3 _ _ _ _ _)))))))) (ent_trans (ent_freeze_box [strsA smallH.ts, strsA smallH.ss, .list true 1 [[sv bY], [sv bX]], strsA []] [ordsA [], matsA [], wansA []]) (ent_trans (ent_perm (h' := .row s5 1 3 ((ofR smallH 0).map intR) :: .box b1 28 ([strsA smallH.ts, strsA smallH.ss, .list true 1 [[sv bY], [sv bX]], strsA []] ++ .list false 9 (otherH.evs.map evR) :: [ordsA [], matsA [], wansA []]) :: .box b3 28 (histC (complR openH)) :: .box b2 28 (histC openH) :: .glob 0 68 limitsC :: .glob 1 168 firstC :: .glob 2 171 acceptC :: []) (pt1 _ _ _)) (ent_freeze (.cons _ _ _ rfl (.cons _ _ _ rfl (.cons _ _ _ rfl (.cons _ _ _ rfl (.row _ _ rfl .nil))))))))) ?_
  refine rn ?_
  refine qv rfl rfl (qv_call rfl rfl (gcall (h := [_, _, _]) (numberP otherH limOther) (by exact ⟨Sb.aggs (bs := histC otherH) ⟨.refl _, .refl _, .unfull, .refl _, .refl _, .refl _, .refl _, .refl _, trivial⟩, trivial⟩))) ?_
  refine rn ?_
  refine aops_e rfl (oe_alloc rfl fun b7 => ?_)
  refine rn ?_
  refine aw_draw 37 rfl ?_
  refine dq rfl rfl qrA ?_
  refine dq rfl rfl (qr_cmp (c := true) rfl rfl (by rw [w1]; rfl)) ?_
  refine dq rfl rfl qrA ?_
  refine dq rfl rfl qrA ?_
  refine dq rfl rfl (qr_cmp (c := true) rfl rfl (by rw [w2']; rfl)) ?_
  refine dq rfl rfl qrA ?_
  refine dq rfl rfl qrA ?_
  refine dq rfl rfl qrA ?_
  refine dq rfl rfl (qr_cmp (c := true) rfl rfl (by rw [w3]; rfl)) ?_
  refine rn ?_
  refine dv rfl rfl (by exact qv_call rfl rfl (gcall (h := [_, _, _, _]) (check otherH limOther) (by exact ⟨Sb.aggs (bs := histC otherH) ⟨.refl _, .refl _, .unfull, .refl _, .refl _, .refl _, .refl _, .refl _, trivial⟩, trivial⟩))) ?_
  refine dq rfl rfl (qr_cmp (c := true) rfl rfl (by rw [w4]; rfl)) ?_
  refine dq rfl rfl qrA ?_
  refine dq rfl rfl qrA ?_
  refine dq rfl rfl qrA ?_
  refine dq rfl rfl qrA ?_
  refine dq rfl rfl qrA ?_
  refine dq rfl rfl (qr_cmp (c := true) rfl rfl (by rw [w5]; rfl)) ?_
  refine dq rfl rfl qrA ?_
  refine dq rfl rfl qrA ?_
  refine dq rfl rfl qrA ?_
  refine dq rfl rfl qrA ?_
  refine dq rfl rfl (qr_index_list (i := 2) (row := evR (abortE 0)) rfl rfl (by rw [w5]; rfl)) ?_
  refine dq rfl rfl qrA ?_
  refine dq rfl rfl qrA ?_
  refine dq rfl rfl (qr_cmp (c := true) rfl rfl (by decide)) ?_
  refine rn ?_
  refine dv rfl rfl (qv_buildSlice rfl rfl) ?_
  refine dv rfl rfl (by exact qv_call rfl rfl (pcall equalW (Sbs.refl _))) ?_
  refine rn ?_
  refine dv rfl rfl (by exact qv_call rfl rfl (pcall smallP (Sbs.refl _))) ?_
  refine rn ?_
  refine qv rfl rfl (qv_call rfl rfl (pcall sameW (Sbs.refl _))) ?_
  refine rn ?_
  exact retq (.cons _ _ _ _ (.tmp _ _ rfl) .nil) (.drop [_, _, _, _] _ _) ⟨rfl, rfl⟩
end Go.Proofs
/- The walk of slices.IsSorted. Conditions: none. -/
set_option linter.unusedVariables false
set_option linter.unusedSimpArgs false
set_option maxRecDepth 10000
namespace Go.Proofs
open Go Go.Ab
attribute [local irreducible] QR QV OE aops aw dsoup dsoupM dalloc dallocM thn inBlk
open Go.H
theorem cmpNaN (a : Int) : ACall Tryz.prog 85 [iv a] [] (fun r h' => h' = [] ∧ r = bv false) := by
  refine acall_of_aw Tryz.func85 rfl rfl rfl ?_
  refine rn ?_
  refine rq 0 ?_
  exact ⟨rfl, congrArg bv (by simp)⟩
theorem cmpLess (a b : Int) : ACall Tryz.prog 56 [iv a, iv b] [] (fun r h' => h' = [] ∧ r = bv (decide (a < b))) := by
  refine acall_of_aw Tryz.func56 rfl rfl rfl ?_
  refine rn ?_
  refine qv rfl rfl (qv_call rfl rfl (pcall (cmpNaN _) (Sbs.refl _))) ?_
  refine rn ?_
  refine rq 0 ?_
  exact ⟨rfl, rfl⟩
theorem isSorted {f : Bool} (l : List Int) (hp : l.Pairwise (· ≤ ·)) (hl : l.length ≤ 4611686018427387904) : ACall Tryz.prog 24 [.list f 1 (l.map intR)] [] (fun r h' => h' = [] ∧ r = bv true) := by
  refine acall_of_aw Tryz.func24 rfl rfl rfl ?_
  have hl2 : (l.map intR).length ≤ 4611686018427387904 := by simpa using hl
  refine rn ?_
  refine aw_while (fun i : Int => i < l.length) (fun i => ⟨[(3, iv i), (0, .list f 1 (l.map intR))], [], []⟩) (fun i => i.toNat) (((l.map intR).length : Int) - 1) (by simp; omega) es ?_
  intro i hi
  refine rn ?_
  refine aw_cond rfl (fun hc8 => ?_) (fun hc8 => ?_)
  · have h0 : 0 < i := by simpa using hc8
    have h1 : i.toNat < l.length := by omega
    have h2 : (i - 1).toNat < l.length := by omega
    have r1 := atRow (f := intR) h1
    have r2 := atRow (f := intR) h2
    refine rn ?_
    refine aw_draw 9 rfl ?_
    refine dq rfl rfl qrA ?_
    refine dq rfl rfl qrA ?_
    refine dq rfl rfl (qr_index_int rfl rfl (by omega) r1) ?_
    refine dq rfl rfl qrA ?_
    refine dq rfl rfl qrA ?_
    refine dq rfl rfl qrA ?_
    refine dq rfl rfl qrA ?_
    refine dq rfl rfl (qr_index_int rfl rfl (by omega) r2) ?_
    refine rn ?_
    refine qv rfl rfl (qv_call rfl rfl (pcall (cmpLess _ _) (Sbs.refl _))) ?_
    refine rn ?_
    refine aw_cond rfl (fun hc20 => ?_) (fun hc20 => ?_)
    · exact absurd (of_decide_eq_true hc20) (Int.not_lt.2 (List.pairwise_iff_getElem.1 hp _ _ h2 h1 (by omega)))
    · refine rn ?_
      exact ⟨i - 1, by omega, eA, by omega⟩
  · refine rn ?_
    refine rq 0 ?_
    exact ⟨rfl, rfl⟩
end Go.Proofs
