/- The walk of history.Number. Conditions: none. -/
import Derived.Test.YtmbbjpoljcmhlaaGreatDoorBeginsI
import Derived.Test.YtmbbjpoljcmhlaaGreatDoorCards
set_option linter.unusedSimpArgs false
set_option linter.unusedVariables false
set_option linter.unusedVariables false
set_option linter.unusedSimpArgs false
set_option maxRecDepth 10000
namespace Go.Proofs
open Go Go.Ab
attribute [local irreducible] QR QV OE aops aw dsoup dsoupM dalloc dallocM thn inBlk
open Go.H
theorem ownN (h : Hist) (la : Lim 1099511627776 h) (L : List Res) : FCall Tryz.prog (.fn (.func 77) [] []) [.agg (histC h)] L (fun r h' => ∃ o : OH, o.hist = h ∧ h' = L ++ ohF o [] ∧ r = .agg (namesC h ++ o.cells)) := by
  have h0 : ACall Tryz.prog 77 [.agg (histC h)] [] (fun r h' => ∃ o : OH, o.hist = h ∧ h' = ohF o [] ∧ r = .agg (namesC h ++ o.cells)) := by
    refine (own h la).ventR ?_
    rintro _ _ ⟨n, o, ho, rfl, rfl⟩
    exact ⟨_, _, (vent_freeze_cell [] _).trans ((vent_freeze_cell [_] _).trans ((vent_freeze_cell [_, _] _).trans (vent_freeze_cell [_, _, _] _))), o, ho, by rw [← ohF_eq, List.append_nil], rfl⟩
  refine FCall.permR (((FCall.of_fun h0).frame L).mono ?_)
  rintro _ _ ⟨h1, rfl, o, ho, rfl, rfl⟩
  exact ⟨_, List.perm_append_comm, o, ho, rfl, rfl⟩
theorem shapedN (h : Hist) (la : Lim 4611686018427387904 h) : FCall Tryz.prog (.fn (.func 76) [] []) [.agg (histC h)] [.glob 1 114 limitsC, .glob 2 235 firstC, .glob 3 238 acceptC] (fun r h' => h' = [.glob 1 114 limitsC, .glob 2 235 firstC, .glob 3 238 acceptC] ∧ r = bv (shapedB h)) := FCall.of_fun (shaped h la)
theorem namesO (h : Hist) (o : OH) : ACall Tryz.prog 78 [.agg (namesC h ++ o.cells)] [] (fun r h' => h' = [] ∧ r = .agg (namesC h)) := by
  refine acall_of_aw Tryz.func78 rfl rfl rfl ?_
  refine rn ?_
  refine aops_e rfl (oe_box rfl rfl rfl fun b1 => ?_)
  refine aops_e rfl (oe_alloc rfl fun b2 => ?_)
  refine rn ?_
  exact retq (.cons _ _ _ _ (.agg _ _ _ _ _ _ _ rfl inferInstance inferInstance inferInstance rfl) .nil) (.drop [_, _] _ _) ⟨rfl, rfl⟩
def INum (lp : LP) (q r20 b2 b4 b5 b6 : Nat) (h : Hist) : Olds → List Res → Prop := fun k L => KOk h k ∧ ∃ (A : AN) (es : List ((Int × Int) × AV)), MapK es k ∧ A.map (·.2) = k.mapIdx (fun s l => l.map (nameAt (nmK h s))) ∧ L = lp .ready none :: .defs q :: .box b5 118 (A.map cellA) :: .box b6 120 [.v (.map (some r20))] :: .map r20 (encM int2K es) :: .box b4 118 (namesC h) :: .box b2 28 histZ :: (A.map rowA ++ [.glob 1 114 limitsC, .glob 2 235 firstC, .glob 3 238 acceptC])
set_option maxHeartbeats 4000000 in
theorem number (h : Hist) (la : Lim 4611686018427387904 h) : ACall Tryz.prog 26 [.agg (histC h)] [.glob 1 114 limitsC, .glob 2 235 firstC, .glob 3 238 acceptC] (fun r h' => (shapedB h = true → ∃ (n : NV) (o : OH), o.hist = numberH h ∧ h' = [.glob 1 114 limitsC, .glob 2 235 firstC, .glob 3 238 acceptC] ++ nmR n (numberH h) (ohF o []) ∧ r = .tup [.agg (n.cells ++ o.cells), iv 0]) ∧ (shapedB h = false → h' = [.glob 1 114 limitsC, .glob 2 235 firstC, .glob 3 238 acceptC] ∧ r = .tup [.agg histZ, iv 210])) := by
  refine acall_of_aw Tryz.func26 rfl rfl rfl ?_
  refine rn ?_
  refine aops_e rfl (oe_box rfl rfl rfl fun b1 => ?_)
  refine aops_e rfl (oe_alloc rfl fun b2 => ?_)
  refine rn ?_
  refine qv rfl rfl (qv_call rfl rfl (FCall.qt (shapedN h la) ((pt2 _ _ _ _).trans (.cons _ ((pt2 _ _ _ _).trans (.cons _ (pt2 _ _ _ _))))))) ?_
  refine rn ?_
  refine aw_cond rfl (fun hc14 => ?_) (fun hc14 => ?_)
  · have hs : shapedB h = false := not_t hc14
    refine rn ?_
    exact retq (.cons _ _ _ _ (.agg _ _ _ _ _ _ _ rfl inferInstance inferInstance inferInstance rfl) (.cons _ _ _ _ (.tmp _ _ rfl) .nil)) (.drop [_, _] _ _) ⟨fun q => absurd (hs.symm.trans q) (by decide), fun _ => ⟨rfl, rfl⟩⟩
  · have hs : shapedB h = true := not_f hc14
    have la3 := shaped_lim hs
    refine rn ?_
    refine aops_e rfl (oe_call rfl rfl (ownN h (la3.mono (by decide)) _) rfl ?_)
    rintro _ _ ⟨o, ho, rfl, rfl⟩
    show aops _ _ _ _ _ _ ⟨_, .box b2 28 histZ :: .box b1 28 (histC h) :: .glob 1 114 limitsC :: .glob 2 235 firstC :: .glob 3 238 acceptC :: .row o.vE.v 9 77 (o.evs.map evRw) :: .row o.vR.v 2 98 (o.ords.map ordRw) :: .row o.vM.v 4 91 (o.mats.map matRw) :: .row o.vW.v 2 102 (o.wants.map wanR) :: (scR 81 o.evs ++ (otR 3 o.ords ++ (mtR 3 o.mats ++ []))), _⟩
    refine rn ?_
    refine qv rfl rfl (qv_call rfl rfl (pcall (namesO h o) (Sbs.refl _))) ?_
    refine aops_e rfl (oe_alloc rfl fun b4 => ?_)
    refine rn ?_
    refine aops_e rfl (oe_alloc rfl fun b5 => ?_)
    refine rn ?_
    refine aops_e rfl (oe_makeMap (enc := int2K) rfl fun r20 => ?_)
    refine aops_e rfl (oe_alloc rfl fun b6 => ?_)
    refine rn ?_
    refine aops_e rfl (oe_call rfl rfl (FCall.of_fun (spoken b1 _)) rfl ?_)
    rintro _ _ ⟨b1', rfl, rfl⟩
    refine rn ?_
    refine aw_ent (ent_trans (ent_nilrow 1 9) (ent_trans (ent_nilrow 1 9) (ent_trans (ent_nilrow 1 9) (ent_nilrow 1 9)))) ?_
    refine aw_rf (fun pend h'' => pend = none ∧ ∃ (o' : OH) (A : AN) (es : List ((Int × Int) × AV)), o'.hist = (travH numStep olds0 h).1 ∧ A.map (·.2) = (travH numStep olds0 h).2.mapIdx (fun s l => l.map (nameAt (nmK h s))) ∧ (travH numStep olds0 h).2.length = 4 ∧ h'' = .box b5 118 (A.map cellA) :: .box b1 28 (namesC h ++ o'.cells) :: .box b2 28 histZ :: .box b1' 124 [.v (.pointer (some ⟨b1, 0, none⟩))] :: .box b6 120 [.v (.map (some r20))] :: .map r20 (encM int2K es) :: .box b4 118 (namesC h) :: (A.map rowA ++ .glob 1 114 limitsC :: .glob 2 235 firstC :: .glob 3 238 acceptC :: .row o'.vE.v 9 77 (o'.evs.map evRw) :: .row o'.vR.v 2 98 (o'.ords.map ordRw) :: .row o'.vM.v 4 91 (o'.mats.map matRw) :: .row o'.vW.v 2 102 (o'.wants.map wanR) :: (scR 81 o'.evs ++ (otR 3 o'.ords ++ (mtR 3 o'.mats ++ []))))) rfl (fun fn l q lp hlp => ?_) (fun q h'' hK => ?_) (fun q h'' c hK => ?_)
    · suffices hy : ∀ (s : Olds) (L : List Res) (sort : Nat) (n : Int) (sl : Value) (sz k off : Nat) (T : TypeId) (rows rows' : List (List AV)) (row : List AV), OkN h (sort, n) → INum lp q r20 b2 b4 b5 b6 h s L → rows[k]? = some row → row[off]? = some (iv n) → rows.set k (row.take off ++ [iv (numStep s sort n).1] ++ row.drop (off + 1)) = rows' → FCall Tryz.prog (yv l) [iv sort, .rp sl sz k off] (.row sl sz T rows :: L) (fun r h' => ∃ L', r = bv true ∧ INum lp q r20 b2 b4 b5 b6 h (numStep s sort n).2 L' ∧ h' = .row sl sz T rows' :: L') by
        refine ACall.mono (ACall.perm (pcs_perm (l1 := [[lp .ready none], [.defs q], [.row (.slice none 0 0) 1 9 [], .row (.slice none 0 0) 1 9 [], .row (.slice none 0 0) 1 9 [], .row (.slice none 0 0) 1 9 []], [.box b1' 124 [.v (.pointer (some ⟨b1, 0, none⟩))]], [.box b6 120 [.v (.map (some r20))], .map r20 (encM int2K [])], [.box b5 118 (([(⟨none, 0, 0⟩, []), (⟨none, 0, 0⟩, []), (⟨none, 0, 0⟩, []), (⟨none, 0, 0⟩, [])] : AN).map cellA)], [.box b4 118 (namesC h)], [.box b2 28 histZ], [.box b1 28 (namesC h ++ o.cells)], [.glob 1 114 limitsC, .glob 2 235 firstC, .glob 3 238 acceptC], [.row o.vE.v 9 77 (o.evs.map evRw), .row o.vR.v 2 98 (o.ords.map ordRw), .row o.vM.v 4 91 (o.mats.map matRw), .row o.vW.v 2 102 (o.wants.map wanR)], scR 81 o.evs, otR 3 o.ords, mtR 3 o.mats]) (l2 := [[.box b1' 124 [.v (.pointer (some ⟨b1, 0, none⟩))]], [.box b1 28 (namesC h ++ o.cells)], [.row o.vE.v 9 77 (o.evs.map evRw), .row o.vR.v 2 98 (o.ords.map ordRw), .row o.vM.v 4 91 (o.mats.map matRw), .row o.vW.v 2 102 (o.wants.map wanR)], scR 81 o.evs, otR 3 o.ords, mtR 3 o.mats, [lp .ready none], [.defs q], [.box b5 118 (([(⟨none, 0, 0⟩, []), (⟨none, 0, 0⟩, []), (⟨none, 0, 0⟩, []), (⟨none, 0, 0⟩, [])] : AN).map cellA)], [.box b6 120 [.v (.map (some r20))], .map r20 (encM int2K [])], [.box b4 118 (namesC h)], [.box b2 28 histZ], [.row (.slice none 0 0) 1 9 [], .row (.slice none 0 0) 1 9 [], .row (.slice none 0 0) 1 9 [], .row (.slice none 0 0) 1 9 []], [.glob 1 114 limitsC, .glob 2 235 firstC, .glob 3 238 acceptC]]) ((pt3 _ _ _ _ _).trans (.cons _ ((pt7 _ _ _ _ _ _ _ _ _).trans (.cons _ ((pt8 _ _ _ _ _ _ _ _ _ _).trans (.cons _ ((pt8 _ _ _ _ _ _ _ _ _ _).trans (.cons _ ((pt8 _ _ _ _ _ _ _ _ _ _).trans (.cons _ ((pt8 _ _ _ _ _ _ _ _ _ _).trans (.cons _ (.cons _ (.cons _ ((pt2 _ _ _ _).trans (.cons _ ((pt1 _ _ _).trans (.cons _ ((pt1 _ _ _).trans (.cons _ (pt1 _ _ _))))))))))))))))))))) []) (spokenW numStep (OkN h) (INum lp q r20 b2 b4 b5 b6 h) (yv l) rfl hy o (by rw [ho]; exact la) (strsA h.ts) (strsA h.ss) (strsA h.os) (strsA h.ps) b1' b1 (by rw [ho]; exact shaped_ok hs) olds0 _ ⟨kok0 h, ([(⟨none, 0, 0⟩, []), (⟨none, 0, 0⟩, []), (⟨none, 0, 0⟩, []), (⟨none, 0, 0⟩, [])] : AN), [], mapK0, rfl, rfl⟩)) ?_
        rintro _ _ ⟨o', L', ho', hcs, ⟨hk, A, es, hes, hA, rfl⟩, rfl⟩
        rw [ho] at ho' hA hk
        refine ⟨none, .ready, _, ?_, by simp, rfl, o', A, es, ho', hA, hk.four, rfl⟩
        rw [← hcs]
        exact pcs_perm (l1 := [[.box b1' 124 [.v (.pointer (some ⟨b1, 0, none⟩))]], [.box b1 28 (namesC h ++ o'.cells)], [.row o'.vE.v 9 77 (o'.evs.map evRw), .row o'.vR.v 2 98 (o'.ords.map ordRw), .row o'.vM.v 4 91 (o'.mats.map matRw), .row o'.vW.v 2 102 (o'.wants.map wanR)], scR 81 o'.evs, otR 3 o'.ords, mtR 3 o'.mats, [lp .ready none], [.defs q], [.box b5 118 (A.map cellA)], [.box b6 120 [.v (.map (some r20))], .map r20 (encM int2K es)], [.box b4 118 (namesC h)], [.box b2 28 histZ], A.map rowA, [.glob 1 114 limitsC, .glob 2 235 firstC, .glob 3 238 acceptC]]) (l2 := [[lp .ready none], [.defs q], [.box b5 118 (A.map cellA)], [.box b1 28 (namesC h ++ o'.cells)], [.box b2 28 histZ], [.box b1' 124 [.v (.pointer (some ⟨b1, 0, none⟩))]], [.box b6 120 [.v (.map (some r20))], .map r20 (encM int2K es)], [.box b4 118 (namesC h)], A.map rowA, [.glob 1 114 limitsC, .glob 2 235 firstC, .glob 3 238 acceptC], [.row o'.vE.v 9 77 (o'.evs.map evRw), .row o'.vR.v 2 98 (o'.ords.map ordRw), .row o'.vM.v 4 91 (o'.mats.map matRw), .row o'.vW.v 2 102 (o'.wants.map wanR)], scR 81 o'.evs, otR 3 o'.ords, mtR 3 o'.mats]) ((pt6 _ _ _ _ _ _ _ _).trans (.cons _ ((pt6 _ _ _ _ _ _ _ _).trans (.cons _ ((pt6 _ _ _ _ _ _ _ _).trans (.cons _ ((pt1 _ _ _).trans (.cons _ ((pt7 _ _ _ _ _ _ _ _ _).trans (.cons _ (.cons _ ((pt4 _ _ _ _ _ _).trans (.cons _ ((pt4 _ _ _ _ _ _).trans (.cons _ ((pt4 _ _ _ _ _ _).trans (.cons _ (pt4 _ _ _ _ _ _)))))))))))))))))) []
      rintro s _ sort n sl sz k off T rows rows' row ⟨hs4, hn0, hn1⟩ ⟨hk, A, es, hes, hA, rfl⟩ h1 h2 hset
      simp only at hs4 hn0 hn1
      obtain ⟨m, rfl⟩ : ∃ m : Nat, n = m := ⟨n.toNat, by omega⟩
      have hm1 : m < (nmK h sort).length := by omega
      have hl3 := la3.nm sort
      have hoff : off + 1 ≤ row.length := (List.getElem?_eq_some_iff.1 h2).1
      refine FCall.perm (pt1 _ _ _) (FCall.ventE (fcall_yl hlp rfl rfl ?_))
      refine rn ?_
      refine ⟨[(7, iv (sort : Nat)), (8, .rp sl sz k off), (4, .v (.pointer (some ⟨b4, 0, none⟩))), (5, .v (.pointer (some ⟨b5, 0, none⟩))), (6, .v (.pointer (some ⟨b6, 0, none⟩)))], (ent_sub (.cons _ _ _ rfl (.cons _ _ _ rfl (.cons _ _ _ rfl (.cons _ _ _ rfl (.cons _ _ _ rfl (.nil))))))), ?_⟩
      refine aw_block ?_
      refine aw_seq (aw_region ?_)
      refine q1 ?_
      refine q1 ?_
      refine q1 ?_
      refine qq rfl rfl (qr_load_rp_one rfl h1 h2) ?_
      refine qq rfl rfl (qr_buildArr (out := [iv (sort : Nat), iv (m : Nat)]) rfl (by rfl)) ?_
      refine aops_e rfl (oe_alloc rfl fun b9 => ?_)
      refine rn ?_
      refine qq rfl rfl (qr_lookup2 (enc := int2K) (k := ((sort : Int), ((m : Nat) : Int))) rfl rfl (hes.look _ hs4) (hes.has _ hs4)) ?_
      refine rn ?_
      refine aw_cond rfl (fun hc36 => ?_) (fun hc36 => ?_)
      · have hg : posOf (m : Nat) 0 (s.getD sort []) = none := by
          have := not_t hc36
          cases hq : posOf (m : Nat) 0 (s.getD sort []) with
          | none => rfl
          | some j => rw [hq] at this; cases this
        have hAl : A.length = 4 := by have := congrArg List.length hA; simpa [hk.four] using this
        have hsA : sort < A.length := by omega
        obtain ⟨p, hp⟩ : ∃ p, A[sort]? = some p := ⟨A[sort], by simp [hsA]⟩
        obtain ⟨hp2, _⟩ := an_snd hA hp
        have hpl : p.2.length ≤ 3000 := by rw [hp2, List.length_map]; have := hk.len sort; omega
        refine aw_ent (s' := ⟨[(9, .v (.pointer (some ⟨b9, 0, none⟩))), (7, iv (sort : Nat)), (8, .rp sl sz k off), (4, .v (.pointer (some ⟨b4, 0, none⟩))), (5, .v (.pointer (some ⟨b5, 0, none⟩))), (6, .v (.pointer (some ⟨b6, 0, none⟩)))], .row p.1.v 1 9 (p.2.map strR) :: .box b9 126 [iv (sort : Nat), iv (m : Nat)] :: lp .busy none :: .row sl sz T rows :: .defs q :: .box b5 118 (A.map cellA) :: .box b6 120 [.v (.map (some r20))] :: .map r20 (encM int2K es) :: .box b4 118 (namesC h) :: .box b2 28 histZ :: ((A.eraseIdx sort).map rowA ++ [.glob 1 114 limitsC, .glob 2 235 firstC, .glob 3 238 acceptC]), []⟩) (ent_trans (ent_perm (an_outF [.box b9 126 [iv (sort : Nat), iv (m : Nat)], lp .busy none, .row sl sz T rows, .defs q, .box b5 118 (A.map cellA), .box b6 120 [.v (.map (some r20))], .map r20 (encM int2K es), .box b4 118 (namesC h), .box b2 28 histZ] [.glob 1 114 limitsC, .glob 2 235 firstC, .glob 3 238 acceptC] hp)) (ent_sub (.cons _ _ _ rfl (.cons _ _ _ rfl (.cons _ _ _ rfl (.cons _ _ _ rfl (.cons _ _ _ rfl (.cons _ _ _ rfl (.nil))))))))) ?_
        refine aw_seq (aw_region ?_)
        refine q1 ?_
        refine qq rfl rfl (qr_indexAddr_arr rfl rfl (by omega)) ?_
        refine qq rfl rfl (qr_load_one rfl (an_get hp)) ?_
        refine rn ?_
        refine aops_e rfl (oe_mapUpdate (enc := int2K) (k := ((sort : Int), ((m : Nat) : Int))) rfl rfl rfl ?_)
        refine rn ?_
        have hrowN : ((nmK h sort).map strR)[m]? = some (strR (nmK h sort)[m]) := by simp [hm1]
        refine aw_drawC 14 (.box b9 126 [iv (sort : Nat), iv (m : Nat)] :: lp .busy none :: .row sl sz T rows :: .defs q :: .box b5 118 (A.map cellA) :: .box b6 120 [.v (.map (some r20))] :: .map r20 (encM int2K (updM ((sort : Int), ((m : Nat) : Int)) (iv ((p.2.map strR).length : Nat)) es)) :: .box b4 118 (namesC h) :: .box b2 28 histZ :: ((A.eraseIdx sort).map rowA ++ [.glob 1 114 limitsC, .glob 2 235 firstC, .glob 3 238 acceptC])) rfl ?_
        refine mq rfl rfl qrA ?_
        refine mq rfl rfl qrA ?_
        refine mq rfl rfl (qr_indexAddr_arr rfl rfl (by omega)) ?_
        refine mq rfl rfl (qr_load_one rfl (an_get hp)) ?_
        refine mq rfl rfl qrA ?_
        refine mq rfl rfl (qr_indexAddr_arr rfl rfl (by omega)) ?_
        refine mq rfl rfl (qr_load_one rfl (by have := nmK_get h hs4; simpa using this)) ?_
        refine mq rfl rfl qrA ?_
        refine mq rfl rfl qrA ?_
        refine mq rfl rfl (qr_load_rp_one rfl h1 h2) ?_
        refine rn ?_
        refine mv rfl rfl (qv_buildSlice rfl rfl) ?_
        refine mapp (xs := p.2.map strR) rfl rfl rfl rfl rfl rfl (by simp; omega) (fun r hr => by simp at hr; subst hr; rfl) ?_
        refine mnil ⟨.refl _, ?_⟩
        refine rn ?_
        refine mal_row fun s57 => ?_
        refine rn2 ?_
        refine qq rfl rfl (qr_indexAddr_arr rfl rfl (by omega)) ?_
        refine aops_e rfl (oe_store rfl rfl rfl rfl (by simp [hAl]; omega) ?_)
        refine rn ?_
        refine aops_e rfl (oe_store_rp rfl rfl rfl h1 rfl hoff ?_)
        refine rn ?_
        have hlen : (p.2.map strR).length = (s.getD sort []).length := by rw [hp2]; simp
        have hst : numStep s sort (m : Nat) = ((((p.2.map strR).length : Nat) : Int), s.set sort ((s.getD sort []) ++ [((m : Nat) : Int)])) := by rw [numStep, hg, hlen]
        have hkn := hk.step hs4 hn0 hn1
        rw [hst] at hkn hset ⊢
        have h57 := row57 (s := s57) (l := p.2) (nameAt_get hm1)
        exact round_n (pt2 _ _ _ _) ⟨_, (.row sl sz T rows' :: (lp .ready none :: .defs q :: .box b5 118 ((A.set sort (s57, p.2 ++ [nameAt (nmK h sort) ((m : Nat) : Int)])).map cellA) :: .box b6 120 [.v (.map (some r20))] :: .map r20 (encM int2K (updM ((sort : Int), ((m : Nat) : Int)) (iv ((p.2.map strR).length : Nat)) es)) :: .box b4 118 (namesC h) :: .box b2 28 histZ :: ((A.set sort (s57, p.2 ++ [nameAt (nmK h sort) ((m : Nat) : Int)])).map rowA ++ [.glob 1 114 limitsC, .glob 2 235 firstC, .glob 3 238 acceptC]))), (by rw [← hset, ← an_set (p := (s57, p.2 ++ [nameAt (nmK h sort) ((m : Nat) : Int)])) hsA, h57]; exact VEnt.trans (.perm (pcs_perm (l1 := [[lp .ready none], [rowA (s57, p.2 ++ [nameAt (nmK h sort) ((m : Nat) : Int)])], [.box b9 126 [iv (sort : Nat), iv (m : Nat)]], [.row sl sz T (rows.set k (row.take off ++ [iv ((p.2.map strR).length : Nat)] ++ row.drop (off + 1)))], [.defs q, .box b5 118 ((A.map cellA).take (0 + sort * 1) ++ [AV.v s57.v] ++ (A.map cellA).drop (0 + sort * 1 + [AV.v s57.v].length)), .box b6 120 [.v (.map (some r20))], .map r20 (encM int2K (updM ((sort : Int), ((m : Nat) : Int)) (iv ((p.2.map strR).length : Nat)) es)), .box b4 118 (namesC h), .box b2 28 histZ], (A.eraseIdx sort).map rowA, [.glob 1 114 limitsC, .glob 2 235 firstC, .glob 3 238 acceptC]]) (l2 := [[.box b9 126 [iv (sort : Nat), iv (m : Nat)]], [rowA (s57, p.2 ++ [nameAt (nmK h sort) ((m : Nat) : Int)])], [.row sl sz T (rows.set k (row.take off ++ [iv ((p.2.map strR).length : Nat)] ++ row.drop (off + 1)))], [lp .ready none], [.defs q, .box b5 118 ((A.map cellA).take (0 + sort * 1) ++ [AV.v s57.v] ++ (A.map cellA).drop (0 + sort * 1 + [AV.v s57.v].length)), .box b6 120 [.v (.map (some r20))], .map r20 (encM int2K (updM ((sort : Int), ((m : Nat) : Int)) (iv ((p.2.map strR).length : Nat)) es)), .box b4 118 (namesC h), .box b2 28 histZ], (A.eraseIdx sort).map rowA, [.glob 1 114 limitsC, .glob 2 235 firstC, .glob 3 238 acceptC]]) ((pt2 _ _ _ _).trans (.cons _ ((pt1 _ _ _).trans (.cons _ (pt1 _ _ _))))) []) _) (VEnt.trans (.drop1 _ _ _) (.perm (an_inF [.row sl sz T (rows.set k (row.take off ++ [iv ((p.2.map strR).length : Nat)] ++ row.drop (off + 1))), lp .ready none, .defs q, .box b5 118 ((A.map cellA).take (0 + sort * 1) ++ [AV.v s57.v] ++ (A.map cellA).drop (0 + sort * 1 + [AV.v s57.v].length)), .box b6 120 [.v (.map (some r20))], .map r20 (encM int2K (updM ((sort : Int), ((m : Nat) : Int)) (iv ((p.2.map strR).length : Nat)) es)), .box b4 118 (namesC h), .box b2 28 histZ] [.glob 1 114 limitsC, .glob 2 235 firstC, .glob 3 238 acceptC] hsA) _))), (lp .ready none :: .defs q :: .box b5 118 ((A.set sort (s57, p.2 ++ [nameAt (nmK h sort) ((m : Nat) : Int)])).map cellA) :: .box b6 120 [.v (.map (some r20))] :: .map r20 (encM int2K (updM ((sort : Int), ((m : Nat) : Int)) (iv ((p.2.map strR).length : Nat)) es)) :: .box b4 118 (namesC h) :: .box b2 28 histZ :: ((A.set sort (s57, p.2 ++ [nameAt (nmK h sort) ((m : Nat) : Int)])).map rowA ++ [.glob 1 114 limitsC, .glob 2 235 firstC, .glob 3 238 acceptC])), rfl, ⟨hkn, (A.set sort (s57, p.2 ++ [nameAt (nmK h sort) ((m : Nat) : Int)])), (updM ((sort : Int), ((m : Nat) : Int)) (iv ((p.2.map strR).length : Nat)) es), (by rw [hlen]; exact hes.step hs4 hk.four hg), an_snd_set (f := fun s => nameAt (nmK h s)) hA hp2, rfl⟩, rfl⟩
      · refine rn ?_
        refine aops_e rfl (oe_store_rp rfl rfl rfl h1 rfl hoff ?_)
        refine rn ?_
        obtain ⟨x, hx⟩ := Option.isSome_iff_exists.1 (not_f hc36)
        have hst : numStep s sort (m : Nat) = (((x : Nat) : Int), s) := by rw [numStep, hx]
        rw [hst] at hset ⊢
        exact round_n (pt1 _ _ _) ⟨_, (.row sl sz T rows' :: (lp .ready none :: .defs q :: .box b5 118 (A.map cellA) :: .box b6 120 [.v (.map (some r20))] :: .map r20 (encM int2K es) :: .box b4 118 (namesC h) :: .box b2 28 histZ :: (A.map rowA ++ [.glob 1 114 limitsC, .glob 2 235 firstC, .glob 3 238 acceptC]))), (by rw [← hset, show ((x : Nat) : Int) = (((posOf ((m : Nat) : Int) 0 (s.getD sort [])).getD 0 : Nat) : Int) from by rw [hx]; rfl]; exact VEnt.trans (.perm (pcs_perm (l1 := [[lp .ready none], [.box b9 126 [iv (sort : Nat), iv (m : Nat)]], [.row sl sz T (rows.set k (row.take off ++ [iv (((posOf ((m : Nat) : Int) 0 (s.getD sort [])).getD 0 : Nat) : Int)] ++ row.drop (off + 1)))], [.defs q, .box b5 118 (A.map cellA), .box b6 120 [.v (.map (some r20))], .map r20 (encM int2K es), .box b4 118 (namesC h), .box b2 28 histZ], A.map rowA, [.glob 1 114 limitsC, .glob 2 235 firstC, .glob 3 238 acceptC]]) (l2 := [[.box b9 126 [iv (sort : Nat), iv (m : Nat)]], [.row sl sz T (rows.set k (row.take off ++ [iv (((posOf ((m : Nat) : Int) 0 (s.getD sort [])).getD 0 : Nat) : Int)] ++ row.drop (off + 1)))], [lp .ready none], [.defs q, .box b5 118 (A.map cellA), .box b6 120 [.v (.map (some r20))], .map r20 (encM int2K es), .box b4 118 (namesC h), .box b2 28 histZ], A.map rowA, [.glob 1 114 limitsC, .glob 2 235 firstC, .glob 3 238 acceptC]]) ((pt1 _ _ _).trans (.cons _ (pt1 _ _ _))) []) _) (.drop1 _ _ _)), (lp .ready none :: .defs q :: .box b5 118 (A.map cellA) :: .box b6 120 [.v (.map (some r20))] :: .map r20 (encM int2K es) :: .box b4 118 (namesC h) :: .box b2 28 histZ :: (A.map rowA ++ [.glob 1 114 limitsC, .glob 2 235 firstC, .glob 3 238 acceptC])), rfl, ⟨hk, A, es, hes, hA, rfl⟩, rfl⟩
    · obtain ⟨_, o', A, es, ho', hA, hk4, rfl⟩ := hK
      obtain ⟨p0, p1, p2, p3, rfl⟩ : ∃ p0 p1 p2 p3, A = [p0, p1, p2, p3] := by
        have := congrArg List.length hA
        simp [hk4] at this
        match A, this with
        | [p0, p1, p2, p3], _ => exact ⟨p0, p1, p2, p3, rfl⟩
      refine rn ?_
      refine aw_drawS 14 [(b1, 28, _)] rfl ((pt2 _ _ _ _).trans (List.perm_append_comm (l₁ := [_]))) ?_
      refine dq rfl rfl (qr_indexAddr_int rfl rfl (by decide) (by decide)) ?_
      refine rn ?_
      refine dq rfl rfl (qr_indexAddr_int rfl rfl (by decide) (by decide)) ?_
      refine rn ?_
      refine dq rfl rfl (qr_indexAddr_int rfl rfl (by decide) (by decide)) ?_
      refine rn ?_
      refine dq rfl rfl (qr_indexAddr_int rfl rfl (by decide) (by decide)) ?_
      refine rn ?_
      refine dw 0 rfl rfl rfl rfl rfl (Nat.le_of_ble_eq_true rfl) ?_
      refine rn ?_
      refine dw 0 rfl rfl rfl rfl rfl (Nat.le_of_ble_eq_true rfl) ?_
      refine rn ?_
      refine dw 0 rfl rfl rfl rfl rfl (Nat.le_of_ble_eq_true rfl) ?_
      refine rn2 ?_
      show aops _ _ _ _ _ _ ⟨_, .box b1 28 [.v p0.1.v, .v p1.1.v, .v p2.1.v, strsA h.ps, .v o'.vE.v, .v o'.vR.v, .v o'.vM.v, .v o'.vW.v] :: .defs q :: .box b5 118 (([p0, p1, p2, p3] : AN).map cellA) :: .box b2 28 histZ :: .box b1' 124 [.v (.pointer (some ⟨b1, 0, none⟩))] :: .box b6 120 [.v (.map (some r20))] :: .map r20 (encM int2K es) :: .box b4 118 (namesC h) :: rowA p0 :: rowA p1 :: rowA p2 :: rowA p3 :: .glob 1 114 limitsC :: .glob 2 235 firstC :: .glob 3 238 acceptC :: .row o'.vE.v 9 77 (o'.evs.map evRw) :: .row o'.vR.v 2 98 (o'.ords.map ordRw) :: .row o'.vM.v 4 91 (o'.mats.map matRw) :: .row o'.vW.v 2 102 (o'.wants.map wanR) :: (scR 81 o'.evs ++ (otR 3 o'.ords ++ (mtR 3 o'.mats ++ []))), _⟩
      refine rn ?_
      have q0 := (an_snd (f := fun s => nameAt (nmK h s)) (s := 0) hA rfl).1
      have q1 := (an_snd (f := fun s => nameAt (nmK h s)) (s := 1) hA rfl).1
      have q2 := (an_snd (f := fun s => nameAt (nmK h s)) (s := 2) hA rfl).1
      have q3 := (an_snd (f := fun s => nameAt (nmK h s)) (s := 3) hA rfl).1
      have hH : ({ o' with ts := p0.2, ss := p1.2, os := p2.2, ps := p3.2 } : OH).hist = numberH h := by
        unfold numberH
        simp only
        rw [← ho', q0, q1, q2, q3]
        rfl
      exact retqd (pt1 _ _ _) (.cons _ _ _ _ (.agg _ _ _ _ _ _ _ rfl inferInstance inferInstance inferInstance rfl) (.cons _ _ _ _ (.tmp _ _ rfl) .nil)) (.trans (.perm (pcs_perm (l1 := [[_, _, _, _, _, _, _], [rowA p0, rowA p1, rowA p2, rowA p3], [.glob 1 114 limitsC, .glob 2 235 firstC, .glob 3 238 acceptC]]) (l2 := [[_, _, _, _, _, _, _], [.glob 1 114 limitsC, .glob 2 235 firstC, .glob 3 238 acceptC], [rowA p0, rowA p1, rowA p2, rowA p3]]) (.cons _ (pt1 _ _ _)) _) _) (.drop [_, _, _, _, _, _, _] _ _)) ⟨fun _ => ⟨⟨p0.1, p1.1, p2.1, p3.1⟩, _, hH, by rw [← hH]; rfl, rfl⟩, fun q => absurd (q.symm.trans hs) (by decide)⟩
    · cases hK.1
end Go.Proofs
/- The walk of history.Complete. Conditions: none. -/
set_option linter.unusedVariables false
set_option linter.unusedSimpArgs false
set_option maxRecDepth 10000
namespace Go.Proofs
open Go Go.Ab
attribute [local irreducible] QR QV OE aops aw dsoup dsoupM dalloc dallocM thn inBlk
open Go.H
end Go.Proofs
/- Number and Complete, read plainly; the law's small history. Conditions: none. -/
set_option linter.unusedVariables false
set_option linter.unusedSimpArgs false
set_option maxRecDepth 10000
namespace Go.Proofs
open Go Go.Ab
attribute [local irreducible] QR QV OE aops aw dsoup dsoupM dalloc dallocM thn inBlk
open Go.H
theorem numberP (h : Hist) (la : Lim 4611686018427387904 h) : ACall Tryz.prog 26 [.agg (histC h)] [.glob 1 114 limitsC, .glob 2 235 firstC, .glob 3 238 acceptC] (fun r h' => h' = [.glob 1 114 limitsC, .glob 2 235 firstC, .glob 3 238 acceptC] ∧ r = .tup [.agg (histC (H.numR h)), iv (numE h)]) := by
  refine (number h la).ventR ?_
  rintro r h' ⟨ht, hf⟩
  by_cases hs : shapedB h = true
  · obtain ⟨n, o, ho, rfl, rfl⟩ := ht hs
    refine ⟨_, _, (by rw [← ho]; exact hist_freeze [.glob 1 114 limitsC, .glob 2 235 firstC, .glob 3 238 acceptC] n o 9 77 98 91 102 81 3 (nmR n o.hist (ohF o [])) (by simp [nmR, OH.hist]) (by simp [nmR, OH.hist]) (by simp [nmR, OH.hist]) (by simp [nmR, OH.hist]) (by simp [nmR, ohF]) (by simp [nmR, ohF]) (by simp [nmR, ohF]) (by simp [nmR, ohF]) (fun r hr => by simp [nmR, ohF, hr]) (fun r hr => by simp [nmR, ohF, hr]) (fun r hr => by simp [nmR, ohF, hr]) (iv 0) (.v _)), rfl, ?_⟩
    rw [ho, H.numR, numE, if_pos hs, if_pos hs]
  · obtain ⟨rfl, rfl⟩ := hf (by simpa using hs)
    refine ⟨_, _, .le (Sb.tups (aS := [.agg histZ, _]) (bs := [.agg (histC hist0), _]) ⟨Sb.aggs (aS := histZ) (bs := histC hist0) ⟨.nil _ _, .nil _ _, .nil _ _, .nil _ _, .nil _ _, .nil _ _, .nil _ _, .nil _ _, trivial⟩, .refl _, trivial⟩).le, rfl, ?_⟩
    rw [H.numR, numE, if_neg hs, if_neg hs]
end Go.Proofs
/- The walk of RulesBegins. Conditions: none. -/
set_option linter.unusedVariables false
set_option linter.unusedSimpArgs false
set_option maxRecDepth 10000
namespace Go.Proofs
open Go Go.Ab
attribute [local irreducible] QR QV OE aops aw dsoup dsoupM dalloc dallocM thn inBlk jsoup jch lsoup
open Go.H
theorem numberC (h : Hist) (hs : shapedB h = true) : ACall Tryz.prog 26 [.agg (histC h)] [.glob 1 114 limitsC, .glob 2 235 firstC, .glob 3 238 acceptC] (fun r h' => h' = [.glob 1 114 limitsC, .glob 2 235 firstC, .glob 3 238 acceptC] ∧ r = .tup [.agg (histC (numberH h)), iv 0]) :=
  (numberP h ((shaped_lim hs).mono (by decide))).mono fun _ _ q => ⟨q.1, by rw [q.2, H.numR, numE, if_pos hs, if_pos hs]⟩
theorem firstC8 (h : Hist) (hm : mayB h = true) (i : Nat) (hf : firstH h = some (8, i)) : ACall Tryz.prog 16 [.agg (histC h)] [.glob 1 114 limitsC, .glob 2 235 firstC, .glob 3 238 acceptC, .glob 0 104 asksC] (fun r h' => h' = [.glob 1 114 limitsC, .glob 2 235 firstC, .glob 3 238 acceptC, .glob 0 104 asksC] ∧ r = .tup [.agg [iv 8, iv i], bv true, iv 0]) :=
  (rFirst h ((may3000 hm).mono (by decide))).mono fun _ _ q => ⟨q.1, by rw [q.2, begin_ans hm hf]⟩
theorem sbCut (h : Hist) (k : Nat) : Sbs [.agg [strsA h.ts, strsA h.ss, strsA h.os, strsA h.ps, .list false 9 ((h.evs.map evR).take k), .v (.slice none 0 0), .v (.slice none 0 0), .v (.slice none 0 0)]] [.agg (histC (cutB h k))] :=
  ⟨Sb.aggs (bs := histC (cutB h k)) ⟨.refl _, .refl _, .refl _, .refl _, (by show Sb (.list false 9 ((h.evs.map evR).take k)) (.list false 9 ((h.evs.take k).map evR)); rw [List.map_take]; exact .refl _), .nil _ _, .nil _ _, .nil _ _, trivial⟩, trivial⟩
set_option maxHeartbeats 4000000 in
theorem rulesBegins (x : Hist) (j : Int) (la : Lim 4611686018427387904 x) : ACall Tryz.prog 5 [.agg (histC x), iv j] [.glob 1 114 limitsC, .glob 2 235 firstC, .glob 3 238 acceptC, .glob 0 104 asksC] (fun r h' => h' = [.glob 1 114 limitsC, .glob 2 235 firstC, .glob 3 238 acceptC, .glob 0 104 asksC] ∧ r = bv true) := by
  refine acall_of_aw Tryz.func5 rfl rfl rfl ?_
  refine rn ?_
  refine aops_e rfl (oe_box rfl rfl rfl fun b2 => ?_)
  refine rn ?_
  refine qv rfl rfl (qv_call rfl rfl (FCall.qt (FCall.of_fun wakesA) ((pt1 _ _ _).trans (.cons _ ((pt1 _ _ _).trans (.cons _ ((pt1 _ _ _).trans (.cons _ (pt1 _ _ _))))))))) ?_
  refine rn ?_
  refine aw_cond rfl (fun hc15 => ?_) (fun hc15 => ?_)
  · exact absurd hc15 (by decide)
  · refine rn ?_
    refine qv rfl rfl (qv_call rfl rfl (pcall (few x la) (Sbs.refl _))) ?_
    refine aops_e rfl (oe_alloc rfl fun b5 => ?_)
    refine rn ?_
    refine qv rfl rfl (qv_call rfl rfl (FCall.qt (FCall.of_fun (rSound (fewA x) ((fewA_lim x).mono (by decide)))) ((pt2 _ _ _ _).trans (.cons _ ((pt2 _ _ _ _).trans (.cons _ ((pt2 _ _ _ _).trans (.cons _ (pt2 _ _ _ _))))))))) ?_
    refine rn ?_
    refine aw_cond rfl (fun hc20 => ?_) (fun hc20 => ?_)
    · refine rn ?_
      refine rq 2 ?_
      exact ⟨rfl, rfl⟩
    · have hs0 : soundB (fewA x) = true := by simpa using hc20
      obtain ⟨hm0, hf⟩ := sound_may hs0
      have hs : shapedB (fewA x) = true := by unfold mayB at hm0; simp only [Bool.and_eq_true] at hm0; exact hm0.1
      have few_evs := (fewA_lim x).evs
      obtain ⟨hK, hKl⟩ := cutAt_eq j (l := (fewA x).evs.length) (by omega)
      have hm := number_may (cut_shaped (k := (cutAt j (fewA x).evs.length)) hs)
      refine rn ?_
      refine aw_draw 11 rfl ?_
      refine dq rfl rfl qrA ?_
      refine dq rfl rfl qrA ?_
      refine dq rfl rfl qrA ?_
      refine dq rfl rfl (qr_convert rfl (wrap_u _)) ?_
      refine dq rfl rfl qrA ?_
      refine dq rfl rfl qrA ?_
      refine dq rfl rfl qrA ?_
      refine dq rfl rfl (qr_ari rfl rfl rfl (by rw [List.length_map]; omega)) ?_
      refine dq rfl rfl (qr_convert rfl (wrap_un (by omega) (by rw [List.length_map]; omega))) ?_
      refine dq rfl rfl (qr_rem (c := (((cutAt j (fewA x).evs.length) : Nat) : Int)) rfl rfl (by omega) (by rw [List.length_map, tmod_eq, hK])) ?_
      refine dq rfl rfl (qr_convert rfl (wrap_i (by omega) (by omega))) ?_
      refine rn2 ?_
      refine qq rfl rfl (qr_slice_h (k := (cutAt j (fewA x).evs.length)) rfl rfl (by rw [List.length_map]; exact hKl)) ?_
      refine rn ?_
      refine qv rfl rfl (qv_call rfl rfl ((FCall.qt (FCall.of_fun (numberC (cutB (fewA x) (cutAt j (fewA x).evs.length)) (cut_shaped hs))) ((pt2 _ _ _ _).trans (.cons _ ((pt2 _ _ _ _).trans (.cons _ (pt2 _ _ _ _)))))).le (Sbs.les (by exact sbCut (fewA x) (cutAt j (fewA x).evs.length))))) ?_
      refine rn ?_
      refine aops_e rfl (oe_alloc rfl fun b6 => ?_)
      refine rn ?_
      refine aw_cond rfl (fun hc43 => ?_) (fun hc43 => ?_)
      · exact absurd hc43 (by decide)
      · refine rn ?_
        refine aw_rng ((numberH (cutB (fewA x) (cutAt j (fewA x).evs.length))).os.length) (fun k : Nat => ∀ o : Nat, o < k → (writersP (numberH (cutB (fewA x) (cutAt j (fewA x).evs.length))).evs o).length ≤ 1) (fun k => [(47, iv k)]) [(6, _), (46, _)] (fun o ho => absurd ho (Nat.not_lt_zero _)) ?_
        intro k lk zk
        refine rn ?_
        refine aw_cond rfl (fun hc48 => ?_) (fun hc48 => ?_)
        · have hk := ltMap hc48
          have rk := atRow (f := strR) hk
          have lO := (may3000 hm).os
          refine rn ?_
          refine qv rfl rfl (qv_call rfl rfl (FCall.qt (FCall.of_fun (writersM (numberH (cutB (fewA x) (cutAt j (fewA x).evs.length))) (k : Nat) hm)) ((pt3 _ _ _ _ _).trans (.cons _ ((pt3 _ _ _ _ _).trans (.cons _ ((pt3 _ _ _ _ _).trans (.cons _ (pt3 _ _ _ _ _))))))))) ?_
          refine rn ?_
          refine aw_cond rfl (fun hc62 => ?_) (fun hc62 => ?_)
          · obtain ⟨i, hi⟩ := begin_hit (k := (cutAt j (fewA x).evs.length)) hs hf hk (by have h := hc62; simp at h; omega)
            refine rn ?_
            refine qv rfl rfl (qv_call rfl rfl (FCall.qt (FCall.of_fun (firstC8 (numberH (cutB (fewA x) (cutAt j (fewA x).evs.length))) hm i hi)) ((pt3 _ _ _ _ _).trans (.cons _ ((pt3 _ _ _ _ _).trans (.cons _ ((pt3 _ _ _ _ _).trans (.cons _ (pt3 _ _ _ _ _))))))))) ?_
            refine rn ?_
            refine aops_e rfl (oe_alloc rfl fun b11 => ?_)
            refine rn ?_
            refine rq 4 ?_
            exact ⟨rfl, rfl⟩
          · refine rn ?_
            exact ⟨hk, under_step zk (by have h := hc62; simp at h; omega), eA⟩
        · have qk := geMap hc48 lk
          refine rn ?_
          refine qv rfl rfl (qv_call rfl rfl (FCall.qt (FCall.of_fun (soundT (numberH (cutB (fewA x) (cutAt j (fewA x).evs.length))) ((may3000 hm).mono (by decide)) (begin_sound hs hf (by intro o ho; exact zk o (by omega))))) ((pt3 _ _ _ _ _).trans (.cons _ ((pt3 _ _ _ _ _).trans (.cons _ ((pt3 _ _ _ _ _).trans (.cons _ (pt3 _ _ _ _ _))))))))) ?_
          refine rn ?_
          refine rq 3 ?_
          exact ⟨rfl, rfl⟩
end Go.Proofs
/- RulesBegins: the row and the tied card. Conditions: none. -/
set_option linter.unusedVariables false
set_option maxRecDepth 100000
namespace Go.Proofs.YtmbbjpoljcmhlaaGreatDoor
open Go Go.Ab Go.H Go.ChangeShapes Go.WideShapes Go.ChangeAt Go.RowKit
theorem rulesBegins_lifted (os : Os) (started : os.Started) (K : Type) (enc : TypeId × Value → K) :
    ReturnsInHanded {} Tryz.checked os 5 .any (fun w args => (Rows.rulesBeginsSpec.pre enc Tryz.prog Tryz.f5 [] false w args ∧ laidMetH Tryz.prog laid4 w) ∧ sizedMet enc Tryz.prog Tryz.f5 (OpenSpec.ofChange Rows.rulesBeginsSpec) false w args)
      (Rows.rulesBeginsSpec.post enc Tryz.prog Tryz.f5 false true false false) := by
  refine returnsInHanded_of_change_and (C := Tryz.checked) (X := fun w _ => laidMetH Tryz.prog laid4 w) (fun _ _ _ hh h => h.of_heap hh) own started (by kernel_rfl) Tryz.func5
    (ChangeSpec.witness_shaped (enc := enc) (C := Tryz.checked) (os := os) (X := fun w _ => laidMetH Tryz.prog laid4 w) false (wit os)
      #[.agg #[.slice none 0 0, .slice none 0 0, .slice none 0 0, .slice none 0 0, .slice none 0 0, .slice none 0 0, .slice none 0 0, .slice none 0 0], .int .i64 0] 8 (wit_os _)
      (World.shaped_of_ZipB (by kernel_rfl) (by kernel_rfl)) (by kernel_rfl) (by kernel_rfl) (by kernel_rfl)
      (wit_met _ _)) ?_
  intro W base args ds gs before hval0 hW _ hsz hL _
  have hval : ∀ (j : Nat) t v, Tryz.f5.params[j]? = some t → args[j]? = some v → Value.okWide Tryz.prog W .any base t v := hval0
  have hlt := hW.lt
  have hW' := hW
  obtain ⟨p, q, hA0, hV, rfl, hfz, hnd⟩ := hW
  have hA : DataW.TrodAll enc Tryz.prog W 0 (fun _ => true) true Tryz.f5.params.toList args.toList ds p := hA0
  rw [Tryz.params5] at hA hval
  obtain ⟨v0, v1, d0, d1, p0, p1, rfl, rfl, rfl, h0, h1⟩ := trodAll_two hA
  have hlt0 : ∀ x ∈ p0, x.block < W.heap.size := fun x hx => hlt x (by simp [hx])
  have hlt1 : ∀ x ∈ p1, x.block < W.heap.size := fun x hx => hlt x (by simp [hx])
  obtain ⟨rfl, rfl⟩ := trodVars_none hV
  have hw0 : ∀ n ∈ d0.weights Tryz.prog 28, n ≤ reachBytes := fun n hn => by
    have := List.all_eq_true.1 hsz n (DataW.weights_mem_each (j := 0) (t := 28) (d := d0) (by kernel_rfl) rfl n hn)
    simpa using this
  have hv0 := hval 0 28 v0 rfl rfl
  unfold Value.okWide at hv0
  rw [Tryz.underlying28] at hv0
  obtain ⟨cs0, rfl, _, _⟩ := hv0
  obtain ⟨x0, hlim0, hrel0⟩ := hist_of h0 hw0
  obtain ⟨x1, rfl, rfl, rfl, wx1⟩ := open_int Tryz.underlying3 (hval 1 3 v1 rfl rfl) h1
  refine (((rulesBegins x0 x1 hlim0) noX W [.agg cs0, .int .i64 x1] (laid_hrel4 hL) ⟨by rw [OO_G4]; exact hrel0, .v _, trivial⟩).calls (fun k => room_FW none k)).mono fun e W' hp => ?_
  obtain ⟨v, av, h', rfl, ⟨rfl, rfl⟩, hr, _, hk⟩ := hp
  obtain rfl := hr.v_eq
  simp only [List.append_nil] at hW'
  refine ⟨_, rfl, _, _, _, [], _, [], hW', trodAll_mk1 (shut_bool Tryz.underlying4 _), trodAll_mk2 (trod_keep hk h0 hlt0) (shut_int Tryz.underlying3 wx1), rfl, keep_but hk _, fun h => by cases h⟩
theorem rulesBegins_holds : Rows.RulesBeginsSaid :=
  OpenClaim.holds_of_wide 5 Tryz.f5 rfl rfl rfl rfl rfl rfl rfl ⟨rfl, rfl, rfl, rfl, rfl⟩ rfl rfl rfl rfl rfl (by kernel_rfl) Tryz.func5 (by kernel_rfl)
    (of_decide_eq_true (by kernel_rfl)) (by unfold Func.isWrapper; first | (rw [if_pos (by decide +kernel)]; kernel_rfl) | (rw [if_neg (by decide +kernel)]; exact ⟨rfl, rfl⟩))
    (fun os started H enc _ => rulesBegins_lifted os started H enc)
theorem rulesBegins_card : Rows.RulesBeginsCardSaid :=
  Claim7.holds_tied_plain_at .later [] [.data, .data, .funcs, .pinned] true (true, "d55ab8e815a290dad6f2351e9d6ec18f48be6eec6ef6cea3a1db13a56bb930ed") false rulesBegins_holds (fun _ h => by cases h) (by kernel_rfl) (fun _ h => by cases h) rulesBegins_row_tie rfl ⟨rfl, rfl⟩ (by kernel_rfl) rfl
    (fun f fn hf hfn => by
      obtain rfl : f = 5 := Option.some.inj ((show Tryz.prog.funcNamed "yardarm/yardarmlaw15.RulesBegins" = some 5 by kernel_rfl).symm.trans hf) |>.symm
      obtain rfl : fn = Tryz.f5 := (Option.some.inj (Tryz.func5.symm.trans hfn)).symm
      exact ⟨by kernel_rfl, fun j t ht => by
        rw [Tryz.params5] at ht
        have hm : t ∈ [28, 3] := by simpa using Array.mem_of_getElem? ht
        have hall : ([28, 3].all fun u => !Tryz.prog.wantsStandIn u) = true := by kernel_rfl
        exact (show Tryz.prog.wantsStandIn t = false by simpa using List.all_eq_true.1 hall t hm)⟩)
    (by kernel_rfl)
#print axioms rulesBegins_card
end Go.Proofs.YtmbbjpoljcmhlaaGreatDoor
