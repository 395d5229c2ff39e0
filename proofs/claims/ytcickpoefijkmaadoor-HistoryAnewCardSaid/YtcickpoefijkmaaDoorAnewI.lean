/- The walk of history.spoken, writing. Conditions: none. -/
import Derived.Test.YtcickpoefijkmaaDoorAnewH
set_option linter.unusedVariables false
set_option linter.unusedSimpArgs false
set_option maxRecDepth 10000
namespace Go.Proofs
open Go Go.Ab
open Go.H
theorem sayW {σ : Type} (f : σ → Nat → Int → Int × σ) (ok : Nat × Int → Prop) (I : σ → List Res → Prop) (y : AV) (hy : ∀ (s : σ) (L : List Res) (sort : Nat) (n : Int) (sl : Value) (sz k off : Nat) (T : TypeId) (rows rows' : List (List AV)) (row : List AV), ok (sort, n) → I s L → rows[k]? = some row → row[off]? = some (iv n) → rows.set k (row.take off ++ [iv (f s sort n).1] ++ row.drop (off + 1)) = rows' → FCall Tryd.prog y [iv sort, .rp sl sz k off] (.row sl sz T rows :: L) (fun r h' => ∃ L', r = bv true ∧ I (f s sort n).2 L' ∧ h' = .row sl sz T rows' :: L')) (sort : Nat) (n : Int) (sl : Value) (sz k off : Nat) (T : TypeId) (rows rows' : List (List AV)) (row : List AV) (hs : ok (sort, n)) (h1 : rows[k]? = some row) (h2 : row[off]? = some (iv n)) (bm by_ : Nat) (s : σ) (L : List Res) (hset : rows.set k (row.take off ++ [iv (f s sort n).1] ++ row.drop (off + 1)) = rows') (hI : I s L) : ACall Tryd.prog 50 [iv sort, .rp sl sz k off, .v (.pointer (some ⟨bm, 0, none⟩)), .v (.pointer (some ⟨by_, 0, none⟩))] (.box bm 4 [bv true] :: .box by_ 100 [y] :: .row sl sz T rows :: L) (fun r h' => ∃ G' L', h' = G' ++ L' ∧ G' = [.box bm 4 [bv true], .box by_ 100 [y], .row sl sz T rows'] ∧ I (f s sort n).2 L') := by
  refine acall_of_aw Tryd.func50 rfl rfl rfl ?_
  refine aw_region ?_
  first | refine qq rfl rfl (qr_load_one rfl rfl) ?_ | refine qq rfl rfl (qr_load_pp_one rfl rfl) ?_ | refine qq rfl rfl (qr_load_rp_one rfl (by assumption) rfl) ?_
  refine qq rfl rfl (qr_move rfl) ?_
  first | refine qq rfl rfl (qr_load_one rfl rfl) ?_ | refine qq rfl rfl (qr_load_pp_one rfl rfl) ?_ | refine qq rfl rfl (qr_load_rp_one rfl (by assumption) rfl) ?_
  refine qq rfl rfl (qr_move rfl) ?_
  refine qq rfl rfl (qr_move rfl) ?_
  refine aops_e rfl (oe_call rfl rfl (FCall.fr2 (hy s L sort n sl sz k off T rows rows' row hs hI h1 h2 hset)) rfl ?_)
  rintro _ _ ⟨_, rfl, L2, rfl, hI2, rfl⟩
  first | refine qq rfl rfl (qr_pick_t rfl rfl) ?_ | refine qq rfl rfl (qr_pick_f rfl rfl) ?_ | refine qq rfl rfl (qr_pick_b rfl rfl rfl) ?_
  first | refine aops_e rfl (oe_store_all rfl rfl rfl ?_) | refine aops_e rfl (oe_store rfl rfl rfl rfl (Nat.le_of_ble_eq_true rfl) ?_)
  refine aops_nil ?_
  exact retq_n .nil (.refl _ _) ⟨[_, _, _], L2, rfl, rfl, hI2⟩
theorem madeW {σ : Type} (f : σ → Nat → Int → Int × σ) (ok : Nat × Int → Prop) (I : σ → List Res → Prop) (y : AV) (hy : ∀ (s : σ) (L : List Res) (sort : Nat) (n : Int) (sl : Value) (sz k off : Nat) (T : TypeId) (rows rows' : List (List AV)) (row : List AV), ok (sort, n) → I s L → rows[k]? = some row → row[off]? = some (iv n) → rows.set k (row.take off ++ [iv (f s sort n).1] ++ row.drop (off + 1)) = rows' → FCall Tryd.prog y [iv sort, .rp sl sz k off] (.row sl sz T rows :: L) (fun r h' => ∃ L', r = bv true ∧ I (f s sort n).2 L' ∧ h' = .row sl sz T rows' :: L')) (v : Ver) (hv : ∀ x ∈ madeL v, ok x) (sl : Value) (sz k off : Nat) (T : TypeId) (rows rows' : List (List AV)) (row : List AV) (h1 : rows[k]? = some row) (h2 : row[off]? = some (iv v.t)) (h3 : row[off + 1]? = some (iv v.k)) (bs bm by_ : Nat) (s : σ) (L : List Res) (hset : rows.set k (row.take off ++ [iv (travVer f s v).1.t] ++ row.drop (off + 1)) = rows') (hI : I s L) : ACall Tryd.prog 51 [.rp sl sz k off, .v (.pointer (some ⟨bs, 0, none⟩))] (.box bs 101 [.fn (.func 50) [] [.v (.pointer (some ⟨bm, 0, none⟩)), .v (.pointer (some ⟨by_, 0, none⟩))]] :: .box bm 4 [bv true] :: .box by_ 100 [y] :: .row sl sz T rows :: L) (fun r h' => ∃ G' L', h' = G' ++ L' ∧ G' = [.box bs 101 [.fn (.func 50) [] [.v (.pointer (some ⟨bm, 0, none⟩)), .v (.pointer (some ⟨by_, 0, none⟩))]], .box bm 4 [bv true], .box by_ 100 [y], .row sl sz T rows'] ∧ I (travVer f s v).2 L') := by
  refine acall_of_aw Tryd.func51 rfl rfl rfl ?_
  refine aw_seq (aw_region ?_)
  refine qq rfl rfl (qr_move rfl) ?_
  first | refine qq rfl rfl (qr_nilCheck rfl) ?_ | refine qq rfl rfl (qr_nilCheck_pp rfl) ?_ | refine qq rfl rfl (qr_nilCheck_rp rfl) ?_
  first | refine qq rfl rfl (qr_fieldAddr rfl (Nat.succ_ne_zero _)) ?_ | refine qq rfl rfl (qr_fieldAddr_pp rfl (Nat.succ_ne_zero _)) ?_ | refine qq rfl rfl (qr_fieldAddr_rp rfl (Nat.succ_ne_zero _)) ?_ | refine qq rfl rfl (qr_fieldAddr_row rfl (Nat.succ_ne_zero _)) ?_
  refine qq rfl rfl (qr_load_rp_one rfl h1 h3) ?_
  refine qq rfl rfl (qr_cmp rfl rfl rfl) ?_
  refine aops_nil (thn_n ?_)
  refine aw_cond rfl (fun hc7 => ?_) (fun hc7 => ?_)
  · refine aw_draw 4 rfl ?_
    first | refine dq rfl rfl (qr_load_one rfl rfl) ?_ | refine dq rfl rfl (qr_load_pp_one rfl rfl) ?_ | refine dq rfl rfl (qr_load_rp_one rfl (by assumption) rfl) ?_
    refine dq rfl rfl (qr_move rfl) ?_
    first | refine dq rfl rfl (qr_nilCheck rfl) ?_ | refine dq rfl rfl (qr_nilCheck_pp rfl) ?_ | refine dq rfl rfl (qr_nilCheck_rp rfl) ?_
    first | refine dq rfl rfl (qr_fieldAddr rfl (Nat.succ_ne_zero _)) ?_ | refine dq rfl rfl (qr_fieldAddr_pp rfl (Nat.succ_ne_zero _)) ?_ | refine dq rfl rfl (qr_fieldAddr_rp rfl (Nat.succ_ne_zero _)) ?_ | refine dq rfl rfl (qr_fieldAddr_row rfl (Nat.succ_ne_zero _)) ?_
    refine dnil ⟨rfl, ?_⟩
    refine dalloc_s rfl ?_
    refine dalloc_s rfl ?_
    refine dalloc_s rfl ?_
    refine dalloc_s rfl ?_
    refine dalloc_nil ?_
    refine aops_e rfl (oe_call rfl rfl (FCall.around [_] [_, _, _] [] (FCall.of_acall (fs := []) (cs := [.v (.pointer (some ⟨bm, 0, none⟩)), .v (.pointer (some ⟨by_, 0, none⟩))]) (sayW f ok I y hy 0 v.t sl sz k (off + 0) T rows rows' row (hv _ (by rw [madeL, if_pos hc7]; simp)) h1 h2 bm by_ _ _ (by rw [← hset, travVer_1 f (of_decide_eq_true hc7)]; rfl) hI))) rfl ?_)
    rintro _ _ ⟨_, L, rfl, rfl, hI⟩
    refine aops_nil ?_
    first
      | exact retq_n .nil (.refl _ _) ⟨[_, _, _, _], L, rfl, rfl, by rw [travVer_1 f (of_decide_eq_true hc7)]; exact hI⟩
      | (have hr : rows' = rows := by rw [← hset, travVer_0 f (of_decide_eq_false hc7)]; exact set_same h1 h2
         exact retq_n .nil (.refl _ _) ⟨[_, _, _, _], L, rfl, by rw [hr], by rw [travVer_0 f (of_decide_eq_false hc7)]; exact hI⟩)
  · refine aw_skip ?_
    first
      | exact retq_n .nil (.refl _ _) ⟨[_, _, _, _], L, rfl, rfl, by rw [travVer_1 f (of_decide_eq_true hc7)]; exact hI⟩
      | (have hr : rows' = rows := by rw [← hset, travVer_0 f (of_decide_eq_false hc7)]; exact set_same h1 h2
         exact retq_n .nil (.refl _ _) ⟨[_, _, _, _], L, rfl, by rw [hr], by rw [travVer_0 f (of_decide_eq_false hc7)]; exact hI⟩)
theorem spokenW {σ : Type} (f : σ → Nat → Int → Int × σ) (ok : Nat × Int → Prop) (I : σ → List Res → Prop) (y : AV) (hone : y.cellsOf = some [y]) (hy : ∀ (s : σ) (L : List Res) (sort : Nat) (n : Int) (sl : Value) (sz k off : Nat) (T : TypeId) (rows rows' : List (List AV)) (row : List AV), ok (sort, n) → I s L → rows[k]? = some row → row[off]? = some (iv n) → rows.set k (row.take off ++ [iv (f s sort n).1] ++ row.drop (off + 1)) = rows' → FCall Tryd.prog y [iv sort, .rp sl sz k off] (.row sl sz T rows :: L) (fun r h' => ∃ L', r = bv true ∧ I (f s sort n).2 L' ∧ h' = .row sl sz T rows' :: L')) (o : OH) (la : Lim 4611686018427387904 o.hist) (c0 c1 c2 c3 : AV) (b1 bh : Nat) (hok0 : ∀ x ∈ spokenL o.hist, ok x) (s0 : σ) (L0 : List Res) (h0 : I s0 L0) : ACall Tryd.prog 49 [y, .v (.pointer (some ⟨b1, 0, none⟩))] (.box b1 67 [.v (.pointer (some ⟨bh, 0, none⟩))] :: .box bh 28 (c0 :: c1 :: c2 :: c3 :: o.cells) :: .row o.vE.v 9 40 (o.evs.map evRw) :: .row o.vR.v 2 54 (o.ords.map ordRw) :: .row o.vM.v 4 57 (o.mats.map matRw) :: .row o.vW.v 2 60 (o.wants.map wanR) :: (scR 52 o.evs ++ (otR 3 o.ords ++ (mtR 3 o.mats ++ L0)))) (fun r h' => ∃ (o' : OH) (L' : List Res), o'.hist = (travH f s0 o.hist).1 ∧ o'.cells = o.cells ∧ I (travH f s0 o.hist).2 L' ∧ h' = .box b1 67 [.v (.pointer (some ⟨bh, 0, none⟩))] :: .box bh 28 (c0 :: c1 :: c2 :: c3 :: o.cells) :: ohF o' L') := by
  refine acall_of_aw Tryd.func49 rfl rfl rfl ?_
  refine aw_seq (aw_region ?_)
  refine aops_e rfl (oe_box rfl hone rfl fun by_ => ?_)
  refine aops_nil (thn_n ?_)
  refine aw_seq (aw_region ?_)
  refine aops_e rfl (oe_alloc rfl fun bm => ?_)
  first | refine aops_e rfl (oe_store_all rfl rfl rfl ?_) | refine aops_e rfl (oe_store rfl rfl rfl rfl (Nat.le_of_ble_eq_true rfl) ?_)
  refine aops_nil (thn_n ?_)
  refine aw_seq (aw_region ?_)
  refine qq rfl rfl (qr_makeFunc rfl rfl) ?_
  refine aops_e rfl (oe_alloc rfl fun bs => ?_)
  first | refine aops_e rfl (oe_store_all rfl rfl rfl ?_) | refine aops_e rfl (oe_store rfl rfl rfl rfl (Nat.le_of_ble_eq_true rfl) ?_)
  refine aops_nil (thn_n ?_)
  refine aw_seq (aw_region ?_)
  refine qq rfl rfl (qr_makeFunc rfl rfl) ?_
  refine qq rfl rfl (qr_assign rfl) ?_
  refine aops_nil (thn_n ?_)
  refine aw_seq ?_
  refine aw_seq (aw_region ?_)
  first | refine qq rfl rfl (qr_load_one rfl rfl) ?_ | refine qq rfl rfl (qr_load_pp_one rfl rfl) ?_ | refine qq rfl rfl (qr_load_rp_one rfl (by assumption) rfl) ?_
  first | refine qq rfl rfl (qr_nilCheck rfl) ?_ | refine qq rfl rfl (qr_nilCheck_pp rfl) ?_ | refine qq rfl rfl (qr_nilCheck_rp rfl) ?_
  first | refine qq rfl rfl (qr_fieldAddr rfl (Nat.succ_ne_zero _)) ?_ | refine qq rfl rfl (qr_fieldAddr_pp rfl (Nat.succ_ne_zero _)) ?_ | refine qq rfl rfl (qr_fieldAddr_rp rfl (Nat.succ_ne_zero _)) ?_ | refine qq rfl rfl (qr_fieldAddr_row rfl (Nat.succ_ne_zero _)) ?_
  first | refine qq rfl rfl (qr_load_one rfl rfl) ?_ | refine qq rfl rfl (qr_load_pp_one rfl rfl) ?_ | refine qq rfl rfl (qr_load_rp_one rfl (by assumption) rfl) ?_
  first | refine qq rfl rfl (qr_len_list rfl) ?_ | refine qq rfl rfl (qr_len_row rfl) ?_
  refine qq rfl rfl (qr_move rfl) ?_
  refine aops_nil (thn_n ?_)
  refine aw_block ?_
  refine aw_loop' (fun x : Nat × List (SV × Ev) × List (SV × Ev) × σ × List Res => x.2.1.length = x.1 ∧ x.1 + x.2.2.1.length = o.evs.length ∧ Went (travEv f) (travL (travEv f) s0 (o.evs.map (·.2))) (x.2.1.map (·.2)) x.2.2.2.1 (x.2.2.1.map (·.2)) ∧ (∀ q ∈ x.2.2.1, (∀ z ∈ evL q.2, ok z) ∧ q.2.scan.length ≤ 4611686018427387904) ∧ I x.2.2.2.1 x.2.2.2.2) (fun x => ⟨[(22, iv x.1), (21, iv (o.evs.map evRw).length), (1, .v (.pointer (some ⟨b1, 0, none⟩))), (4, .v (.pointer (some ⟨bs, 0, none⟩))), (5, .fn (.func 51) [] [.v (.pointer (some ⟨bs, 0, none⟩))])], .box b1 67 [.v (.pointer (some ⟨bh, 0, none⟩))] :: .box bh 28 (c0 :: c1 :: c2 :: c3 :: o.cells) :: .box bs 101 [.fn (.func 50) [] [.v (.pointer (some ⟨bm, 0, none⟩)), .v (.pointer (some ⟨by_, 0, none⟩))]] :: .box bm 4 [bv true] :: .box by_ 100 [y] :: .row o.vE.v 9 40 (x.2.1.map evRw ++ x.2.2.1.map evRw) :: .row o.vR.v 2 54 (o.ords.map ordRw) :: .row o.vM.v 4 57 (o.mats.map matRw) :: .row o.vW.v 2 60 (o.wants.map wanR) :: (scR 52 x.2.1 ++ (scR 52 x.2.2.1 ++ (otR 3 o.ords ++ (mtR 3 o.mats ++ x.2.2.2.2)))), []⟩) (fun x => x.2.2.1.length) (0, [], o.evs, s0, L0) ⟨rfl, by simp, .start, fun q hq => ⟨fun z hz => hok0 z (by simp only [spokenL, OH.hist, List.mem_append, List.mem_flatMap, List.mem_map]; exact .inl ⟨q.2, ⟨q, hq, rfl⟩, hz⟩), la.scans q.2 (by simp only [OH.hist, List.mem_map]; exact ⟨q, hq, rfl⟩)⟩, h0⟩
    (ent_trans (ent_pcs (l1 := [[.box bs 101 [.fn (.func 50) [] [.v (.pointer (some ⟨bm, 0, none⟩)), .v (.pointer (some ⟨by_, 0, none⟩))]]], [.box bm 4 [bv true]], [.box by_ 100 [y]], [.box b1 67 [.v (.pointer (some ⟨bh, 0, none⟩))]], [.box bh 28 (c0 :: c1 :: c2 :: c3 :: o.cells)], [.row o.vE.v 9 40 (o.evs.map evRw)], [.row o.vR.v 2 54 (o.ords.map ordRw), .row o.vM.v 4 57 (o.mats.map matRw), .row o.vW.v 2 60 (o.wants.map wanR)], scR 52 o.evs, otR 3 o.ords, mtR 3 o.mats]) (l2 := [[.box b1 67 [.v (.pointer (some ⟨bh, 0, none⟩))]], [.box bh 28 (c0 :: c1 :: c2 :: c3 :: o.cells)], [.box bs 101 [.fn (.func 50) [] [.v (.pointer (some ⟨bm, 0, none⟩)), .v (.pointer (some ⟨by_, 0, none⟩))]]], [.box bm 4 [bv true]], [.box by_ 100 [y]], [.row o.vE.v 9 40 (o.evs.map evRw)], [.row o.vR.v 2 54 (o.ords.map ordRw), .row o.vM.v 4 57 (o.mats.map matRw), .row o.vW.v 2 60 (o.wants.map wanR)], scR 52 o.evs, otR 3 o.ords, mtR 3 o.mats]) ((pt3 _ _ _ _ _).trans (.cons _ (pt3 _ _ _ _ _)))) (ent_sub (.cons _ _ _ rfl (.cons _ _ _ rfl (.cons _ _ _ rfl (.cons _ _ _ rfl (.cons _ _ _ rfl (.nil)))))))) ?_
  rintro ⟨k, ed, er, sa, L⟩ ⟨hk, hn, hw, hok, hI⟩
  simp only at hk hn hw hok hI
  refine aw_seq (aw_region ?_)
  refine qq rfl rfl (qr_cmp rfl rfl rfl) ?_
  refine aops_nil (thn_n ?_)
  refine aw_seq ?_
  refine aw_cond rfl (fun hc23 => ?_) (fun hc23 => ?_)
  · have hk2 : k < o.evs.length := by simpa using hc23
    obtain ⟨⟨sv, e⟩, er, rfl⟩ : ∃ p r, er = p :: r := by
      cases er with
      | nil => simp at hn; omega
      | cons p r => exact ⟨p, r, rfl⟩
    obtain ⟨hq, hok⟩ := List.forall_mem_cons.1 hok
    simp only [List.length_cons] at hn
    obtain ⟨hq, hls⟩ := hq
    simp only at hq hls
    have hle : o.evs.length ≤ 4611686018427387904 := by have := la.evs; simpa [OH.hist] using this
    have hrow := at_get (f := evRw) (A := ed) (B := er) (b := (sv, e)) hk
    have hk3 := at_len (f := evRw) (A := ed) (B := er) (b := (sv, e)) hk
    refine aw_skip ?_
    refine thn_n ?_
    refine aw_seq ?_
    refine aw_block ?_
    refine aw_seq (aw_region ?_)
    refine qq rfl rfl (qr_move rfl) ?_
    refine qq rfl rfl (qr_assign rfl) ?_
    refine aops_nil (thn_n ?_)
    refine aw_seq (aw_region ?_)
    first | refine qq rfl rfl (qr_load_one rfl rfl) ?_ | refine qq rfl rfl (qr_load_pp_one rfl rfl) ?_ | refine qq rfl rfl (qr_load_rp_one rfl (by assumption) rfl) ?_
    first | refine qq rfl rfl (qr_nilCheck rfl) ?_ | refine qq rfl rfl (qr_nilCheck_pp rfl) ?_ | refine qq rfl rfl (qr_nilCheck_rp rfl) ?_
    first | refine qq rfl rfl (qr_fieldAddr rfl (Nat.succ_ne_zero _)) ?_ | refine qq rfl rfl (qr_fieldAddr_pp rfl (Nat.succ_ne_zero _)) ?_ | refine qq rfl rfl (qr_fieldAddr_rp rfl (Nat.succ_ne_zero _)) ?_ | refine qq rfl rfl (qr_fieldAddr_row rfl (Nat.succ_ne_zero _)) ?_
    first | refine qq rfl rfl (qr_load_one rfl rfl) ?_ | refine qq rfl rfl (qr_load_pp_one rfl rfl) ?_ | refine qq rfl rfl (qr_load_rp_one rfl (by assumption) rfl) ?_
    refine qq rfl rfl (qr_move rfl) ?_
    first | refine qq rfl rfl (qr_index_list rfl rfl (by assumption)) ?_ | refine qq rfl rfl (qr_index_row rfl rfl (by assumption)) ?_
    refine qq rfl rfl (qr_assign rfl) ?_
    refine aops_nil (thn_n ?_)
    refine aw_seq ?_
    refine aw_draw 4 rfl ?_
    first | refine dq rfl rfl (qr_load_one rfl rfl) ?_ | refine dq rfl rfl (qr_load_pp_one rfl rfl) ?_ | refine dq rfl rfl (qr_load_rp_one rfl (by assumption) rfl) ?_
    refine dq rfl rfl (qr_move rfl) ?_
    first | refine dq rfl rfl (qr_nilCheck rfl) ?_ | refine dq rfl rfl (qr_nilCheck_pp rfl) ?_ | refine dq rfl rfl (qr_nilCheck_rp rfl) ?_
    first | refine dq rfl rfl (qr_fieldAddr rfl (Nat.succ_ne_zero _)) ?_ | refine dq rfl rfl (qr_fieldAddr_pp rfl (Nat.succ_ne_zero _)) ?_ | refine dq rfl rfl (qr_fieldAddr_rp rfl (Nat.succ_ne_zero _)) ?_ | refine dq rfl rfl (qr_fieldAddr_row rfl (Nat.succ_ne_zero _)) ?_
    refine dnil ⟨rfl, ?_⟩
    refine dalloc_s rfl ?_
    refine dalloc_s rfl ?_
    refine dalloc_s rfl ?_
    refine dalloc_s rfl ?_
    refine dalloc_nil ?_
    obtain ⟨e1, he1⟩ : ∃ e1 : Ev, e1 = { e with t := (f sa 0 e.t).1 } := ⟨_, rfl⟩
    obtain ⟨s1, hs1⟩ : ∃ s1, s1 = (f sa 0 e.t).2 := ⟨_, rfl⟩
    have hkk : kindL e1 = kindL e := by rw [he1]; rfl
    have hkx : ∀ z ∈ kindL e1, ok z := fun z hz => hq z (by rw [hkk] at hz; simp [evL, hz])
    refine aops_e rfl (oe_call rfl rfl (FCall.around [_, _, _] [_, _, _] [[.row o.vR.v 2 54 (o.ords.map ordRw), .row o.vM.v 4 57 (o.mats.map matRw), .row o.vW.v 2 60 (o.wants.map wanR)], scR 52 ed, scR 52 ((sv, e) :: er), otR 3 o.ords, mtR 3 o.mats] (FCall.of_acall (fs := []) (cs := [.v (.pointer (some ⟨bm, 0, none⟩)), .v (.pointer (some ⟨by_, 0, none⟩))]) (sayW f ok I y hy 0 e.t _ _ _ _ _ _ _ _ (hq _ (by simp [evL])) (at_get hk) rfl bm by_ _ _ (at_set (f := evRw) (A := ed) (a := (sv, e1)) (B := er) hk (by rw [he1]; rfl)) hI))) rfl ?_)
    rintro _ _ ⟨_, L, rfl, rfl, hI⟩
    show aops _ _ _ _ _ _ ⟨_, .box b1 67 [.v (.pointer (some ⟨bh, 0, none⟩))] :: .box bh 28 (c0 :: c1 :: c2 :: c3 :: o.cells) :: .box bs 101 [.fn (.func 50) [] [.v (.pointer (some ⟨bm, 0, none⟩)), .v (.pointer (some ⟨by_, 0, none⟩))]] :: .box bm 4 [bv true] :: .box by_ 100 [y] :: .row o.vE.v 9 40 (ed.map evRw ++ ((sv, e1) :: er).map evRw) :: .row o.vR.v 2 54 (o.ords.map ordRw) :: .row o.vM.v 4 57 (o.mats.map matRw) :: .row o.vW.v 2 60 (o.wants.map wanR) :: (scR 52 ed ++ (scR 52 ((sv, e) :: er) ++ (otR 3 o.ords ++ (mtR 3 o.mats ++ L)))), _⟩
    rw [← hs1] at hI
    have hrow := at_get (f := evRw) (A := ed) (B := er) (b := (sv, e1)) hk
    have hk3 := at_len (f := evRw) (A := ed) (B := er) (b := (sv, e1)) hk
    refine aops_nil (thn_n ?_)
    refine aw_cutE (fun L => I (travKind f s1 e1).2 L) (fun L => ⟨[(7, .rp o.vE.v 9 k 0), (22, iv k), (21, iv (o.evs.map evRw).length), (1, .v (.pointer (some ⟨b1, 0, none⟩))), (4, .v (.pointer (some ⟨bs, 0, none⟩))), (5, .fn (.func 51) [] [.v (.pointer (some ⟨bs, 0, none⟩))])], .box b1 67 [.v (.pointer (some ⟨bh, 0, none⟩))] :: .box bh 28 (c0 :: c1 :: c2 :: c3 :: o.cells) :: .box bs 101 [.fn (.func 50) [] [.v (.pointer (some ⟨bm, 0, none⟩)), .v (.pointer (some ⟨by_, 0, none⟩))]] :: .box bm 4 [bv true] :: .box by_ 100 [y] :: .row o.vE.v 9 40 (ed.map evRw ++ ((sv, (travKind f s1 e1).1) :: er).map evRw) :: .row o.vR.v 2 54 (o.ords.map ordRw) :: .row o.vM.v 4 57 (o.mats.map matRw) :: .row o.vW.v 2 60 (o.wants.map wanR) :: (scR 52 ed ++ (scR 52 ((sv, e) :: er) ++ (otR 3 o.ords ++ (mtR 3 o.mats ++ L)))), []⟩) ?_ ?_
    · refine aw_seq (aw_region ?_)
      refine qq rfl rfl (qr_move rfl) ?_
      first | refine qq rfl rfl (qr_nilCheck rfl) ?_ | refine qq rfl rfl (qr_nilCheck_pp rfl) ?_ | refine qq rfl rfl (qr_nilCheck_rp rfl) ?_
      first | refine qq rfl rfl (qr_fieldAddr rfl (Nat.succ_ne_zero _)) ?_ | refine qq rfl rfl (qr_fieldAddr_pp rfl (Nat.succ_ne_zero _)) ?_ | refine qq rfl rfl (qr_fieldAddr_rp rfl (Nat.succ_ne_zero _)) ?_ | refine qq rfl rfl (qr_fieldAddr_row rfl (Nat.succ_ne_zero _)) ?_
      first | refine qq rfl rfl (qr_load_one rfl rfl) ?_ | refine qq rfl rfl (qr_load_pp_one rfl rfl) ?_ | refine qq rfl rfl (qr_load_rp_one rfl (by assumption) rfl) ?_
      refine aops_nil (thn_n ?_)
      refine aw_block ?_
      refine aw_seq (aw_region ?_)
      refine qq rfl rfl (qr_cmp rfl rfl rfl) ?_
      refine qq rfl rfl (qr_assign rfl) ?_
      refine aops_nil (thn_n ?_)
      refine aw_cond rfl (fun hc40 => ?_) (fun hc40 => ?_)
      · have hkt := travKind_1 f (s := s1) (e := e1) (by simpa using hc40)
        have hkl := kindL_1 (e := e1) (by simpa using hc40)
        refine aw_draw 4 rfl ?_
        first | refine dq rfl rfl (qr_load_one rfl rfl) ?_ | refine dq rfl rfl (qr_load_pp_one rfl rfl) ?_ | refine dq rfl rfl (qr_load_rp_one rfl (by assumption) rfl) ?_
        refine dq rfl rfl (qr_move rfl) ?_
        first | refine dq rfl rfl (qr_nilCheck rfl) ?_ | refine dq rfl rfl (qr_nilCheck_pp rfl) ?_ | refine dq rfl rfl (qr_nilCheck_rp rfl) ?_
        first | refine dq rfl rfl (qr_fieldAddr rfl (Nat.succ_ne_zero _)) ?_ | refine dq rfl rfl (qr_fieldAddr_pp rfl (Nat.succ_ne_zero _)) ?_ | refine dq rfl rfl (qr_fieldAddr_rp rfl (Nat.succ_ne_zero _)) ?_ | refine dq rfl rfl (qr_fieldAddr_row rfl (Nat.succ_ne_zero _)) ?_
        refine dnil ⟨rfl, ?_⟩
        refine dalloc_s rfl ?_
        refine dalloc_s rfl ?_
        refine dalloc_s rfl ?_
        refine dalloc_s rfl ?_
        refine dalloc_nil ?_
        refine aops_e rfl (oe_call rfl rfl (FCall.around [_, _, _] [_, _, _] [[.row o.vR.v 2 54 (o.ords.map ordRw), .row o.vM.v 4 57 (o.mats.map matRw), .row o.vW.v 2 60 (o.wants.map wanR)], scR 52 ed, scR 52 ((sv, e) :: er), otR 3 o.ords, mtR 3 o.mats] (FCall.of_acall (fs := []) (cs := [.v (.pointer (some ⟨bm, 0, none⟩)), .v (.pointer (some ⟨by_, 0, none⟩))]) (sayW f ok I y hy 1 e1.s _ _ _ _ _ _ _ _ (hkx _ (by rw [hkl]; simp)) (at_get hk) rfl bm by_ _ _ (at_set (f := evRw) (A := ed) (a := (sv, (travKind f s1 e1).1)) (B := er) hk (by rw [hkt]; rfl)) hI))) rfl ?_)
        rintro _ _ ⟨_, L, rfl, rfl, hI⟩
        show aops _ _ _ _ _ _ ⟨_, .box b1 67 [.v (.pointer (some ⟨bh, 0, none⟩))] :: .box bh 28 (c0 :: c1 :: c2 :: c3 :: o.cells) :: .box bs 101 [.fn (.func 50) [] [.v (.pointer (some ⟨bm, 0, none⟩)), .v (.pointer (some ⟨by_, 0, none⟩))]] :: .box bm 4 [bv true] :: .box by_ 100 [y] :: .row o.vE.v 9 40 (ed.map evRw ++ ((sv, (travKind f s1 e1).1) :: er).map evRw) :: .row o.vR.v 2 54 (o.ords.map ordRw) :: .row o.vM.v 4 57 (o.mats.map matRw) :: .row o.vW.v 2 60 (o.wants.map wanR) :: (scR 52 ed ++ (scR 52 ((sv, e) :: er) ++ (otR 3 o.ords ++ (mtR 3 o.mats ++ L)))), _⟩
        refine aops_nil ?_
        refine inBlk_n ?_
        refine thn_n ?_
        refine ⟨L, ?_, ?_⟩
        · show I (travKind f s1 e1).2 L
          rw [hkt]; exact hI
        · rw [hkt]; exact (ent_sub (.cons _ _ _ rfl (.cons _ _ _ rfl (.cons _ _ _ rfl (.cons _ _ _ rfl (.cons _ _ _ rfl (.cons _ _ _ rfl (.nil))))))))
      · have hn1 : e1.kind ≠ 1 := by simpa using hc40
        refine aw_seq ?_
        refine aw_seq (aw_region ?_)
        refine qq rfl rfl (qr_cmp rfl rfl rfl) ?_
        refine qq rfl rfl (qr_assign rfl) ?_
        refine aops_nil (thn_n ?_)
        refine aw_cond rfl (fun hc47 => ?_) (fun hc47 => ?_)
        · have hk23 : e1.kind = 2 ∨ e1.kind = 3 := by simp at hc47; omega
          have hkt := travKind_2 f (s := s1) hk23
          have hkl := kindL_2 hk23
          refine aw_skip ?_
          refine thn_n ?_
          refine aw_cond rfl (fun hc47 => ?_) (fun hc47 => ?_)
          · have hk23 : e1.kind = 2 ∨ e1.kind = 3 := by simp at hc47; omega
            have hkt := travKind_2 f (s := s1) hk23
            have hkl := kindL_2 hk23
            refine aw_seq ?_
            refine aw_draw 4 rfl ?_
            first | refine dq rfl rfl (qr_load_one rfl rfl) ?_ | refine dq rfl rfl (qr_load_pp_one rfl rfl) ?_ | refine dq rfl rfl (qr_load_rp_one rfl (by assumption) rfl) ?_
            refine dq rfl rfl (qr_move rfl) ?_
            first | refine dq rfl rfl (qr_nilCheck rfl) ?_ | refine dq rfl rfl (qr_nilCheck_pp rfl) ?_ | refine dq rfl rfl (qr_nilCheck_rp rfl) ?_
            first | refine dq rfl rfl (qr_fieldAddr rfl (Nat.succ_ne_zero _)) ?_ | refine dq rfl rfl (qr_fieldAddr_pp rfl (Nat.succ_ne_zero _)) ?_ | refine dq rfl rfl (qr_fieldAddr_rp rfl (Nat.succ_ne_zero _)) ?_ | refine dq rfl rfl (qr_fieldAddr_row rfl (Nat.succ_ne_zero _)) ?_
            refine dnil ⟨rfl, ?_⟩
            refine dalloc_s rfl ?_
            refine dalloc_s rfl ?_
            refine dalloc_s rfl ?_
            refine dalloc_s rfl ?_
            refine dalloc_nil ?_
            refine aops_e rfl (oe_call rfl rfl (FCall.around [_, _, _] [_, _, _] [[.row o.vR.v 2 54 (o.ords.map ordRw), .row o.vM.v 4 57 (o.mats.map matRw), .row o.vW.v 2 60 (o.wants.map wanR)], scR 52 ed, scR 52 ((sv, e) :: er), otR 3 o.ords, mtR 3 o.mats] (FCall.of_acall (fs := []) (cs := [.v (.pointer (some ⟨bm, 0, none⟩)), .v (.pointer (some ⟨by_, 0, none⟩))]) (sayW f ok I y hy 2 e1.o _ _ _ _ _ _ _ _ (hkx _ (by rw [hkl]; simp)) (at_get hk) rfl bm by_ _ _ (at_set (f := evRw) (A := ed) (a := (sv, { e1 with o := (f s1 2 e1.o).1 })) (B := er) hk rfl) hI))) rfl ?_)
            rintro _ _ ⟨_, L, rfl, rfl, hI⟩
            show aops _ _ _ _ _ _ ⟨_, .box b1 67 [.v (.pointer (some ⟨bh, 0, none⟩))] :: .box bh 28 (c0 :: c1 :: c2 :: c3 :: o.cells) :: .box bs 101 [.fn (.func 50) [] [.v (.pointer (some ⟨bm, 0, none⟩)), .v (.pointer (some ⟨by_, 0, none⟩))]] :: .box bm 4 [bv true] :: .box by_ 100 [y] :: .row o.vE.v 9 40 (ed.map evRw ++ ((sv, { e1 with o := (f s1 2 e1.o).1 }) :: er).map evRw) :: .row o.vR.v 2 54 (o.ords.map ordRw) :: .row o.vM.v 4 57 (o.mats.map matRw) :: .row o.vW.v 2 60 (o.wants.map wanR) :: (scR 52 ed ++ (scR 52 ((sv, e) :: er) ++ (otR 3 o.ords ++ (mtR 3 o.mats ++ L)))), _⟩
            have hrow := at_get (f := evRw) (A := ed) (B := er) (b := (sv, { e1 with o := (f s1 2 e1.o).1 })) hk
            have hk3 := at_len (f := evRw) (A := ed) (B := er) (b := (sv, { e1 with o := (f s1 2 e1.o).1 })) hk
            refine aops_nil (thn_n ?_)
            refine aw_region ?_
            refine qq rfl rfl (qr_move rfl) ?_
            refine qq rfl rfl (qr_move rfl) ?_
            first | refine qq rfl rfl (qr_nilCheck rfl) ?_ | refine qq rfl rfl (qr_nilCheck_pp rfl) ?_ | refine qq rfl rfl (qr_nilCheck_rp rfl) ?_
            first | refine qq rfl rfl (qr_fieldAddr rfl (Nat.succ_ne_zero _)) ?_ | refine qq rfl rfl (qr_fieldAddr_pp rfl (Nat.succ_ne_zero _)) ?_ | refine qq rfl rfl (qr_fieldAddr_rp rfl (Nat.succ_ne_zero _)) ?_ | refine qq rfl rfl (qr_fieldAddr_row rfl (Nat.succ_ne_zero _)) ?_
            refine aops_e rfl (oe_call rfl rfl (FCall.around [_, _] [_, _, _, _] [[.row o.vR.v 2 54 (o.ords.map ordRw), .row o.vM.v 4 57 (o.mats.map matRw), .row o.vW.v 2 60 (o.wants.map wanR)], scR 52 ed, scR 52 ((sv, e) :: er), otR 3 o.ords, mtR 3 o.mats] (FCall.of_acall (fs := []) (cs := [.v (.pointer (some ⟨bs, 0, none⟩))]) (madeW f ok I y hy e1.v (fun x hx => hkx x (by rw [hkl]; simp [hx])) _ _ _ _ _ _ _ _ (at_get hk) rfl rfl bs bm by_ _ _ (at_set (f := evRw) (A := ed) (a := (sv, (travKind f s1 e1).1)) (B := er) hk (by rw [hkt]; simp [evRw, travVer_k])) hI))) rfl ?_)
            rintro _ _ ⟨_, L, rfl, rfl, hI⟩
            show aops _ _ _ _ _ _ ⟨_, .box b1 67 [.v (.pointer (some ⟨bh, 0, none⟩))] :: .box bh 28 (c0 :: c1 :: c2 :: c3 :: o.cells) :: .box bs 101 [.fn (.func 50) [] [.v (.pointer (some ⟨bm, 0, none⟩)), .v (.pointer (some ⟨by_, 0, none⟩))]] :: .box bm 4 [bv true] :: .box by_ 100 [y] :: .row o.vE.v 9 40 (ed.map evRw ++ ((sv, (travKind f s1 e1).1) :: er).map evRw) :: .row o.vR.v 2 54 (o.ords.map ordRw) :: .row o.vM.v 4 57 (o.mats.map matRw) :: .row o.vW.v 2 60 (o.wants.map wanR) :: (scR 52 ed ++ (scR 52 ((sv, e) :: er) ++ (otR 3 o.ords ++ (mtR 3 o.mats ++ L)))), _⟩
            refine aops_nil ?_
            refine inBlk_n ?_
            refine thn_n ?_
            refine ⟨L, ?_, ?_⟩
            · show I (travKind f s1 e1).2 L
              rw [hkt]; exact hI
            · rw [hkt]; exact (ent_sub (.cons _ _ _ rfl (.cons _ _ _ rfl (.cons _ _ _ rfl (.cons _ _ _ rfl (.cons _ _ _ rfl (.cons _ _ _ rfl (.nil))))))))
          · first | cases hc47 | exact absurd hc47 (by decide) | (exfalso; simp_all; done)
        · have hn23 := hc47
          simp at hn23
          refine aw_region ?_
          refine qq rfl rfl (qr_cmp rfl rfl rfl) ?_
          refine qq rfl rfl (qr_assign rfl) ?_
          refine aops_nil (thn_n ?_)
          refine aw_cond rfl (fun hc47 => ?_) (fun hc47 => ?_)
          · have hk23 : e1.kind = 2 ∨ e1.kind = 3 := by simp at hc47; omega
            have hkt := travKind_2 f (s := s1) hk23
            have hkl := kindL_2 hk23
            refine aw_seq ?_
            refine aw_draw 4 rfl ?_
            first | refine dq rfl rfl (qr_load_one rfl rfl) ?_ | refine dq rfl rfl (qr_load_pp_one rfl rfl) ?_ | refine dq rfl rfl (qr_load_rp_one rfl (by assumption) rfl) ?_
            refine dq rfl rfl (qr_move rfl) ?_
            first | refine dq rfl rfl (qr_nilCheck rfl) ?_ | refine dq rfl rfl (qr_nilCheck_pp rfl) ?_ | refine dq rfl rfl (qr_nilCheck_rp rfl) ?_
            first | refine dq rfl rfl (qr_fieldAddr rfl (Nat.succ_ne_zero _)) ?_ | refine dq rfl rfl (qr_fieldAddr_pp rfl (Nat.succ_ne_zero _)) ?_ | refine dq rfl rfl (qr_fieldAddr_rp rfl (Nat.succ_ne_zero _)) ?_ | refine dq rfl rfl (qr_fieldAddr_row rfl (Nat.succ_ne_zero _)) ?_
            refine dnil ⟨rfl, ?_⟩
            refine dalloc_s rfl ?_
            refine dalloc_s rfl ?_
            refine dalloc_s rfl ?_
            refine dalloc_s rfl ?_
            refine dalloc_nil ?_
            refine aops_e rfl (oe_call rfl rfl (FCall.around [_, _, _] [_, _, _] [[.row o.vR.v 2 54 (o.ords.map ordRw), .row o.vM.v 4 57 (o.mats.map matRw), .row o.vW.v 2 60 (o.wants.map wanR)], scR 52 ed, scR 52 ((sv, e) :: er), otR 3 o.ords, mtR 3 o.mats] (FCall.of_acall (fs := []) (cs := [.v (.pointer (some ⟨bm, 0, none⟩)), .v (.pointer (some ⟨by_, 0, none⟩))]) (sayW f ok I y hy 2 e1.o _ _ _ _ _ _ _ _ (hkx _ (by rw [hkl]; simp)) (at_get hk) rfl bm by_ _ _ (at_set (f := evRw) (A := ed) (a := (sv, { e1 with o := (f s1 2 e1.o).1 })) (B := er) hk rfl) hI))) rfl ?_)
            rintro _ _ ⟨_, L, rfl, rfl, hI⟩
            show aops _ _ _ _ _ _ ⟨_, .box b1 67 [.v (.pointer (some ⟨bh, 0, none⟩))] :: .box bh 28 (c0 :: c1 :: c2 :: c3 :: o.cells) :: .box bs 101 [.fn (.func 50) [] [.v (.pointer (some ⟨bm, 0, none⟩)), .v (.pointer (some ⟨by_, 0, none⟩))]] :: .box bm 4 [bv true] :: .box by_ 100 [y] :: .row o.vE.v 9 40 (ed.map evRw ++ ((sv, { e1 with o := (f s1 2 e1.o).1 }) :: er).map evRw) :: .row o.vR.v 2 54 (o.ords.map ordRw) :: .row o.vM.v 4 57 (o.mats.map matRw) :: .row o.vW.v 2 60 (o.wants.map wanR) :: (scR 52 ed ++ (scR 52 ((sv, e) :: er) ++ (otR 3 o.ords ++ (mtR 3 o.mats ++ L)))), _⟩
            have hrow := at_get (f := evRw) (A := ed) (B := er) (b := (sv, { e1 with o := (f s1 2 e1.o).1 })) hk
            have hk3 := at_len (f := evRw) (A := ed) (B := er) (b := (sv, { e1 with o := (f s1 2 e1.o).1 })) hk
            refine aops_nil (thn_n ?_)
            refine aw_region ?_
            refine qq rfl rfl (qr_move rfl) ?_
            refine qq rfl rfl (qr_move rfl) ?_
            first | refine qq rfl rfl (qr_nilCheck rfl) ?_ | refine qq rfl rfl (qr_nilCheck_pp rfl) ?_ | refine qq rfl rfl (qr_nilCheck_rp rfl) ?_
            first | refine qq rfl rfl (qr_fieldAddr rfl (Nat.succ_ne_zero _)) ?_ | refine qq rfl rfl (qr_fieldAddr_pp rfl (Nat.succ_ne_zero _)) ?_ | refine qq rfl rfl (qr_fieldAddr_rp rfl (Nat.succ_ne_zero _)) ?_ | refine qq rfl rfl (qr_fieldAddr_row rfl (Nat.succ_ne_zero _)) ?_
            refine aops_e rfl (oe_call rfl rfl (FCall.around [_, _] [_, _, _, _] [[.row o.vR.v 2 54 (o.ords.map ordRw), .row o.vM.v 4 57 (o.mats.map matRw), .row o.vW.v 2 60 (o.wants.map wanR)], scR 52 ed, scR 52 ((sv, e) :: er), otR 3 o.ords, mtR 3 o.mats] (FCall.of_acall (fs := []) (cs := [.v (.pointer (some ⟨bs, 0, none⟩))]) (madeW f ok I y hy e1.v (fun x hx => hkx x (by rw [hkl]; simp [hx])) _ _ _ _ _ _ _ _ (at_get hk) rfl rfl bs bm by_ _ _ (at_set (f := evRw) (A := ed) (a := (sv, (travKind f s1 e1).1)) (B := er) hk (by rw [hkt]; simp [evRw, travVer_k])) hI))) rfl ?_)
            rintro _ _ ⟨_, L, rfl, rfl, hI⟩
            show aops _ _ _ _ _ _ ⟨_, .box b1 67 [.v (.pointer (some ⟨bh, 0, none⟩))] :: .box bh 28 (c0 :: c1 :: c2 :: c3 :: o.cells) :: .box bs 101 [.fn (.func 50) [] [.v (.pointer (some ⟨bm, 0, none⟩)), .v (.pointer (some ⟨by_, 0, none⟩))]] :: .box bm 4 [bv true] :: .box by_ 100 [y] :: .row o.vE.v 9 40 (ed.map evRw ++ ((sv, (travKind f s1 e1).1) :: er).map evRw) :: .row o.vR.v 2 54 (o.ords.map ordRw) :: .row o.vM.v 4 57 (o.mats.map matRw) :: .row o.vW.v 2 60 (o.wants.map wanR) :: (scR 52 ed ++ (scR 52 ((sv, e) :: er) ++ (otR 3 o.ords ++ (mtR 3 o.mats ++ L)))), _⟩
            refine aops_nil ?_
            refine inBlk_n ?_
            refine thn_n ?_
            refine ⟨L, ?_, ?_⟩
            · show I (travKind f s1 e1).2 L
              rw [hkt]; exact hI
            · rw [hkt]; exact (ent_sub (.cons _ _ _ rfl (.cons _ _ _ rfl (.cons _ _ _ rfl (.cons _ _ _ rfl (.cons _ _ _ rfl (.cons _ _ _ rfl (.nil))))))))
          · have hn23 := hc47
            simp at hn23
            refine aw_seq (aw_region ?_)
            refine qq rfl rfl (qr_cmp rfl rfl rfl) ?_
            refine qq rfl rfl (qr_assign rfl) ?_
            refine aops_nil (thn_n ?_)
            refine aw_cond rfl (fun hc60 => ?_) (fun hc60 => ?_)
            · have hkt := travKind_4 f (s := s1) (e := e1) (by simpa using hc60)
              have hkl := kindL_4 (e := e1) (by simpa using hc60)
              refine aw_draw 4 rfl ?_
              first | refine dq rfl rfl (qr_load_one rfl rfl) ?_ | refine dq rfl rfl (qr_load_pp_one rfl rfl) ?_ | refine dq rfl rfl (qr_load_rp_one rfl (by assumption) rfl) ?_
              refine dq rfl rfl (qr_move rfl) ?_
              first | refine dq rfl rfl (qr_nilCheck rfl) ?_ | refine dq rfl rfl (qr_nilCheck_pp rfl) ?_ | refine dq rfl rfl (qr_nilCheck_rp rfl) ?_
              first | refine dq rfl rfl (qr_fieldAddr rfl (Nat.succ_ne_zero _)) ?_ | refine dq rfl rfl (qr_fieldAddr_pp rfl (Nat.succ_ne_zero _)) ?_ | refine dq rfl rfl (qr_fieldAddr_rp rfl (Nat.succ_ne_zero _)) ?_ | refine dq rfl rfl (qr_fieldAddr_row rfl (Nat.succ_ne_zero _)) ?_
              refine dnil ⟨rfl, ?_⟩
              refine dalloc_s rfl ?_
              refine dalloc_s rfl ?_
              refine dalloc_s rfl ?_
              refine dalloc_s rfl ?_
              refine dalloc_nil ?_
              refine aops_e rfl (oe_call rfl rfl (FCall.around [_, _, _] [_, _, _] [[.row o.vR.v 2 54 (o.ords.map ordRw), .row o.vM.v 4 57 (o.mats.map matRw), .row o.vW.v 2 60 (o.wants.map wanR)], scR 52 ed, scR 52 ((sv, e) :: er), otR 3 o.ords, mtR 3 o.mats] (FCall.of_acall (fs := []) (cs := [.v (.pointer (some ⟨bm, 0, none⟩)), .v (.pointer (some ⟨by_, 0, none⟩))]) (sayW f ok I y hy 3 e1.p _ _ _ _ _ _ _ _ (hkx _ (by rw [hkl]; simp)) (at_get hk) rfl bm by_ _ _ (at_set (f := evRw) (A := ed) (a := (sv, (travKind f s1 e1).1)) (B := er) hk (by rw [hkt]; rfl)) hI))) rfl ?_)
              rintro _ _ ⟨_, L, rfl, rfl, hI⟩
              show aops _ _ _ _ _ _ ⟨_, .box b1 67 [.v (.pointer (some ⟨bh, 0, none⟩))] :: .box bh 28 (c0 :: c1 :: c2 :: c3 :: o.cells) :: .box bs 101 [.fn (.func 50) [] [.v (.pointer (some ⟨bm, 0, none⟩)), .v (.pointer (some ⟨by_, 0, none⟩))]] :: .box bm 4 [bv true] :: .box by_ 100 [y] :: .row o.vE.v 9 40 (ed.map evRw ++ ((sv, (travKind f s1 e1).1) :: er).map evRw) :: .row o.vR.v 2 54 (o.ords.map ordRw) :: .row o.vM.v 4 57 (o.mats.map matRw) :: .row o.vW.v 2 60 (o.wants.map wanR) :: (scR 52 ed ++ (scR 52 ((sv, e) :: er) ++ (otR 3 o.ords ++ (mtR 3 o.mats ++ L)))), _⟩
              refine aops_nil ?_
              refine inBlk_n ?_
              refine thn_n ?_
              refine ⟨L, ?_, ?_⟩
              · show I (travKind f s1 e1).2 L
                rw [hkt]; exact hI
              · rw [hkt]; exact (ent_sub (.cons _ _ _ rfl (.cons _ _ _ rfl (.cons _ _ _ rfl (.cons _ _ _ rfl (.cons _ _ _ rfl (.cons _ _ _ rfl (.nil))))))))
            · have hn4 : e1.kind ≠ 4 := by simpa using hc60
              have hkt := travKind_0 f (s := s1) (e := e1) hn1 (by omega) (by omega) hn4
              refine aw_skip ?_
              refine inBlk_n ?_
              refine thn_n ?_
              refine ⟨L, ?_, ?_⟩
              · show I (travKind f s1 e1).2 L
                rw [hkt]; exact hI
              · rw [hkt]; exact (ent_sub (.cons _ _ _ rfl (.cons _ _ _ rfl (.cons _ _ _ rfl (.cons _ _ _ rfl (.cons _ _ _ rfl (.cons _ _ _ rfl (.nil))))))))
    · rintro L hI
      obtain ⟨e2, he2⟩ : ∃ e2, e2 = (travKind f s1 e1).1 := ⟨_, rfl⟩
      obtain ⟨s2, hs2⟩ : ∃ s2, s2 = (travKind f s1 e1).2 := ⟨_, rfl⟩
      rw [← he2]
      rw [← hs2] at hI
      have hin : ∀ z ∈ e.scan, ∀ w ∈ seenL z, ok w := fun z hz w hw => hq w (by simp only [evL, List.mem_cons, List.mem_append, List.mem_flatMap]; exact .inr (.inr ⟨z, hz, hw⟩))
      refine aw_ent (s' := ⟨[(7, .rp o.vE.v 9 k 0), (22, iv k), (21, iv (o.evs.map evRw).length), (1, .v (.pointer (some ⟨b1, 0, none⟩))), (4, .v (.pointer (some ⟨bs, 0, none⟩))), (5, .fn (.func 51) [] [.v (.pointer (some ⟨bs, 0, none⟩))])], .row o.vE.v 9 40 (ed.map evRw ++ ((sv, e2) :: er).map evRw) :: .box b1 67 [.v (.pointer (some ⟨bh, 0, none⟩))] :: .box bh 28 (c0 :: c1 :: c2 :: c3 :: o.cells) :: .box bs 101 [.fn (.func 50) [] [.v (.pointer (some ⟨bm, 0, none⟩)), .v (.pointer (some ⟨by_, 0, none⟩))]] :: .box bm 4 [bv true] :: .box by_ 100 [y] :: .row sv.v 3 52 (e.scan.map seenR) :: .row o.vR.v 2 54 (o.ords.map ordRw) :: .row o.vM.v 4 57 (o.mats.map matRw) :: .row o.vW.v 2 60 (o.wants.map wanR) :: (scR 52 ed ++ (scR 52 er ++ (otR 3 o.ords ++ (mtR 3 o.mats ++ L)))), []⟩) (ent_pcs (l1 := [[.box b1 67 [.v (.pointer (some ⟨bh, 0, none⟩))], .box bh 28 (c0 :: c1 :: c2 :: c3 :: o.cells), .box bs 101 [.fn (.func 50) [] [.v (.pointer (some ⟨bm, 0, none⟩)), .v (.pointer (some ⟨by_, 0, none⟩))]]], [.box bm 4 [bv true], .box by_ 100 [y]], [.row o.vE.v 9 40 (ed.map evRw ++ ((sv, e2) :: er).map evRw)], [.row o.vR.v 2 54 (o.ords.map ordRw), .row o.vM.v 4 57 (o.mats.map matRw), .row o.vW.v 2 60 (o.wants.map wanR)], scR 52 ed, [.row sv.v 3 52 (e.scan.map seenR)], scR 52 er, otR 3 o.ords, mtR 3 o.mats]) (l2 := [[.row o.vE.v 9 40 (ed.map evRw ++ ((sv, e2) :: er).map evRw)], [.box b1 67 [.v (.pointer (some ⟨bh, 0, none⟩))], .box bh 28 (c0 :: c1 :: c2 :: c3 :: o.cells), .box bs 101 [.fn (.func 50) [] [.v (.pointer (some ⟨bm, 0, none⟩)), .v (.pointer (some ⟨by_, 0, none⟩))]]], [.box bm 4 [bv true], .box by_ 100 [y]], [.row sv.v 3 52 (e.scan.map seenR)], [.row o.vR.v 2 54 (o.ords.map ordRw), .row o.vM.v 4 57 (o.mats.map matRw), .row o.vW.v 2 60 (o.wants.map wanR)], scR 52 ed, scR 52 er, otR 3 o.ords, mtR 3 o.mats]) ((pt2 _ _ _ _).trans (.cons _ (.cons _ (.cons _ (pt2 _ _ _ _)))))) ?_
      have hrow := at_get (f := evRw) (A := ed) (B := er) (b := (sv, e2)) hk
      have hk3 := at_len (f := evRw) (A := ed) (B := er) (b := (sv, e2)) hk
      refine aw_seq (aw_region ?_)
      refine qq rfl rfl (qr_move rfl) ?_
      first | refine qq rfl rfl (qr_nilCheck rfl) ?_ | refine qq rfl rfl (qr_nilCheck_pp rfl) ?_ | refine qq rfl rfl (qr_nilCheck_rp rfl) ?_
      first | refine qq rfl rfl (qr_fieldAddr rfl (Nat.succ_ne_zero _)) ?_ | refine qq rfl rfl (qr_fieldAddr_pp rfl (Nat.succ_ne_zero _)) ?_ | refine qq rfl rfl (qr_fieldAddr_rp rfl (Nat.succ_ne_zero _)) ?_ | refine qq rfl rfl (qr_fieldAddr_row rfl (Nat.succ_ne_zero _)) ?_
      first | refine qq rfl rfl (qr_load_one rfl rfl) ?_ | refine qq rfl rfl (qr_load_pp_one rfl rfl) ?_ | refine qq rfl rfl (qr_load_rp_one rfl (by assumption) rfl) ?_
      first | refine qq rfl rfl (qr_len_list rfl) ?_ | refine qq rfl rfl (qr_len_row rfl) ?_
      refine qq rfl rfl (qr_move rfl) ?_
      refine aops_nil (thn_n ?_)
      refine aw_block ?_
      refine aw_loop' (fun x : Nat × List Seen × List Seen × σ × List Res => x.2.1.length = x.1 ∧ x.1 + x.2.2.1.length = e.scan.length ∧ Went (travSeen f) (travL (travSeen f) s2 e.scan) x.2.1 x.2.2.2.1 x.2.2.1 ∧ (∀ z ∈ x.2.2.1, ∀ w ∈ seenL z, ok w) ∧ I x.2.2.2.1 x.2.2.2.2) (fun x => ⟨[(72, iv x.1), (71, iv (e.scan.map seenR).length), (7, .rp o.vE.v 9 k 0), (22, iv k), (21, iv (o.evs.map evRw).length), (1, .v (.pointer (some ⟨b1, 0, none⟩))), (4, .v (.pointer (some ⟨bs, 0, none⟩))), (5, .fn (.func 51) [] [.v (.pointer (some ⟨bs, 0, none⟩))])], .row o.vE.v 9 40 (ed.map evRw ++ ((sv, e2) :: er).map evRw) :: .box b1 67 [.v (.pointer (some ⟨bh, 0, none⟩))] :: .box bh 28 (c0 :: c1 :: c2 :: c3 :: o.cells) :: .box bs 101 [.fn (.func 50) [] [.v (.pointer (some ⟨bm, 0, none⟩)), .v (.pointer (some ⟨by_, 0, none⟩))]] :: .box bm 4 [bv true] :: .box by_ 100 [y] :: .row sv.v 3 52 (x.2.1.map seenR ++ x.2.2.1.map seenR) :: .row o.vR.v 2 54 (o.ords.map ordRw) :: .row o.vM.v 4 57 (o.mats.map matRw) :: .row o.vW.v 2 60 (o.wants.map wanR) :: (scR 52 ed ++ (scR 52 er ++ (otR 3 o.ords ++ (mtR 3 o.mats ++ x.2.2.2.2)))), []⟩) (fun x => x.2.2.1.length) (0, [], e.scan, s2, L) ⟨rfl, by simp, .start, hin, hI⟩
        (ent_sub (.cons _ _ _ rfl (.cons _ _ _ rfl (.cons _ _ _ rfl (.cons _ _ _ rfl (.cons _ _ _ rfl (.cons _ _ _ rfl (.cons _ _ _ rfl (.cons _ _ _ rfl (.nil)))))))))) ?_
      rintro ⟨j, sd, sr, u, L⟩ ⟨hj, hjn, hws, hsk, hI⟩
      simp only at hj hjn hws hsk hI
      refine aw_seq (aw_region ?_)
      refine qq rfl rfl (qr_cmp rfl rfl rfl) ?_
      refine aops_nil (thn_n ?_)
      refine aw_seq ?_
      refine aw_cond rfl (fun hc73 => ?_) (fun hc73 => ?_)
      · have hk2 : j < e.scan.length := by simpa using hc73
        obtain ⟨x, sr, rfl⟩ : ∃ p r, sr = p :: r := by
          cases sr with
          | nil => simp at hjn; omega
          | cons p r => exact ⟨p, r, rfl⟩
        obtain ⟨hx, hsk⟩ := List.forall_mem_cons.1 hsk
        simp only [List.length_cons] at hjn
        have hrowx := at_get (f := seenR) (A := sd) (B := sr) (b := x) hj
        have hkx3 := at_len (f := seenR) (A := sd) (B := sr) (b := x) hj
        refine aw_skip ?_
        refine thn_n ?_
        refine aw_seq ?_
        refine aw_block ?_
        refine aw_seq (aw_region ?_)
        refine qq rfl rfl (qr_move rfl) ?_
        refine qq rfl rfl (qr_assign rfl) ?_
        refine aops_nil (thn_n ?_)
        refine aw_seq ?_
        refine aw_draw 8 rfl ?_
        first | refine dq rfl rfl (qr_load_one rfl rfl) ?_ | refine dq rfl rfl (qr_load_pp_one rfl rfl) ?_ | refine dq rfl rfl (qr_load_rp_one rfl (by assumption) rfl) ?_
        refine dq rfl rfl (qr_move rfl) ?_
        first | refine dq rfl rfl (qr_nilCheck rfl) ?_ | refine dq rfl rfl (qr_nilCheck_pp rfl) ?_ | refine dq rfl rfl (qr_nilCheck_rp rfl) ?_
        first | refine dq rfl rfl (qr_fieldAddr rfl (Nat.succ_ne_zero _)) ?_ | refine dq rfl rfl (qr_fieldAddr_pp rfl (Nat.succ_ne_zero _)) ?_ | refine dq rfl rfl (qr_fieldAddr_rp rfl (Nat.succ_ne_zero _)) ?_ | refine dq rfl rfl (qr_fieldAddr_row rfl (Nat.succ_ne_zero _)) ?_
        first | refine dq rfl rfl (qr_load_one rfl rfl) ?_ | refine dq rfl rfl (qr_load_pp_one rfl rfl) ?_ | refine dq rfl rfl (qr_load_rp_one rfl (by assumption) rfl) ?_
        refine dq rfl rfl (qr_move rfl) ?_
        first | refine dq rfl rfl (qr_index_list rfl rfl (by assumption)) ?_ | refine dq rfl rfl (qr_index_row rfl rfl (by assumption)) ?_
        first | refine dq rfl rfl (qr_fieldAddr rfl (Nat.succ_ne_zero _)) ?_ | refine dq rfl rfl (qr_fieldAddr_pp rfl (Nat.succ_ne_zero _)) ?_ | refine dq rfl rfl (qr_fieldAddr_rp rfl (Nat.succ_ne_zero _)) ?_ | refine dq rfl rfl (qr_fieldAddr_row rfl (Nat.succ_ne_zero _)) ?_
        refine dnil ⟨rfl, ?_⟩
        refine dalloc_s rfl ?_
        refine dalloc_s rfl ?_
        refine dalloc_s rfl ?_
        refine dalloc_s rfl ?_
        refine dalloc_s rfl ?_
        refine dalloc_s rfl ?_
        refine dalloc_s rfl ?_
        refine dalloc_s rfl ?_
        refine dalloc_nil ?_
        obtain ⟨x1, hx1⟩ : ∃ x1 : Seen, x1 = { x with o := (f u 2 x.o).1 } := ⟨_, rfl⟩
        refine aops_e rfl (oe_call rfl rfl (FCall.around [_, _, _, _] [_, _, _] [[.row o.vR.v 2 54 (o.ords.map ordRw), .row o.vM.v 4 57 (o.mats.map matRw), .row o.vW.v 2 60 (o.wants.map wanR)], scR 52 ed, scR 52 er, otR 3 o.ords, mtR 3 o.mats] (FCall.of_acall (fs := []) (cs := [.v (.pointer (some ⟨bm, 0, none⟩)), .v (.pointer (some ⟨by_, 0, none⟩))]) (sayW f ok I y hy 2 x.o _ _ _ _ _ _ _ _ (hx _ (by simp [seenL])) (at_get hj) rfl bm by_ _ _ (at_set (f := seenR) (A := sd) (a := x1) (B := sr) hj (by rw [hx1]; rfl)) hI))) rfl ?_)
        rintro _ _ ⟨_, L, rfl, rfl, hI⟩
        show aops _ _ _ _ _ _ ⟨_, .row o.vE.v 9 40 (ed.map evRw ++ ((sv, e2) :: er).map evRw) :: .box b1 67 [.v (.pointer (some ⟨bh, 0, none⟩))] :: .box bh 28 (c0 :: c1 :: c2 :: c3 :: o.cells) :: .box bs 101 [.fn (.func 50) [] [.v (.pointer (some ⟨bm, 0, none⟩)), .v (.pointer (some ⟨by_, 0, none⟩))]] :: .box bm 4 [bv true] :: .box by_ 100 [y] :: .row sv.v 3 52 (sd.map seenR ++ (x1 :: sr).map seenR) :: .row o.vR.v 2 54 (o.ords.map ordRw) :: .row o.vM.v 4 57 (o.mats.map matRw) :: .row o.vW.v 2 60 (o.wants.map wanR) :: (scR 52 ed ++ (scR 52 er ++ (otR 3 o.ords ++ (mtR 3 o.mats ++ L)))), _⟩
        have hrowx := at_get (f := seenR) (A := sd) (B := sr) (b := x1) hj
        have hkx3 := at_len (f := seenR) (A := sd) (B := sr) (b := x1) hj
        refine aops_nil (thn_n ?_)
        refine aw_region ?_
        refine qq rfl rfl (qr_move rfl) ?_
        refine qq rfl rfl (qr_move rfl) ?_
        first | refine qq rfl rfl (qr_nilCheck rfl) ?_ | refine qq rfl rfl (qr_nilCheck_pp rfl) ?_ | refine qq rfl rfl (qr_nilCheck_rp rfl) ?_
        first | refine qq rfl rfl (qr_fieldAddr rfl (Nat.succ_ne_zero _)) ?_ | refine qq rfl rfl (qr_fieldAddr_pp rfl (Nat.succ_ne_zero _)) ?_ | refine qq rfl rfl (qr_fieldAddr_rp rfl (Nat.succ_ne_zero _)) ?_ | refine qq rfl rfl (qr_fieldAddr_row rfl (Nat.succ_ne_zero _)) ?_
        first | refine qq rfl rfl (qr_load_one rfl rfl) ?_ | refine qq rfl rfl (qr_load_pp_one rfl rfl) ?_ | refine qq rfl rfl (qr_load_rp_one rfl (by assumption) rfl) ?_
        refine qq rfl rfl (qr_move rfl) ?_
        first | refine qq rfl rfl (qr_index_list rfl rfl (by assumption)) ?_ | refine qq rfl rfl (qr_index_row rfl rfl (by assumption)) ?_
        first | refine qq rfl rfl (qr_fieldAddr rfl (Nat.succ_ne_zero _)) ?_ | refine qq rfl rfl (qr_fieldAddr_pp rfl (Nat.succ_ne_zero _)) ?_ | refine qq rfl rfl (qr_fieldAddr_rp rfl (Nat.succ_ne_zero _)) ?_ | refine qq rfl rfl (qr_fieldAddr_row rfl (Nat.succ_ne_zero _)) ?_
        refine aops_e rfl (oe_call rfl rfl (FCall.around [_, _, _] [_, _, _, _] [[.row o.vR.v 2 54 (o.ords.map ordRw), .row o.vM.v 4 57 (o.mats.map matRw), .row o.vW.v 2 60 (o.wants.map wanR)], scR 52 ed, scR 52 er, otR 3 o.ords, mtR 3 o.mats] (FCall.of_acall (fs := []) (cs := [.v (.pointer (some ⟨bs, 0, none⟩))]) (madeW f ok I y hy x1.v (fun w hw => hx w (by rw [hx1] at hw; simp [seenL, hw])) _ _ _ _ _ _ _ _ (at_get hj) rfl rfl bs bm by_ _ _ (at_set (f := seenR) (A := sd) (a := (travSeen f u x).1) (B := sr) hj (by rw [hx1]; simp [seenR, travSeen, travVer_k])) hI))) rfl ?_)
        rintro _ _ ⟨_, L, rfl, rfl, hI⟩
        show aops _ _ _ _ _ _ ⟨_, .row o.vE.v 9 40 (ed.map evRw ++ ((sv, e2) :: er).map evRw) :: .box b1 67 [.v (.pointer (some ⟨bh, 0, none⟩))] :: .box bh 28 (c0 :: c1 :: c2 :: c3 :: o.cells) :: .box bs 101 [.fn (.func 50) [] [.v (.pointer (some ⟨bm, 0, none⟩)), .v (.pointer (some ⟨by_, 0, none⟩))]] :: .box bm 4 [bv true] :: .box by_ 100 [y] :: .row sv.v 3 52 (sd.map seenR ++ ((travSeen f u x).1 :: sr).map seenR) :: .row o.vR.v 2 54 (o.ords.map ordRw) :: .row o.vM.v 4 57 (o.mats.map matRw) :: .row o.vW.v 2 60 (o.wants.map wanR) :: (scR 52 ed ++ (scR 52 er ++ (otR 3 o.ords ++ (mtR 3 o.mats ++ L)))), _⟩
        replace hI : I (travSeen f u x).2 L := by rw [hx1] at hI; exact hI
        refine aops_nil ?_
        refine inBlk_n ?_
        refine thn_n ?_
        refine aw_region ?_
        refine qq rfl rfl (qr_ari rfl rfl rfl (by omega)) ?_
        refine qq rfl rfl (qr_move rfl) ?_
        refine aops_nil (thn_n ?_)
        exact ⟨(j + 1, sd ++ [(travSeen f u x).1], sr, _, L), ⟨by simp [hj], by simp only; omega, hws.step, hsk, hI⟩, (by rw [at_next (f := seenR) (A := sd) (b := (travSeen f u x).1) (B := sr)]; exact (ent_sub (.cons _ _ _ rfl (.cons _ _ _ rfl (.cons _ _ _ rfl (.cons _ _ _ rfl (.cons _ _ _ rfl (.cons _ _ _ rfl (.cons _ _ _ rfl (.cons _ _ _ rfl (.nil))))))))))), by simp⟩
      · have hk2 : ¬ j < e.scan.length := by simpa using hc73
        obtain rfl : sr = [] := by
          cases sr with
          | nil => rfl
          | cons p r => simp at hjn; omega
        have hfin := hws.fin
        refine aw_exit ?_
        refine thn_e ?_
        refine thn_e ?_
        refine inBlk_hit ?_
        refine inBlk_n ?_
        refine thn_n ?_
        refine aw_region ?_
        refine qq rfl rfl (qr_ari rfl rfl rfl (by omega)) ?_
        refine qq rfl rfl (qr_move rfl) ?_
        refine aops_nil (thn_n ?_)
        have hev := travEv_eq f (s := sa) (e := e) (sc := sd) (s' := u) (by rw [← hs1, ← he1, ← hs2]; exact hfin)
        rw [← hs1, ← he1, ← he2] at hev
        have hw2 := Went.step (x := e) (rest := er.map (·.2)) hw
        rw [hev] at hw2
        have hE : (ed ++ [(sv, { e2 with scan := sd })]).map evRw ++ er.map evRw = ed.map evRw ++ ((sv, e2) :: er).map evRw := by rw [← at_next]; rfl
        exact ⟨(k + 1, ed ++ [(sv, { e2 with scan := sd })], er, u, L), ⟨by simp [hk], by simp only; omega, by rw [List.map_append]; exact hw2, hok, hI⟩, (by simp only [hE, scR_snoc, List.append_assoc, List.map_nil, List.append_nil]; exact ent_trans (ent_pcs (l1 := [[.row o.vE.v 9 40 (ed.map evRw ++ ((sv, e2) :: er).map evRw)], [.box b1 67 [.v (.pointer (some ⟨bh, 0, none⟩))], .box bh 28 (c0 :: c1 :: c2 :: c3 :: o.cells), .box bs 101 [.fn (.func 50) [] [.v (.pointer (some ⟨bm, 0, none⟩)), .v (.pointer (some ⟨by_, 0, none⟩))]]], [.box bm 4 [bv true], .box by_ 100 [y]], [.row sv.v 3 52 (sd.map seenR)], [.row o.vR.v 2 54 (o.ords.map ordRw), .row o.vM.v 4 57 (o.mats.map matRw), .row o.vW.v 2 60 (o.wants.map wanR)], scR 52 ed, scR 52 er, otR 3 o.ords, mtR 3 o.mats]) (l2 := [[.box b1 67 [.v (.pointer (some ⟨bh, 0, none⟩))], .box bh 28 (c0 :: c1 :: c2 :: c3 :: o.cells), .box bs 101 [.fn (.func 50) [] [.v (.pointer (some ⟨bm, 0, none⟩)), .v (.pointer (some ⟨by_, 0, none⟩))]]], [.box bm 4 [bv true], .box by_ 100 [y]], [.row o.vE.v 9 40 (ed.map evRw ++ ((sv, e2) :: er).map evRw)], [.row o.vR.v 2 54 (o.ords.map ordRw), .row o.vM.v 4 57 (o.mats.map matRw), .row o.vW.v 2 60 (o.wants.map wanR)], scR 52 ed, [.row sv.v 3 52 (sd.map seenR)], scR 52 er, otR 3 o.ords, mtR 3 o.mats]) ((pt1 _ _ _).trans (.cons _ ((pt1 _ _ _).trans (.cons _ (.cons _ ((pt1 _ _ _).trans (.cons _ (pt1 _ _ _))))))))) (ent_sub (.cons _ _ _ rfl (.cons _ _ _ rfl (.cons _ _ _ rfl (.cons _ _ _ rfl (.cons _ _ _ rfl (.nil)))))))), by simp⟩
  · have hk2 : ¬ k < o.evs.length := by simpa using hc23
    obtain rfl : er = [] := by
      cases er with
      | nil => rfl
      | cons p r => simp at hn; omega
    have hfE := hw.fin
    refine aw_exit ?_
    refine thn_e ?_
    refine thn_e ?_
    refine inBlk_hit ?_
    refine thn_n ?_
    refine aw_seq ?_
    refine aw_seq (aw_region ?_)
    first | refine qq rfl rfl (qr_load_one rfl rfl) ?_ | refine qq rfl rfl (qr_load_pp_one rfl rfl) ?_ | refine qq rfl rfl (qr_load_rp_one rfl (by assumption) rfl) ?_
    first | refine qq rfl rfl (qr_nilCheck rfl) ?_ | refine qq rfl rfl (qr_nilCheck_pp rfl) ?_ | refine qq rfl rfl (qr_nilCheck_rp rfl) ?_
    first | refine qq rfl rfl (qr_fieldAddr rfl (Nat.succ_ne_zero _)) ?_ | refine qq rfl rfl (qr_fieldAddr_pp rfl (Nat.succ_ne_zero _)) ?_ | refine qq rfl rfl (qr_fieldAddr_rp rfl (Nat.succ_ne_zero _)) ?_ | refine qq rfl rfl (qr_fieldAddr_row rfl (Nat.succ_ne_zero _)) ?_
    first | refine qq rfl rfl (qr_load_one rfl rfl) ?_ | refine qq rfl rfl (qr_load_pp_one rfl rfl) ?_ | refine qq rfl rfl (qr_load_rp_one rfl (by assumption) rfl) ?_
    first | refine qq rfl rfl (qr_len_list rfl) ?_ | refine qq rfl rfl (qr_len_row rfl) ?_
    refine qq rfl rfl (qr_move rfl) ?_
    refine aops_nil (thn_n ?_)
    refine aw_block ?_
    refine aw_loop' (fun x : Nat × List (SV × H.Ord) × List (SV × H.Ord) × σ × List Res => x.2.1.length = x.1 ∧ x.1 + x.2.2.1.length = o.ords.length ∧ Went (travOrd f) (travL (travOrd f) sa (o.ords.map (·.2))) (x.2.1.map (·.2)) x.2.2.2.1 (x.2.2.1.map (·.2)) ∧ (∀ q ∈ x.2.2.1, (∀ z ∈ ordL q.2, ok z) ∧ q.2.ts.length ≤ 4611686018427387904) ∧ I x.2.2.2.1 x.2.2.2.2) (fun x => ⟨[(100, iv x.1), (99, iv (o.ords.map ordRw).length), (1, .v (.pointer (some ⟨b1, 0, none⟩))), (4, .v (.pointer (some ⟨bs, 0, none⟩))), (5, .fn (.func 51) [] [.v (.pointer (some ⟨bs, 0, none⟩))])], .box b1 67 [.v (.pointer (some ⟨bh, 0, none⟩))] :: .box bh 28 (c0 :: c1 :: c2 :: c3 :: o.cells) :: .box bs 101 [.fn (.func 50) [] [.v (.pointer (some ⟨bm, 0, none⟩)), .v (.pointer (some ⟨by_, 0, none⟩))]] :: .box bm 4 [bv true] :: .box by_ 100 [y] :: .row o.vR.v 2 54 (x.2.1.map ordRw ++ x.2.2.1.map ordRw) :: .row o.vE.v 9 40 (ed.map evRw) :: .row o.vM.v 4 57 (o.mats.map matRw) :: .row o.vW.v 2 60 (o.wants.map wanR) :: (scR 52 ed ++ (otR 3 x.2.1 ++ (otR 3 x.2.2.1 ++ (mtR 3 o.mats ++ x.2.2.2.2)))), []⟩) (fun x => x.2.2.1.length) (0, [], o.ords, sa, L) ⟨rfl, by simp, .start, fun q hq => ⟨fun z hz => hok0 z (by simp only [spokenL, OH.hist, List.mem_append, List.mem_flatMap, List.mem_map]; exact (.inr (.inl ⟨q.2, ⟨q, hq, rfl⟩, hz⟩))), la.ordts q.2 (by simp only [OH.hist, List.mem_map]; exact ⟨q, hq, rfl⟩)⟩, hI⟩
      (by simp only [List.map_nil, List.append_nil]; exact ent_trans (ent_pcs (l1 := [[.box b1 67 [.v (.pointer (some ⟨bh, 0, none⟩))], .box bh 28 (c0 :: c1 :: c2 :: c3 :: o.cells), .box bs 101 [.fn (.func 50) [] [.v (.pointer (some ⟨bm, 0, none⟩)), .v (.pointer (some ⟨by_, 0, none⟩))]]], [.box bm 4 [bv true], .box by_ 100 [y]], [.row o.vE.v 9 40 (ed.map evRw)], [.row o.vR.v 2 54 (o.ords.map ordRw)], [.row o.vM.v 4 57 (o.mats.map matRw), .row o.vW.v 2 60 (o.wants.map wanR)], scR 52 ed, otR 3 o.ords, mtR 3 o.mats]) (l2 := [[.box b1 67 [.v (.pointer (some ⟨bh, 0, none⟩))], .box bh 28 (c0 :: c1 :: c2 :: c3 :: o.cells), .box bs 101 [.fn (.func 50) [] [.v (.pointer (some ⟨bm, 0, none⟩)), .v (.pointer (some ⟨by_, 0, none⟩))]]], [.box bm 4 [bv true], .box by_ 100 [y]], [.row o.vR.v 2 54 (o.ords.map ordRw)], [.row o.vE.v 9 40 (ed.map evRw)], [.row o.vM.v 4 57 (o.mats.map matRw), .row o.vW.v 2 60 (o.wants.map wanR)], scR 52 ed, otR 3 o.ords, mtR 3 o.mats]) (.cons _ (.cons _ (pt1 _ _ _)))) (ent_sub (.cons _ _ _ rfl (.cons _ _ _ rfl (.cons _ _ _ rfl (.cons _ _ _ rfl (.cons _ _ _ rfl (.nil)))))))) ?_
    rintro ⟨k, od, or_, sb, L⟩ ⟨hk, hn, hw, hok, hI⟩
    simp only at hk hn hw hok hI
    refine aw_seq (aw_region ?_)
    refine qq rfl rfl (qr_cmp rfl rfl rfl) ?_
    refine aops_nil (thn_n ?_)
    refine aw_seq ?_
    refine aw_cond rfl (fun hc101 => ?_) (fun hc101 => ?_)
    · have hk2 : k < o.ords.length := by simpa using hc101
      obtain ⟨⟨sv, r⟩, or_, rfl⟩ : ∃ p r, or_ = p :: r := by
        cases or_ with
        | nil => simp at hn; omega
        | cons p r => exact ⟨p, r, rfl⟩
      obtain ⟨hq, hok⟩ := List.forall_mem_cons.1 hok
      simp only [List.length_cons] at hn
      obtain ⟨hq, hls⟩ := hq
      simp only at hq hls
      have hle : o.ords.length ≤ 4611686018427387904 := by have := la.ords; simpa [OH.hist] using this
      have hin : ∀ z ∈ r.ts, ok (0, z) := fun z hz => hq _ (by simp [ordL, tsL, hz])
      have hrow := at_get (f := ordRw) (A := od) (B := or_) (b := (sv, r)) hk
      have hk3 := at_len (f := ordRw) (A := od) (B := or_) (b := (sv, r)) hk
      refine aw_skip ?_
      refine thn_n ?_
      refine aw_seq ?_
      refine aw_block ?_
      refine aw_seq (aw_region ?_)
      refine qq rfl rfl (qr_move rfl) ?_
      refine qq rfl rfl (qr_assign rfl) ?_
      refine aops_nil (thn_n ?_)
      refine aw_seq ?_
      refine aw_draw 8 rfl ?_
      first | refine dq rfl rfl (qr_load_one rfl rfl) ?_ | refine dq rfl rfl (qr_load_pp_one rfl rfl) ?_ | refine dq rfl rfl (qr_load_rp_one rfl (by assumption) rfl) ?_
      first | refine dq rfl rfl (qr_load_one rfl rfl) ?_ | refine dq rfl rfl (qr_load_pp_one rfl rfl) ?_ | refine dq rfl rfl (qr_load_rp_one rfl (by assumption) rfl) ?_
      first | refine dq rfl rfl (qr_nilCheck rfl) ?_ | refine dq rfl rfl (qr_nilCheck_pp rfl) ?_ | refine dq rfl rfl (qr_nilCheck_rp rfl) ?_
      first | refine dq rfl rfl (qr_fieldAddr rfl (Nat.succ_ne_zero _)) ?_ | refine dq rfl rfl (qr_fieldAddr_pp rfl (Nat.succ_ne_zero _)) ?_ | refine dq rfl rfl (qr_fieldAddr_rp rfl (Nat.succ_ne_zero _)) ?_ | refine dq rfl rfl (qr_fieldAddr_row rfl (Nat.succ_ne_zero _)) ?_
      first | refine dq rfl rfl (qr_load_one rfl rfl) ?_ | refine dq rfl rfl (qr_load_pp_one rfl rfl) ?_ | refine dq rfl rfl (qr_load_rp_one rfl (by assumption) rfl) ?_
      refine dq rfl rfl (qr_move rfl) ?_
      first | refine dq rfl rfl (qr_index_list rfl rfl (by assumption)) ?_ | refine dq rfl rfl (qr_index_row rfl rfl (by assumption)) ?_
      first | refine dq rfl rfl (qr_fieldAddr rfl (Nat.succ_ne_zero _)) ?_ | refine dq rfl rfl (qr_fieldAddr_pp rfl (Nat.succ_ne_zero _)) ?_ | refine dq rfl rfl (qr_fieldAddr_rp rfl (Nat.succ_ne_zero _)) ?_ | refine dq rfl rfl (qr_fieldAddr_row rfl (Nat.succ_ne_zero _)) ?_
      refine dnil ⟨rfl, ?_⟩
      refine dalloc_s rfl ?_
      refine dalloc_s rfl ?_
      refine dalloc_s rfl ?_
      refine dalloc_s rfl ?_
      refine dalloc_s rfl ?_
      refine dalloc_s rfl ?_
      refine dalloc_s rfl ?_
      refine dalloc_s rfl ?_
      refine dalloc_nil ?_
      obtain ⟨r1, hr1⟩ : ∃ r1 : H.Ord, r1 = { r with o := (f sb 2 r.o).1 } := ⟨_, rfl⟩
      obtain ⟨s1, hs1⟩ : ∃ s1, s1 = (f sb 2 r.o).2 := ⟨_, rfl⟩
      refine aops_e rfl (oe_call rfl rfl (FCall.around [_, _, _] [_, _, _] [[.row o.vE.v 9 40 (ed.map evRw), .row o.vM.v 4 57 (o.mats.map matRw), .row o.vW.v 2 60 (o.wants.map wanR)], scR 52 ed, otR 3 od, otR 3 ((sv, r) :: or_), mtR 3 o.mats] (FCall.of_acall (fs := []) (cs := [.v (.pointer (some ⟨bm, 0, none⟩)), .v (.pointer (some ⟨by_, 0, none⟩))]) (sayW f ok I y hy 2 r.o _ _ _ _ _ _ _ _ (hq _ (by simp [ordL])) (at_get hk) rfl bm by_ _ _ (at_set (f := ordRw) (A := od) (a := (sv, r1)) (B := or_) hk (by rw [hr1]; rfl)) hI))) rfl ?_)
      rintro _ _ ⟨_, L, rfl, rfl, hI⟩
      show aops _ _ _ _ _ _ ⟨_, .box b1 67 [.v (.pointer (some ⟨bh, 0, none⟩))] :: .box bh 28 (c0 :: c1 :: c2 :: c3 :: o.cells) :: .box bs 101 [.fn (.func 50) [] [.v (.pointer (some ⟨bm, 0, none⟩)), .v (.pointer (some ⟨by_, 0, none⟩))]] :: .box bm 4 [bv true] :: .box by_ 100 [y] :: .row o.vR.v 2 54 (od.map ordRw ++ ((sv, r1) :: or_).map ordRw) :: .row o.vE.v 9 40 (ed.map evRw) :: .row o.vM.v 4 57 (o.mats.map matRw) :: .row o.vW.v 2 60 (o.wants.map wanR) :: (scR 52 ed ++ (otR 3 od ++ (otR 3 ((sv, r) :: or_) ++ (mtR 3 o.mats ++ L)))), _⟩
      rw [← hs1] at hI
      have hrow := at_get (f := ordRw) (A := od) (B := or_) (b := (sv, r1)) hk
      have hk3 := at_len (f := ordRw) (A := od) (B := or_) (b := (sv, r1)) hk
      refine aops_nil (thn_n ?_)
      refine aw_seq ?_
      refine aw_ent (s' := ⟨[(9, iv k), (100, iv k), (99, iv (o.ords.map ordRw).length), (1, .v (.pointer (some ⟨b1, 0, none⟩))), (4, .v (.pointer (some ⟨bs, 0, none⟩))), (5, .fn (.func 51) [] [.v (.pointer (some ⟨bs, 0, none⟩))])], .row o.vR.v 2 54 (od.map ordRw ++ ((sv, r1) :: or_).map ordRw) :: .box b1 67 [.v (.pointer (some ⟨bh, 0, none⟩))] :: .box bh 28 (c0 :: c1 :: c2 :: c3 :: o.cells) :: .box bs 101 [.fn (.func 50) [] [.v (.pointer (some ⟨bm, 0, none⟩)), .v (.pointer (some ⟨by_, 0, none⟩))]] :: .box bm 4 [bv true] :: .box by_ 100 [y] :: .row sv.v 1 3 (r.ts.map intR) :: .row o.vE.v 9 40 (ed.map evRw) :: .row o.vM.v 4 57 (o.mats.map matRw) :: .row o.vW.v 2 60 (o.wants.map wanR) :: (scR 52 ed ++ (otR 3 od ++ (otR 3 or_ ++ (mtR 3 o.mats ++ L)))), []⟩) (ent_trans (ent_pcs (l1 := [[.box b1 67 [.v (.pointer (some ⟨bh, 0, none⟩))], .box bh 28 (c0 :: c1 :: c2 :: c3 :: o.cells), .box bs 101 [.fn (.func 50) [] [.v (.pointer (some ⟨bm, 0, none⟩)), .v (.pointer (some ⟨by_, 0, none⟩))]]], [.box bm 4 [bv true], .box by_ 100 [y]], [.row o.vR.v 2 54 (od.map ordRw ++ ((sv, r1) :: or_).map ordRw)], [.row o.vE.v 9 40 (ed.map evRw), .row o.vM.v 4 57 (o.mats.map matRw), .row o.vW.v 2 60 (o.wants.map wanR)], scR 52 ed, otR 3 od, [.row sv.v 1 3 (r.ts.map intR)], otR 3 or_, mtR 3 o.mats]) (l2 := [[.row o.vR.v 2 54 (od.map ordRw ++ ((sv, r1) :: or_).map ordRw)], [.box b1 67 [.v (.pointer (some ⟨bh, 0, none⟩))], .box bh 28 (c0 :: c1 :: c2 :: c3 :: o.cells), .box bs 101 [.fn (.func 50) [] [.v (.pointer (some ⟨bm, 0, none⟩)), .v (.pointer (some ⟨by_, 0, none⟩))]]], [.box bm 4 [bv true], .box by_ 100 [y]], [.row sv.v 1 3 (r.ts.map intR)], [.row o.vE.v 9 40 (ed.map evRw), .row o.vM.v 4 57 (o.mats.map matRw), .row o.vW.v 2 60 (o.wants.map wanR)], scR 52 ed, otR 3 od, otR 3 or_, mtR 3 o.mats]) ((pt2 _ _ _ _).trans (.cons _ (.cons _ (.cons _ (pt3 _ _ _ _ _)))))) (ent_sub (.cons _ _ _ rfl (.cons _ _ _ rfl (.cons _ _ _ rfl (.cons _ _ _ rfl (.cons _ _ _ rfl (.cons _ _ _ rfl (.nil))))))))) ?_
      refine aw_region ?_
      first | refine qq rfl rfl (qr_load_one rfl rfl) ?_ | refine qq rfl rfl (qr_load_pp_one rfl rfl) ?_ | refine qq rfl rfl (qr_load_rp_one rfl (by assumption) rfl) ?_
      first | refine qq rfl rfl (qr_nilCheck rfl) ?_ | refine qq rfl rfl (qr_nilCheck_pp rfl) ?_ | refine qq rfl rfl (qr_nilCheck_rp rfl) ?_
      first | refine qq rfl rfl (qr_fieldAddr rfl (Nat.succ_ne_zero _)) ?_ | refine qq rfl rfl (qr_fieldAddr_pp rfl (Nat.succ_ne_zero _)) ?_ | refine qq rfl rfl (qr_fieldAddr_rp rfl (Nat.succ_ne_zero _)) ?_ | refine qq rfl rfl (qr_fieldAddr_row rfl (Nat.succ_ne_zero _)) ?_
      first | refine qq rfl rfl (qr_load_one rfl rfl) ?_ | refine qq rfl rfl (qr_load_pp_one rfl rfl) ?_ | refine qq rfl rfl (qr_load_rp_one rfl (by assumption) rfl) ?_
      refine qq rfl rfl (qr_move rfl) ?_
      first | refine qq rfl rfl (qr_index_list rfl rfl (by assumption)) ?_ | refine qq rfl rfl (qr_index_row rfl rfl (by assumption)) ?_
      first | refine qq rfl rfl (qr_fieldAddr rfl (Nat.succ_ne_zero _)) ?_ | refine qq rfl rfl (qr_fieldAddr_pp rfl (Nat.succ_ne_zero _)) ?_ | refine qq rfl rfl (qr_fieldAddr_rp rfl (Nat.succ_ne_zero _)) ?_ | refine qq rfl rfl (qr_fieldAddr_row rfl (Nat.succ_ne_zero _)) ?_
      first | refine qq rfl rfl (qr_load_one rfl rfl) ?_ | refine qq rfl rfl (qr_load_pp_one rfl rfl) ?_ | refine qq rfl rfl (qr_load_rp_one rfl (by assumption) rfl) ?_
      first | refine qq rfl rfl (qr_len_list rfl) ?_ | refine qq rfl rfl (qr_len_row rfl) ?_
      refine qq rfl rfl (qr_move rfl) ?_
      refine aops_nil (thn_n ?_)
      refine aw_block ?_
      refine aw_loop' (fun x : Nat × List Int × List Int × σ × List Res => x.2.1.length = x.1 ∧ x.1 + x.2.2.1.length = r.ts.length ∧ Went (fun s n => f s 0 n) (travL (fun s n => f s 0 n) s1 r.ts) x.2.1 x.2.2.2.1 x.2.2.1 ∧ (∀ z ∈ x.2.2.1, ok (0, z)) ∧ I x.2.2.2.1 x.2.2.2.2) (fun x => ⟨[(121, iv x.1), (120, iv (r.ts.map intR).length), (9, iv k), (100, iv k), (99, iv (o.ords.map ordRw).length), (1, .v (.pointer (some ⟨b1, 0, none⟩))), (4, .v (.pointer (some ⟨bs, 0, none⟩))), (5, .fn (.func 51) [] [.v (.pointer (some ⟨bs, 0, none⟩))])], .row o.vR.v 2 54 (od.map ordRw ++ ((sv, r1) :: or_).map ordRw) :: .box b1 67 [.v (.pointer (some ⟨bh, 0, none⟩))] :: .box bh 28 (c0 :: c1 :: c2 :: c3 :: o.cells) :: .box bs 101 [.fn (.func 50) [] [.v (.pointer (some ⟨bm, 0, none⟩)), .v (.pointer (some ⟨by_, 0, none⟩))]] :: .box bm 4 [bv true] :: .box by_ 100 [y] :: .row sv.v 1 3 (x.2.1.map intR ++ x.2.2.1.map intR) :: .row o.vE.v 9 40 (ed.map evRw) :: .row o.vM.v 4 57 (o.mats.map matRw) :: .row o.vW.v 2 60 (o.wants.map wanR) :: (scR 52 ed ++ (otR 3 od ++ (otR 3 or_ ++ (mtR 3 o.mats ++ x.2.2.2.2)))), []⟩) (fun x => x.2.2.1.length) (0, [], r.ts, s1, L) ⟨rfl, by simp, .start, hin, hI⟩
        (ent_sub (.cons _ _ _ rfl (.cons _ _ _ rfl (.cons _ _ _ rfl (.cons _ _ _ rfl (.cons _ _ _ rfl (.cons _ _ _ rfl (.cons _ _ _ rfl (.cons _ _ _ rfl (.nil)))))))))) ?_
      rintro ⟨j, sd, sr, u, L⟩ ⟨hj, hjn, hws, hsk, hI⟩
      simp only at hj hjn hws hsk hI
      refine aw_seq (aw_region ?_)
      refine qq rfl rfl (qr_cmp rfl rfl rfl) ?_
      refine aops_nil (thn_n ?_)
      refine aw_seq ?_
      refine aw_cond rfl (fun hc122 => ?_) (fun hc122 => ?_)
      · have hk2 : j < r.ts.length := by simpa using hc122
        obtain ⟨t, sr, rfl⟩ : ∃ p r, sr = p :: r := by
          cases sr with
          | nil => simp at hjn; omega
          | cons p r => exact ⟨p, r, rfl⟩
        obtain ⟨hx, hsk⟩ := List.forall_mem_cons.1 hsk
        simp only [List.length_cons] at hjn
        have hrowx := at_get (f := intR) (A := sd) (B := sr) (b := t) hj
        have hkx3 := at_len (f := intR) (A := sd) (B := sr) (b := t) hj
        refine aw_skip ?_
        refine thn_n ?_
        refine aw_seq ?_
        refine aw_block ?_
        refine aw_seq (aw_region ?_)
        refine qq rfl rfl (qr_move rfl) ?_
        refine qq rfl rfl (qr_assign rfl) ?_
        refine aops_nil (thn_n ?_)
        refine aw_draw 11 rfl ?_
        first | refine dq rfl rfl (qr_load_one rfl rfl) ?_ | refine dq rfl rfl (qr_load_pp_one rfl rfl) ?_ | refine dq rfl rfl (qr_load_rp_one rfl (by assumption) rfl) ?_
        first | refine dq rfl rfl (qr_load_one rfl rfl) ?_ | refine dq rfl rfl (qr_load_pp_one rfl rfl) ?_ | refine dq rfl rfl (qr_load_rp_one rfl (by assumption) rfl) ?_
        first | refine dq rfl rfl (qr_nilCheck rfl) ?_ | refine dq rfl rfl (qr_nilCheck_pp rfl) ?_ | refine dq rfl rfl (qr_nilCheck_rp rfl) ?_
        first | refine dq rfl rfl (qr_fieldAddr rfl (Nat.succ_ne_zero _)) ?_ | refine dq rfl rfl (qr_fieldAddr_pp rfl (Nat.succ_ne_zero _)) ?_ | refine dq rfl rfl (qr_fieldAddr_rp rfl (Nat.succ_ne_zero _)) ?_ | refine dq rfl rfl (qr_fieldAddr_row rfl (Nat.succ_ne_zero _)) ?_
        first | refine dq rfl rfl (qr_load_one rfl rfl) ?_ | refine dq rfl rfl (qr_load_pp_one rfl rfl) ?_ | refine dq rfl rfl (qr_load_rp_one rfl (by assumption) rfl) ?_
        refine dq rfl rfl (qr_move rfl) ?_
        first | refine dq rfl rfl (qr_index_list rfl rfl (by assumption)) ?_ | refine dq rfl rfl (qr_index_row rfl rfl (by assumption)) ?_
        first | refine dq rfl rfl (qr_fieldAddr rfl (Nat.succ_ne_zero _)) ?_ | refine dq rfl rfl (qr_fieldAddr_pp rfl (Nat.succ_ne_zero _)) ?_ | refine dq rfl rfl (qr_fieldAddr_rp rfl (Nat.succ_ne_zero _)) ?_ | refine dq rfl rfl (qr_fieldAddr_row rfl (Nat.succ_ne_zero _)) ?_
        first | refine dq rfl rfl (qr_load_one rfl rfl) ?_ | refine dq rfl rfl (qr_load_pp_one rfl rfl) ?_ | refine dq rfl rfl (qr_load_rp_one rfl (by assumption) rfl) ?_
        refine dq rfl rfl (qr_move rfl) ?_
        first | refine dq rfl rfl (qr_index_list rfl rfl (by assumption)) ?_ | refine dq rfl rfl (qr_index_row rfl rfl (by assumption)) ?_
        refine dnil ⟨rfl, ?_⟩
        refine dalloc_s rfl ?_
        refine dalloc_s rfl ?_
        refine dalloc_s rfl ?_
        refine dalloc_s rfl ?_
        refine dalloc_s rfl ?_
        refine dalloc_s rfl ?_
        refine dalloc_s rfl ?_
        refine dalloc_s rfl ?_
        refine dalloc_s rfl ?_
        refine dalloc_s rfl ?_
        refine dalloc_s rfl ?_
        refine dalloc_nil ?_
        refine aops_e rfl (oe_call rfl rfl (FCall.around [_, _, _, _] [_, _, _] [[.row o.vE.v 9 40 (ed.map evRw), .row o.vM.v 4 57 (o.mats.map matRw), .row o.vW.v 2 60 (o.wants.map wanR)], scR 52 ed, otR 3 od, otR 3 or_, mtR 3 o.mats] (FCall.of_acall (fs := []) (cs := [.v (.pointer (some ⟨bm, 0, none⟩)), .v (.pointer (some ⟨by_, 0, none⟩))]) (sayW f ok I y hy 0 t _ _ _ _ _ _ _ _ hx (at_get hj) rfl bm by_ _ _ (at_set (f := intR) (A := sd) (a := (f u 0 t).1) (B := sr) hj rfl) hI))) rfl ?_)
        rintro _ _ ⟨_, L, rfl, rfl, hI⟩
        show aops _ _ _ _ _ _ ⟨_, .row o.vR.v 2 54 (od.map ordRw ++ ((sv, r1) :: or_).map ordRw) :: .box b1 67 [.v (.pointer (some ⟨bh, 0, none⟩))] :: .box bh 28 (c0 :: c1 :: c2 :: c3 :: o.cells) :: .box bs 101 [.fn (.func 50) [] [.v (.pointer (some ⟨bm, 0, none⟩)), .v (.pointer (some ⟨by_, 0, none⟩))]] :: .box bm 4 [bv true] :: .box by_ 100 [y] :: .row sv.v 1 3 (sd.map intR ++ ((f u 0 t).1 :: sr).map intR) :: .row o.vE.v 9 40 (ed.map evRw) :: .row o.vM.v 4 57 (o.mats.map matRw) :: .row o.vW.v 2 60 (o.wants.map wanR) :: (scR 52 ed ++ (otR 3 od ++ (otR 3 or_ ++ (mtR 3 o.mats ++ L)))), _⟩
        refine aops_nil ?_
        refine inBlk_n ?_
        refine thn_n ?_
        refine aw_region ?_
        refine qq rfl rfl (qr_ari rfl rfl rfl (by omega)) ?_
        refine qq rfl rfl (qr_move rfl) ?_
        refine aops_nil (thn_n ?_)
        exact ⟨(j + 1, sd ++ [(f u 0 t).1], sr, _, L), ⟨by simp [hj], by simp only; omega, hws.step, hsk, hI⟩, (by rw [at_next (f := intR) (A := sd) (b := (f u 0 t).1) (B := sr)]; exact (ent_sub (.cons _ _ _ rfl (.cons _ _ _ rfl (.cons _ _ _ rfl (.cons _ _ _ rfl (.cons _ _ _ rfl (.cons _ _ _ rfl (.cons _ _ _ rfl (.cons _ _ _ rfl (.nil))))))))))), by simp⟩
      · have hk2 : ¬ j < r.ts.length := by simpa using hc122
        obtain rfl : sr = [] := by
          cases sr with
          | nil => rfl
          | cons p r => simp at hjn; omega
        have hfin := hws.fin
        refine aw_exit ?_
        refine thn_e ?_
        refine thn_e ?_
        refine inBlk_hit ?_
        refine inBlk_n ?_
        refine thn_n ?_
        refine aw_region ?_
        refine qq rfl rfl (qr_ari rfl rfl rfl (by omega)) ?_
        refine qq rfl rfl (qr_move rfl) ?_
        refine aops_nil (thn_n ?_)
        have hev := travOrd_eq f (s := sb) (r := r) (l := sd) (s' := u) (by rw [← hs1]; exact hfin)
        have hw2 := Went.step (x := r) (rest := or_.map (·.2)) hw
        rw [hev] at hw2
        have hE : (od ++ [(sv, (⟨(f sb 2 r.o).1, sd⟩ : H.Ord))]).map ordRw ++ or_.map ordRw = od.map ordRw ++ ((sv, r1) :: or_).map ordRw := by rw [← at_next, hr1]; rfl
        exact ⟨(k + 1, od ++ [(sv, (⟨(f sb 2 r.o).1, sd⟩ : H.Ord))], or_, u, L), ⟨by simp [hk], by simp only; omega, by rw [List.map_append]; exact hw2, hok, hI⟩, (by simp only [hE, otR_snoc, List.append_assoc, List.map_nil, List.append_nil]; exact ent_trans (ent_pcs (l1 := [[.row o.vR.v 2 54 (od.map ordRw ++ ((sv, r1) :: or_).map ordRw)], [.box b1 67 [.v (.pointer (some ⟨bh, 0, none⟩))], .box bh 28 (c0 :: c1 :: c2 :: c3 :: o.cells), .box bs 101 [.fn (.func 50) [] [.v (.pointer (some ⟨bm, 0, none⟩)), .v (.pointer (some ⟨by_, 0, none⟩))]]], [.box bm 4 [bv true], .box by_ 100 [y]], [.row sv.v 1 3 (sd.map intR)], [.row o.vE.v 9 40 (ed.map evRw), .row o.vM.v 4 57 (o.mats.map matRw), .row o.vW.v 2 60 (o.wants.map wanR)], scR 52 ed, otR 3 od, otR 3 or_, mtR 3 o.mats]) (l2 := [[.box b1 67 [.v (.pointer (some ⟨bh, 0, none⟩))], .box bh 28 (c0 :: c1 :: c2 :: c3 :: o.cells), .box bs 101 [.fn (.func 50) [] [.v (.pointer (some ⟨bm, 0, none⟩)), .v (.pointer (some ⟨by_, 0, none⟩))]]], [.box bm 4 [bv true], .box by_ 100 [y]], [.row o.vR.v 2 54 (od.map ordRw ++ ((sv, r1) :: or_).map ordRw)], [.row o.vE.v 9 40 (ed.map evRw), .row o.vM.v 4 57 (o.mats.map matRw), .row o.vW.v 2 60 (o.wants.map wanR)], scR 52 ed, otR 3 od, [.row sv.v 1 3 (sd.map intR)], otR 3 or_, mtR 3 o.mats]) ((pt1 _ _ _).trans (.cons _ ((pt1 _ _ _).trans (.cons _ (.cons _ ((pt1 _ _ _).trans (.cons _ ((pt1 _ _ _).trans (.cons _ (pt1 _ _ _))))))))))) (ent_sub (.cons _ _ _ rfl (.cons _ _ _ rfl (.cons _ _ _ rfl (.cons _ _ _ rfl (.cons _ _ _ rfl (.nil)))))))), by simp⟩
    · have hk2 : ¬ k < o.ords.length := by simpa using hc101
      obtain rfl : or_ = [] := by
        cases or_ with
        | nil => rfl
        | cons p r => simp at hn; omega
      have hfO := hw.fin
      refine aw_exit ?_
      refine thn_e ?_
      refine thn_e ?_
      refine inBlk_hit ?_
      refine thn_n ?_
      refine aw_seq ?_
      refine aw_seq (aw_region ?_)
      first | refine qq rfl rfl (qr_load_one rfl rfl) ?_ | refine qq rfl rfl (qr_load_pp_one rfl rfl) ?_ | refine qq rfl rfl (qr_load_rp_one rfl (by assumption) rfl) ?_
      first | refine qq rfl rfl (qr_nilCheck rfl) ?_ | refine qq rfl rfl (qr_nilCheck_pp rfl) ?_ | refine qq rfl rfl (qr_nilCheck_rp rfl) ?_
      first | refine qq rfl rfl (qr_fieldAddr rfl (Nat.succ_ne_zero _)) ?_ | refine qq rfl rfl (qr_fieldAddr_pp rfl (Nat.succ_ne_zero _)) ?_ | refine qq rfl rfl (qr_fieldAddr_rp rfl (Nat.succ_ne_zero _)) ?_ | refine qq rfl rfl (qr_fieldAddr_row rfl (Nat.succ_ne_zero _)) ?_
      first | refine qq rfl rfl (qr_load_one rfl rfl) ?_ | refine qq rfl rfl (qr_load_pp_one rfl rfl) ?_ | refine qq rfl rfl (qr_load_rp_one rfl (by assumption) rfl) ?_
      first | refine qq rfl rfl (qr_len_list rfl) ?_ | refine qq rfl rfl (qr_len_row rfl) ?_
      refine qq rfl rfl (qr_move rfl) ?_
      refine aops_nil (thn_n ?_)
      refine aw_block ?_
      refine aw_loop' (fun x : Nat × List (SV × Mat) × List (SV × Mat) × σ × List Res => x.2.1.length = x.1 ∧ x.1 + x.2.2.1.length = o.mats.length ∧ Went (travMat f) (travL (travMat f) sb (o.mats.map (·.2))) (x.2.1.map (·.2)) x.2.2.2.1 (x.2.2.1.map (·.2)) ∧ (∀ q ∈ x.2.2.1, (∀ z ∈ matL q.2, ok z) ∧ q.2.ts.length ≤ 4611686018427387904) ∧ I x.2.2.2.1 x.2.2.2.2) (fun x => ⟨[(143, iv x.1), (142, iv (o.mats.map matRw).length), (1, .v (.pointer (some ⟨b1, 0, none⟩))), (4, .v (.pointer (some ⟨bs, 0, none⟩))), (5, .fn (.func 51) [] [.v (.pointer (some ⟨bs, 0, none⟩))])], .box b1 67 [.v (.pointer (some ⟨bh, 0, none⟩))] :: .box bh 28 (c0 :: c1 :: c2 :: c3 :: o.cells) :: .box bs 101 [.fn (.func 50) [] [.v (.pointer (some ⟨bm, 0, none⟩)), .v (.pointer (some ⟨by_, 0, none⟩))]] :: .box bm 4 [bv true] :: .box by_ 100 [y] :: .row o.vM.v 4 57 (x.2.1.map matRw ++ x.2.2.1.map matRw) :: .row o.vE.v 9 40 (ed.map evRw) :: .row o.vR.v 2 54 (od.map ordRw) :: .row o.vW.v 2 60 (o.wants.map wanR) :: (scR 52 ed ++ (otR 3 od ++ (mtR 3 x.2.1 ++ (mtR 3 x.2.2.1 ++ x.2.2.2.2)))), []⟩) (fun x => x.2.2.1.length) (0, [], o.mats, sb, L) ⟨rfl, by simp, .start, fun q hq => ⟨fun z hz => hok0 z (by simp only [spokenL, OH.hist, List.mem_append, List.mem_flatMap, List.mem_map]; exact (.inr (.inr (.inl ⟨q.2, ⟨q, hq, rfl⟩, hz⟩)))), la.matts q.2 (by simp only [OH.hist, List.mem_map]; exact ⟨q, hq, rfl⟩)⟩, hI⟩
        (by simp only [List.map_nil, List.append_nil]; exact ent_trans (ent_pcs (l1 := [[.box b1 67 [.v (.pointer (some ⟨bh, 0, none⟩))], .box bh 28 (c0 :: c1 :: c2 :: c3 :: o.cells), .box bs 101 [.fn (.func 50) [] [.v (.pointer (some ⟨bm, 0, none⟩)), .v (.pointer (some ⟨by_, 0, none⟩))]]], [.box bm 4 [bv true], .box by_ 100 [y]], [.row o.vR.v 2 54 (od.map ordRw)], [.row o.vE.v 9 40 (ed.map evRw)], [.row o.vM.v 4 57 (o.mats.map matRw)], [.row o.vW.v 2 60 (o.wants.map wanR)], scR 52 ed, otR 3 od, mtR 3 o.mats]) (l2 := [[.box b1 67 [.v (.pointer (some ⟨bh, 0, none⟩))], .box bh 28 (c0 :: c1 :: c2 :: c3 :: o.cells), .box bs 101 [.fn (.func 50) [] [.v (.pointer (some ⟨bm, 0, none⟩)), .v (.pointer (some ⟨by_, 0, none⟩))]]], [.box bm 4 [bv true], .box by_ 100 [y]], [.row o.vM.v 4 57 (o.mats.map matRw)], [.row o.vE.v 9 40 (ed.map evRw)], [.row o.vR.v 2 54 (od.map ordRw)], [.row o.vW.v 2 60 (o.wants.map wanR)], scR 52 ed, otR 3 od, mtR 3 o.mats]) (.cons _ (.cons _ ((pt2 _ _ _ _).trans (.cons _ (pt1 _ _ _)))))) (ent_sub (.cons _ _ _ rfl (.cons _ _ _ rfl (.cons _ _ _ rfl (.cons _ _ _ rfl (.cons _ _ _ rfl (.nil)))))))) ?_
      rintro ⟨k, md, mr_, sc_, L⟩ ⟨hk, hn, hw, hok, hI⟩
      simp only at hk hn hw hok hI
      refine aw_seq (aw_region ?_)
      refine qq rfl rfl (qr_cmp rfl rfl rfl) ?_
      refine aops_nil (thn_n ?_)
      refine aw_seq ?_
      refine aw_cond rfl (fun hc144 => ?_) (fun hc144 => ?_)
      · have hk2 : k < o.mats.length := by simpa using hc144
        obtain ⟨⟨sv, r⟩, mr_, rfl⟩ : ∃ p r, mr_ = p :: r := by
          cases mr_ with
          | nil => simp at hn; omega
          | cons p r => exact ⟨p, r, rfl⟩
        obtain ⟨hq, hok⟩ := List.forall_mem_cons.1 hok
        simp only [List.length_cons] at hn
        obtain ⟨hq, hls⟩ := hq
        simp only at hq hls
        have hle : o.mats.length ≤ 4611686018427387904 := by have := la.mats; simpa [OH.hist] using this
        have hin : ∀ z ∈ r.ts, ok (0, z) := fun z hz => hq _ (by simp [matL, tsL, hz])
        have hrow := at_get (f := matRw) (A := md) (B := mr_) (b := (sv, r)) hk
        have hk3 := at_len (f := matRw) (A := md) (B := mr_) (b := (sv, r)) hk
        refine aw_skip ?_
        refine thn_n ?_
        refine aw_seq ?_
        refine aw_block ?_
        refine aw_seq (aw_region ?_)
        refine qq rfl rfl (qr_move rfl) ?_
        refine qq rfl rfl (qr_assign rfl) ?_
        refine aops_nil (thn_n ?_)
        refine aw_seq (aw_region ?_)
        first | refine qq rfl rfl (qr_load_one rfl rfl) ?_ | refine qq rfl rfl (qr_load_pp_one rfl rfl) ?_ | refine qq rfl rfl (qr_load_rp_one rfl (by assumption) rfl) ?_
        first | refine qq rfl rfl (qr_nilCheck rfl) ?_ | refine qq rfl rfl (qr_nilCheck_pp rfl) ?_ | refine qq rfl rfl (qr_nilCheck_rp rfl) ?_
        first | refine qq rfl rfl (qr_fieldAddr rfl (Nat.succ_ne_zero _)) ?_ | refine qq rfl rfl (qr_fieldAddr_pp rfl (Nat.succ_ne_zero _)) ?_ | refine qq rfl rfl (qr_fieldAddr_rp rfl (Nat.succ_ne_zero _)) ?_ | refine qq rfl rfl (qr_fieldAddr_row rfl (Nat.succ_ne_zero _)) ?_
        first | refine qq rfl rfl (qr_load_one rfl rfl) ?_ | refine qq rfl rfl (qr_load_pp_one rfl rfl) ?_ | refine qq rfl rfl (qr_load_rp_one rfl (by assumption) rfl) ?_
        refine qq rfl rfl (qr_move rfl) ?_
        first | refine qq rfl rfl (qr_index_list rfl rfl (by assumption)) ?_ | refine qq rfl rfl (qr_index_row rfl rfl (by assumption)) ?_
        refine qq rfl rfl (qr_assign rfl) ?_
        refine aops_nil (thn_n ?_)
        refine aw_seq ?_
        refine aw_draw 4 rfl ?_
        first | refine dq rfl rfl (qr_load_one rfl rfl) ?_ | refine dq rfl rfl (qr_load_pp_one rfl rfl) ?_ | refine dq rfl rfl (qr_load_rp_one rfl (by assumption) rfl) ?_
        refine dq rfl rfl (qr_move rfl) ?_
        first | refine dq rfl rfl (qr_nilCheck rfl) ?_ | refine dq rfl rfl (qr_nilCheck_pp rfl) ?_ | refine dq rfl rfl (qr_nilCheck_rp rfl) ?_
        first | refine dq rfl rfl (qr_fieldAddr rfl (Nat.succ_ne_zero _)) ?_ | refine dq rfl rfl (qr_fieldAddr_pp rfl (Nat.succ_ne_zero _)) ?_ | refine dq rfl rfl (qr_fieldAddr_rp rfl (Nat.succ_ne_zero _)) ?_ | refine dq rfl rfl (qr_fieldAddr_row rfl (Nat.succ_ne_zero _)) ?_
        refine dnil ⟨rfl, ?_⟩
        refine dalloc_s rfl ?_
        refine dalloc_s rfl ?_
        refine dalloc_s rfl ?_
        refine dalloc_s rfl ?_
        refine dalloc_nil ?_
        obtain ⟨r1, hr1⟩ : ∃ r1 : Mat, r1 = { r with p := (f sc_ 3 r.p).1 } := ⟨_, rfl⟩
        obtain ⟨s1, hs1⟩ : ∃ s1, s1 = (f sc_ 3 r.p).2 := ⟨_, rfl⟩
        refine aops_e rfl (oe_call rfl rfl (FCall.around [_, _, _] [_, _, _] [[.row o.vE.v 9 40 (ed.map evRw), .row o.vR.v 2 54 (od.map ordRw), .row o.vW.v 2 60 (o.wants.map wanR)], scR 52 ed, otR 3 od, mtR 3 md, mtR 3 ((sv, r) :: mr_)] (FCall.of_acall (fs := []) (cs := [.v (.pointer (some ⟨bm, 0, none⟩)), .v (.pointer (some ⟨by_, 0, none⟩))]) (sayW f ok I y hy 3 r.p _ _ _ _ _ _ _ _ (hq _ (by simp [matL])) (at_get hk) rfl bm by_ _ _ (at_set (f := matRw) (A := md) (a := (sv, r1)) (B := mr_) hk (by rw [hr1]; rfl)) hI))) rfl ?_)
        rintro _ _ ⟨_, L, rfl, rfl, hI⟩
        show aops _ _ _ _ _ _ ⟨_, .box b1 67 [.v (.pointer (some ⟨bh, 0, none⟩))] :: .box bh 28 (c0 :: c1 :: c2 :: c3 :: o.cells) :: .box bs 101 [.fn (.func 50) [] [.v (.pointer (some ⟨bm, 0, none⟩)), .v (.pointer (some ⟨by_, 0, none⟩))]] :: .box bm 4 [bv true] :: .box by_ 100 [y] :: .row o.vM.v 4 57 (md.map matRw ++ ((sv, r1) :: mr_).map matRw) :: .row o.vE.v 9 40 (ed.map evRw) :: .row o.vR.v 2 54 (od.map ordRw) :: .row o.vW.v 2 60 (o.wants.map wanR) :: (scR 52 ed ++ (otR 3 od ++ (mtR 3 md ++ (mtR 3 ((sv, r) :: mr_) ++ L)))), _⟩
        rw [← hs1] at hI
        have hrow := at_get (f := matRw) (A := md) (B := mr_) (b := (sv, r1)) hk
        have hk3 := at_len (f := matRw) (A := md) (B := mr_) (b := (sv, r1)) hk
        refine aops_nil (thn_n ?_)
        refine aw_seq ?_
        refine aw_draw 4 rfl ?_
        first | refine dq rfl rfl (qr_load_one rfl rfl) ?_ | refine dq rfl rfl (qr_load_pp_one rfl rfl) ?_ | refine dq rfl rfl (qr_load_rp_one rfl (by assumption) rfl) ?_
        refine dq rfl rfl (qr_move rfl) ?_
        first | refine dq rfl rfl (qr_nilCheck rfl) ?_ | refine dq rfl rfl (qr_nilCheck_pp rfl) ?_ | refine dq rfl rfl (qr_nilCheck_rp rfl) ?_
        first | refine dq rfl rfl (qr_fieldAddr rfl (Nat.succ_ne_zero _)) ?_ | refine dq rfl rfl (qr_fieldAddr_pp rfl (Nat.succ_ne_zero _)) ?_ | refine dq rfl rfl (qr_fieldAddr_rp rfl (Nat.succ_ne_zero _)) ?_ | refine dq rfl rfl (qr_fieldAddr_row rfl (Nat.succ_ne_zero _)) ?_
        refine dnil ⟨rfl, ?_⟩
        refine dalloc_s rfl ?_
        refine dalloc_s rfl ?_
        refine dalloc_s rfl ?_
        refine dalloc_s rfl ?_
        refine dalloc_nil ?_
        obtain ⟨r2, hr2⟩ : ∃ r2 : Mat, r2 = { r1 with o := (f s1 2 r.o).1 } := ⟨_, rfl⟩
        obtain ⟨s2, hs2⟩ : ∃ s2, s2 = (f s1 2 r.o).2 := ⟨_, rfl⟩
        refine aops_e rfl (oe_call rfl rfl (FCall.around [_, _, _] [_, _, _] [[.row o.vE.v 9 40 (ed.map evRw), .row o.vR.v 2 54 (od.map ordRw), .row o.vW.v 2 60 (o.wants.map wanR)], scR 52 ed, otR 3 od, mtR 3 md, mtR 3 ((sv, r) :: mr_)] (FCall.of_acall (fs := []) (cs := [.v (.pointer (some ⟨bm, 0, none⟩)), .v (.pointer (some ⟨by_, 0, none⟩))]) (sayW f ok I y hy 2 r.o _ _ _ _ _ _ _ _ (hq _ (by simp [matL])) (at_get hk) (by rw [hr1]; rfl) bm by_ _ _ (at_set (f := matRw) (A := md) (a := (sv, r2)) (B := mr_) hk (by rw [hr2]; rfl)) hI))) rfl ?_)
        rintro _ _ ⟨_, L, rfl, rfl, hI⟩
        show aops _ _ _ _ _ _ ⟨_, .box b1 67 [.v (.pointer (some ⟨bh, 0, none⟩))] :: .box bh 28 (c0 :: c1 :: c2 :: c3 :: o.cells) :: .box bs 101 [.fn (.func 50) [] [.v (.pointer (some ⟨bm, 0, none⟩)), .v (.pointer (some ⟨by_, 0, none⟩))]] :: .box bm 4 [bv true] :: .box by_ 100 [y] :: .row o.vM.v 4 57 (md.map matRw ++ ((sv, r2) :: mr_).map matRw) :: .row o.vE.v 9 40 (ed.map evRw) :: .row o.vR.v 2 54 (od.map ordRw) :: .row o.vW.v 2 60 (o.wants.map wanR) :: (scR 52 ed ++ (otR 3 od ++ (mtR 3 md ++ (mtR 3 ((sv, r) :: mr_) ++ L)))), _⟩
        rw [← hs2] at hI
        have hrow := at_get (f := matRw) (A := md) (B := mr_) (b := (sv, r2)) hk
        have hk3 := at_len (f := matRw) (A := md) (B := mr_) (b := (sv, r2)) hk
        refine aops_nil (thn_n ?_)
        refine aw_seq ?_
        refine aw_ent (s' := ⟨[(12, .rp o.vM.v 4 k 0), (143, iv k), (142, iv (o.mats.map matRw).length), (1, .v (.pointer (some ⟨b1, 0, none⟩))), (4, .v (.pointer (some ⟨bs, 0, none⟩))), (5, .fn (.func 51) [] [.v (.pointer (some ⟨bs, 0, none⟩))])], .row o.vM.v 4 57 (md.map matRw ++ ((sv, r2) :: mr_).map matRw) :: .box b1 67 [.v (.pointer (some ⟨bh, 0, none⟩))] :: .box bh 28 (c0 :: c1 :: c2 :: c3 :: o.cells) :: .box bs 101 [.fn (.func 50) [] [.v (.pointer (some ⟨bm, 0, none⟩)), .v (.pointer (some ⟨by_, 0, none⟩))]] :: .box bm 4 [bv true] :: .box by_ 100 [y] :: .row sv.v 1 3 (r.ts.map intR) :: .row o.vE.v 9 40 (ed.map evRw) :: .row o.vR.v 2 54 (od.map ordRw) :: .row o.vW.v 2 60 (o.wants.map wanR) :: (scR 52 ed ++ (otR 3 od ++ (mtR 3 md ++ (mtR 3 mr_ ++ L)))), []⟩) (ent_trans (ent_pcs (l1 := [[.box b1 67 [.v (.pointer (some ⟨bh, 0, none⟩))], .box bh 28 (c0 :: c1 :: c2 :: c3 :: o.cells), .box bs 101 [.fn (.func 50) [] [.v (.pointer (some ⟨bm, 0, none⟩)), .v (.pointer (some ⟨by_, 0, none⟩))]]], [.box bm 4 [bv true], .box by_ 100 [y]], [.row o.vM.v 4 57 (md.map matRw ++ ((sv, r2) :: mr_).map matRw)], [.row o.vE.v 9 40 (ed.map evRw), .row o.vR.v 2 54 (od.map ordRw), .row o.vW.v 2 60 (o.wants.map wanR)], scR 52 ed, otR 3 od, mtR 3 md, [.row sv.v 1 3 (r.ts.map intR)], mtR 3 mr_]) (l2 := [[.row o.vM.v 4 57 (md.map matRw ++ ((sv, r2) :: mr_).map matRw)], [.box b1 67 [.v (.pointer (some ⟨bh, 0, none⟩))], .box bh 28 (c0 :: c1 :: c2 :: c3 :: o.cells), .box bs 101 [.fn (.func 50) [] [.v (.pointer (some ⟨bm, 0, none⟩)), .v (.pointer (some ⟨by_, 0, none⟩))]]], [.box bm 4 [bv true], .box by_ 100 [y]], [.row sv.v 1 3 (r.ts.map intR)], [.row o.vE.v 9 40 (ed.map evRw), .row o.vR.v 2 54 (od.map ordRw), .row o.vW.v 2 60 (o.wants.map wanR)], scR 52 ed, otR 3 od, mtR 3 md, mtR 3 mr_]) ((pt2 _ _ _ _).trans (.cons _ (.cons _ (.cons _ (pt4 _ _ _ _ _ _)))))) (ent_sub (.cons _ _ _ rfl (.cons _ _ _ rfl (.cons _ _ _ rfl (.cons _ _ _ rfl (.cons _ _ _ rfl (.cons _ _ _ rfl (.nil))))))))) ?_
        refine aw_region ?_
        refine qq rfl rfl (qr_move rfl) ?_
        first | refine qq rfl rfl (qr_nilCheck rfl) ?_ | refine qq rfl rfl (qr_nilCheck_pp rfl) ?_ | refine qq rfl rfl (qr_nilCheck_rp rfl) ?_
        first | refine qq rfl rfl (qr_fieldAddr rfl (Nat.succ_ne_zero _)) ?_ | refine qq rfl rfl (qr_fieldAddr_pp rfl (Nat.succ_ne_zero _)) ?_ | refine qq rfl rfl (qr_fieldAddr_rp rfl (Nat.succ_ne_zero _)) ?_ | refine qq rfl rfl (qr_fieldAddr_row rfl (Nat.succ_ne_zero _)) ?_
        first | refine qq rfl rfl (qr_load_one rfl rfl) ?_ | refine qq rfl rfl (qr_load_pp_one rfl rfl) ?_ | refine qq rfl rfl (qr_load_rp_one rfl (by assumption) rfl) ?_
        first | refine qq rfl rfl (qr_len_list rfl) ?_ | refine qq rfl rfl (qr_len_row rfl) ?_
        refine qq rfl rfl (qr_move rfl) ?_
        refine aops_nil (thn_n ?_)
        refine aw_block ?_
        refine aw_loop' (fun x : Nat × List Int × List Int × σ × List Res => x.2.1.length = x.1 ∧ x.1 + x.2.2.1.length = r.ts.length ∧ Went (fun s n => f s 0 n) (travL (fun s n => f s 0 n) s2 r.ts) x.2.1 x.2.2.2.1 x.2.2.1 ∧ (∀ z ∈ x.2.2.1, ok (0, z)) ∧ I x.2.2.2.1 x.2.2.2.2) (fun x => ⟨[(167, iv x.1), (166, iv (r.ts.map intR).length), (12, .rp o.vM.v 4 k 0), (143, iv k), (142, iv (o.mats.map matRw).length), (1, .v (.pointer (some ⟨b1, 0, none⟩))), (4, .v (.pointer (some ⟨bs, 0, none⟩))), (5, .fn (.func 51) [] [.v (.pointer (some ⟨bs, 0, none⟩))])], .row o.vM.v 4 57 (md.map matRw ++ ((sv, r2) :: mr_).map matRw) :: .box b1 67 [.v (.pointer (some ⟨bh, 0, none⟩))] :: .box bh 28 (c0 :: c1 :: c2 :: c3 :: o.cells) :: .box bs 101 [.fn (.func 50) [] [.v (.pointer (some ⟨bm, 0, none⟩)), .v (.pointer (some ⟨by_, 0, none⟩))]] :: .box bm 4 [bv true] :: .box by_ 100 [y] :: .row sv.v 1 3 (x.2.1.map intR ++ x.2.2.1.map intR) :: .row o.vE.v 9 40 (ed.map evRw) :: .row o.vR.v 2 54 (od.map ordRw) :: .row o.vW.v 2 60 (o.wants.map wanR) :: (scR 52 ed ++ (otR 3 od ++ (mtR 3 md ++ (mtR 3 mr_ ++ x.2.2.2.2)))), []⟩) (fun x => x.2.2.1.length) (0, [], r.ts, s2, L) ⟨rfl, by simp, .start, hin, hI⟩
          (ent_sub (.cons _ _ _ rfl (.cons _ _ _ rfl (.cons _ _ _ rfl (.cons _ _ _ rfl (.cons _ _ _ rfl (.cons _ _ _ rfl (.cons _ _ _ rfl (.cons _ _ _ rfl (.nil)))))))))) ?_
        rintro ⟨j, sd, sr, u, L⟩ ⟨hj, hjn, hws, hsk, hI⟩
        simp only at hj hjn hws hsk hI
        refine aw_seq (aw_region ?_)
        refine qq rfl rfl (qr_cmp rfl rfl rfl) ?_
        refine aops_nil (thn_n ?_)
        refine aw_seq ?_
        refine aw_cond rfl (fun hc168 => ?_) (fun hc168 => ?_)
        · have hk2 : j < r.ts.length := by simpa using hc168
          obtain ⟨t, sr, rfl⟩ : ∃ p r, sr = p :: r := by
            cases sr with
            | nil => simp at hjn; omega
            | cons p r => exact ⟨p, r, rfl⟩
          obtain ⟨hx, hsk⟩ := List.forall_mem_cons.1 hsk
          simp only [List.length_cons] at hjn
          have hrowx := at_get (f := intR) (A := sd) (B := sr) (b := t) hj
          have hkx3 := at_len (f := intR) (A := sd) (B := sr) (b := t) hj
          refine aw_skip ?_
          refine thn_n ?_
          refine aw_seq ?_
          refine aw_block ?_
          refine aw_seq (aw_region ?_)
          refine qq rfl rfl (qr_move rfl) ?_
          refine qq rfl rfl (qr_assign rfl) ?_
          refine aops_nil (thn_n ?_)
          refine aw_draw 7 rfl ?_
          first | refine dq rfl rfl (qr_load_one rfl rfl) ?_ | refine dq rfl rfl (qr_load_pp_one rfl rfl) ?_ | refine dq rfl rfl (qr_load_rp_one rfl (by assumption) rfl) ?_
          refine dq rfl rfl (qr_move rfl) ?_
          first | refine dq rfl rfl (qr_nilCheck rfl) ?_ | refine dq rfl rfl (qr_nilCheck_pp rfl) ?_ | refine dq rfl rfl (qr_nilCheck_rp rfl) ?_
          first | refine dq rfl rfl (qr_fieldAddr rfl (Nat.succ_ne_zero _)) ?_ | refine dq rfl rfl (qr_fieldAddr_pp rfl (Nat.succ_ne_zero _)) ?_ | refine dq rfl rfl (qr_fieldAddr_rp rfl (Nat.succ_ne_zero _)) ?_ | refine dq rfl rfl (qr_fieldAddr_row rfl (Nat.succ_ne_zero _)) ?_
          first | refine dq rfl rfl (qr_load_one rfl rfl) ?_ | refine dq rfl rfl (qr_load_pp_one rfl rfl) ?_ | refine dq rfl rfl (qr_load_rp_one rfl (by assumption) rfl) ?_
          refine dq rfl rfl (qr_move rfl) ?_
          first | refine dq rfl rfl (qr_index_list rfl rfl (by assumption)) ?_ | refine dq rfl rfl (qr_index_row rfl rfl (by assumption)) ?_
          refine dnil ⟨rfl, ?_⟩
          refine dalloc_s rfl ?_
          refine dalloc_s rfl ?_
          refine dalloc_s rfl ?_
          refine dalloc_s rfl ?_
          refine dalloc_s rfl ?_
          refine dalloc_s rfl ?_
          refine dalloc_s rfl ?_
          refine dalloc_nil ?_
          refine aops_e rfl (oe_call rfl rfl (FCall.around [_, _, _, _] [_, _, _] [[.row o.vE.v 9 40 (ed.map evRw), .row o.vR.v 2 54 (od.map ordRw), .row o.vW.v 2 60 (o.wants.map wanR)], scR 52 ed, otR 3 od, mtR 3 md, mtR 3 mr_] (FCall.of_acall (fs := []) (cs := [.v (.pointer (some ⟨bm, 0, none⟩)), .v (.pointer (some ⟨by_, 0, none⟩))]) (sayW f ok I y hy 0 t _ _ _ _ _ _ _ _ hx (at_get hj) rfl bm by_ _ _ (at_set (f := intR) (A := sd) (a := (f u 0 t).1) (B := sr) hj rfl) hI))) rfl ?_)
          rintro _ _ ⟨_, L, rfl, rfl, hI⟩
          show aops _ _ _ _ _ _ ⟨_, .row o.vM.v 4 57 (md.map matRw ++ ((sv, r2) :: mr_).map matRw) :: .box b1 67 [.v (.pointer (some ⟨bh, 0, none⟩))] :: .box bh 28 (c0 :: c1 :: c2 :: c3 :: o.cells) :: .box bs 101 [.fn (.func 50) [] [.v (.pointer (some ⟨bm, 0, none⟩)), .v (.pointer (some ⟨by_, 0, none⟩))]] :: .box bm 4 [bv true] :: .box by_ 100 [y] :: .row sv.v 1 3 (sd.map intR ++ ((f u 0 t).1 :: sr).map intR) :: .row o.vE.v 9 40 (ed.map evRw) :: .row o.vR.v 2 54 (od.map ordRw) :: .row o.vW.v 2 60 (o.wants.map wanR) :: (scR 52 ed ++ (otR 3 od ++ (mtR 3 md ++ (mtR 3 mr_ ++ L)))), _⟩
          refine aops_nil ?_
          refine inBlk_n ?_
          refine thn_n ?_
          refine aw_region ?_
          refine qq rfl rfl (qr_ari rfl rfl rfl (by omega)) ?_
          refine qq rfl rfl (qr_move rfl) ?_
          refine aops_nil (thn_n ?_)
          exact ⟨(j + 1, sd ++ [(f u 0 t).1], sr, _, L), ⟨by simp [hj], by simp only; omega, hws.step, hsk, hI⟩, (by rw [at_next (f := intR) (A := sd) (b := (f u 0 t).1) (B := sr)]; exact (ent_sub (.cons _ _ _ rfl (.cons _ _ _ rfl (.cons _ _ _ rfl (.cons _ _ _ rfl (.cons _ _ _ rfl (.cons _ _ _ rfl (.cons _ _ _ rfl (.cons _ _ _ rfl (.nil))))))))))), by simp⟩
        · have hk2 : ¬ j < r.ts.length := by simpa using hc168
          obtain rfl : sr = [] := by
            cases sr with
            | nil => rfl
            | cons p r => simp at hjn; omega
          have hfin := hws.fin
          refine aw_exit ?_
          refine thn_e ?_
          refine thn_e ?_
          refine inBlk_hit ?_
          refine inBlk_n ?_
          refine thn_n ?_
          refine aw_region ?_
          refine qq rfl rfl (qr_ari rfl rfl rfl (by omega)) ?_
          refine qq rfl rfl (qr_move rfl) ?_
          refine aops_nil (thn_n ?_)
          have hev := travMat_eq f (s := sc_) (r := r) (l := sd) (s' := u) (by rw [← hs1, ← hs2]; exact hfin)
          have hw2 := Went.step (x := r) (rest := mr_.map (·.2)) hw
          rw [hev] at hw2
          have hE : (md ++ [(sv, (⟨(f sc_ 3 r.p).1, (f (f sc_ 3 r.p).2 2 r.o).1, r.first, sd⟩ : Mat))]).map matRw ++ mr_.map matRw = md.map matRw ++ ((sv, r2) :: mr_).map matRw := by rw [← at_next, hr2, hr1, hs1]; rfl
          exact ⟨(k + 1, md ++ [(sv, (⟨(f sc_ 3 r.p).1, (f (f sc_ 3 r.p).2 2 r.o).1, r.first, sd⟩ : Mat))], mr_, u, L), ⟨by simp [hk], by simp only; omega, by rw [List.map_append]; exact hw2, hok, hI⟩, (by simp only [hE, mtR_snoc, List.append_assoc, List.map_nil, List.append_nil]; exact ent_trans (ent_pcs (l1 := [[.row o.vM.v 4 57 (md.map matRw ++ ((sv, r2) :: mr_).map matRw)], [.box b1 67 [.v (.pointer (some ⟨bh, 0, none⟩))], .box bh 28 (c0 :: c1 :: c2 :: c3 :: o.cells), .box bs 101 [.fn (.func 50) [] [.v (.pointer (some ⟨bm, 0, none⟩)), .v (.pointer (some ⟨by_, 0, none⟩))]]], [.box bm 4 [bv true], .box by_ 100 [y]], [.row sv.v 1 3 (sd.map intR)], [.row o.vE.v 9 40 (ed.map evRw), .row o.vR.v 2 54 (od.map ordRw), .row o.vW.v 2 60 (o.wants.map wanR)], scR 52 ed, otR 3 od, mtR 3 md, mtR 3 mr_]) (l2 := [[.box b1 67 [.v (.pointer (some ⟨bh, 0, none⟩))], .box bh 28 (c0 :: c1 :: c2 :: c3 :: o.cells), .box bs 101 [.fn (.func 50) [] [.v (.pointer (some ⟨bm, 0, none⟩)), .v (.pointer (some ⟨by_, 0, none⟩))]]], [.box bm 4 [bv true], .box by_ 100 [y]], [.row o.vM.v 4 57 (md.map matRw ++ ((sv, r2) :: mr_).map matRw)], [.row o.vE.v 9 40 (ed.map evRw), .row o.vR.v 2 54 (od.map ordRw), .row o.vW.v 2 60 (o.wants.map wanR)], scR 52 ed, otR 3 od, mtR 3 md, [.row sv.v 1 3 (sd.map intR)], mtR 3 mr_]) ((pt1 _ _ _).trans (.cons _ ((pt1 _ _ _).trans (.cons _ (.cons _ ((pt1 _ _ _).trans (.cons _ ((pt1 _ _ _).trans (.cons _ ((pt1 _ _ _).trans (.cons _ (pt1 _ _ _))))))))))))) (ent_sub (.cons _ _ _ rfl (.cons _ _ _ rfl (.cons _ _ _ rfl (.cons _ _ _ rfl (.cons _ _ _ rfl (.nil)))))))), by simp⟩
      · have hk2 : ¬ k < o.mats.length := by simpa using hc144
        obtain rfl : mr_ = [] := by
          cases mr_ with
          | nil => rfl
          | cons p r => simp at hn; omega
        have hfM := hw.fin
        refine aw_exit ?_
        refine thn_e ?_
        refine thn_e ?_
        refine inBlk_hit ?_
        refine thn_n ?_
        refine aw_seq (aw_region ?_)
        first | refine qq rfl rfl (qr_load_one rfl rfl) ?_ | refine qq rfl rfl (qr_load_pp_one rfl rfl) ?_ | refine qq rfl rfl (qr_load_rp_one rfl (by assumption) rfl) ?_
        first | refine qq rfl rfl (qr_nilCheck rfl) ?_ | refine qq rfl rfl (qr_nilCheck_pp rfl) ?_ | refine qq rfl rfl (qr_nilCheck_rp rfl) ?_
        first | refine qq rfl rfl (qr_fieldAddr rfl (Nat.succ_ne_zero _)) ?_ | refine qq rfl rfl (qr_fieldAddr_pp rfl (Nat.succ_ne_zero _)) ?_ | refine qq rfl rfl (qr_fieldAddr_rp rfl (Nat.succ_ne_zero _)) ?_ | refine qq rfl rfl (qr_fieldAddr_row rfl (Nat.succ_ne_zero _)) ?_
        first | refine qq rfl rfl (qr_load_one rfl rfl) ?_ | refine qq rfl rfl (qr_load_pp_one rfl rfl) ?_ | refine qq rfl rfl (qr_load_rp_one rfl (by assumption) rfl) ?_
        first | refine qq rfl rfl (qr_len_list rfl) ?_ | refine qq rfl rfl (qr_len_row rfl) ?_
        refine qq rfl rfl (qr_move rfl) ?_
        refine aops_nil (thn_n ?_)
        refine aw_block ?_
        refine aw_loop' (fun x : Nat × List Wan × List Wan × σ × List Res => x.2.1.length = x.1 ∧ x.1 + x.2.2.1.length = o.wants.length ∧ Went (travWan f) (travL (travWan f) sc_ (o.wants)) (x.2.1) x.2.2.2.1 (x.2.2.1) ∧ (∀ q ∈ x.2.2.1, (∀ z ∈ wanL q, ok z)) ∧ I x.2.2.2.1 x.2.2.2.2) (fun x => ⟨[(185, iv x.1), (184, iv (o.wants.map wanR).length), (1, .v (.pointer (some ⟨b1, 0, none⟩))), (4, .v (.pointer (some ⟨bs, 0, none⟩))), (5, .fn (.func 51) [] [.v (.pointer (some ⟨bs, 0, none⟩))])], .box b1 67 [.v (.pointer (some ⟨bh, 0, none⟩))] :: .box bh 28 (c0 :: c1 :: c2 :: c3 :: o.cells) :: .box bs 101 [.fn (.func 50) [] [.v (.pointer (some ⟨bm, 0, none⟩)), .v (.pointer (some ⟨by_, 0, none⟩))]] :: .box bm 4 [bv true] :: .box by_ 100 [y] :: .row o.vW.v 2 60 (x.2.1.map wanR ++ x.2.2.1.map wanR) :: .row o.vE.v 9 40 (ed.map evRw) :: .row o.vR.v 2 54 (od.map ordRw) :: .row o.vM.v 4 57 (md.map matRw) :: (scR 52 ed ++ (otR 3 od ++ (mtR 3 md ++ x.2.2.2.2))), []⟩) (fun x => x.2.2.1.length) (0, [], o.wants, sc_, L) ⟨rfl, by simp, .start, fun q hq => fun z hz => hok0 z (by simp only [spokenL, OH.hist, List.mem_append, List.mem_flatMap, List.mem_map]; exact (.inr (.inr (.inr ⟨q, hq, hz⟩)))), hI⟩
          (by simp only [List.map_nil, List.append_nil]; exact ent_trans (ent_pcs (l1 := [[.box b1 67 [.v (.pointer (some ⟨bh, 0, none⟩))], .box bh 28 (c0 :: c1 :: c2 :: c3 :: o.cells), .box bs 101 [.fn (.func 50) [] [.v (.pointer (some ⟨bm, 0, none⟩)), .v (.pointer (some ⟨by_, 0, none⟩))]]], [.box bm 4 [bv true], .box by_ 100 [y]], [.row o.vM.v 4 57 (md.map matRw)], [.row o.vE.v 9 40 (ed.map evRw)], [.row o.vR.v 2 54 (od.map ordRw)], [.row o.vW.v 2 60 (o.wants.map wanR)], [], scR 52 ed, otR 3 od, mtR 3 md]) (l2 := [[.box b1 67 [.v (.pointer (some ⟨bh, 0, none⟩))], .box bh 28 (c0 :: c1 :: c2 :: c3 :: o.cells), .box bs 101 [.fn (.func 50) [] [.v (.pointer (some ⟨bm, 0, none⟩)), .v (.pointer (some ⟨by_, 0, none⟩))]]], [.box bm 4 [bv true], .box by_ 100 [y]], [.row o.vW.v 2 60 (o.wants.map wanR)], [.row o.vE.v 9 40 (ed.map evRw)], [.row o.vR.v 2 54 (od.map ordRw)], [.row o.vM.v 4 57 (md.map matRw)], [], scR 52 ed, otR 3 od, mtR 3 md]) (.cons _ (.cons _ ((pt3 _ _ _ _ _).trans (.cons _ ((pt1 _ _ _).trans (.cons _ (pt1 _ _ _)))))))) (ent_sub (.cons _ _ _ rfl (.cons _ _ _ rfl (.cons _ _ _ rfl (.cons _ _ _ rfl (.cons _ _ _ rfl (.nil)))))))) ?_
        rintro ⟨k, wd, wr, sd_, L⟩ ⟨hk, hn, hw, hok, hI⟩
        simp only at hk hn hw hok hI
        refine aw_seq (aw_region ?_)
        refine qq rfl rfl (qr_cmp rfl rfl rfl) ?_
        refine aops_nil (thn_n ?_)
        refine aw_seq ?_
        refine aw_cond rfl (fun hc186 => ?_) (fun hc186 => ?_)
        · have hk2 : k < o.wants.length := by simpa using hc186
          obtain ⟨w, wr, rfl⟩ : ∃ p r, wr = p :: r := by
            cases wr with
            | nil => simp at hn; omega
            | cons p r => exact ⟨p, r, rfl⟩
          obtain ⟨hq, hok⟩ := List.forall_mem_cons.1 hok
          simp only [List.length_cons] at hn
          have hle : o.wants.length ≤ 4611686018427387904 := la.wants
          have hrow := at_get (f := wanR) (A := wd) (B := wr) (b := w) hk
          have hk3 := at_len (f := wanR) (A := wd) (B := wr) (b := w) hk
          refine aw_skip ?_
          refine thn_n ?_
          refine aw_seq ?_
          refine aw_block ?_
          refine aw_seq (aw_region ?_)
          refine qq rfl rfl (qr_move rfl) ?_
          refine qq rfl rfl (qr_assign rfl) ?_
          refine aops_nil (thn_n ?_)
          refine aw_draw 8 rfl ?_
          first | refine dq rfl rfl (qr_load_one rfl rfl) ?_ | refine dq rfl rfl (qr_load_pp_one rfl rfl) ?_ | refine dq rfl rfl (qr_load_rp_one rfl (by assumption) rfl) ?_
          first | refine dq rfl rfl (qr_load_one rfl rfl) ?_ | refine dq rfl rfl (qr_load_pp_one rfl rfl) ?_ | refine dq rfl rfl (qr_load_rp_one rfl (by assumption) rfl) ?_
          first | refine dq rfl rfl (qr_nilCheck rfl) ?_ | refine dq rfl rfl (qr_nilCheck_pp rfl) ?_ | refine dq rfl rfl (qr_nilCheck_rp rfl) ?_
          first | refine dq rfl rfl (qr_fieldAddr rfl (Nat.succ_ne_zero _)) ?_ | refine dq rfl rfl (qr_fieldAddr_pp rfl (Nat.succ_ne_zero _)) ?_ | refine dq rfl rfl (qr_fieldAddr_rp rfl (Nat.succ_ne_zero _)) ?_ | refine dq rfl rfl (qr_fieldAddr_row rfl (Nat.succ_ne_zero _)) ?_
          first | refine dq rfl rfl (qr_load_one rfl rfl) ?_ | refine dq rfl rfl (qr_load_pp_one rfl rfl) ?_ | refine dq rfl rfl (qr_load_rp_one rfl (by assumption) rfl) ?_
          refine dq rfl rfl (qr_move rfl) ?_
          first | refine dq rfl rfl (qr_index_list rfl rfl (by assumption)) ?_ | refine dq rfl rfl (qr_index_row rfl rfl (by assumption)) ?_
          first | refine dq rfl rfl (qr_fieldAddr rfl (Nat.succ_ne_zero _)) ?_ | refine dq rfl rfl (qr_fieldAddr_pp rfl (Nat.succ_ne_zero _)) ?_ | refine dq rfl rfl (qr_fieldAddr_rp rfl (Nat.succ_ne_zero _)) ?_ | refine dq rfl rfl (qr_fieldAddr_row rfl (Nat.succ_ne_zero _)) ?_
          refine dnil ⟨rfl, ?_⟩
          refine dalloc_s rfl ?_
          refine dalloc_s rfl ?_
          refine dalloc_s rfl ?_
          refine dalloc_s rfl ?_
          refine dalloc_s rfl ?_
          refine dalloc_s rfl ?_
          refine dalloc_s rfl ?_
          refine dalloc_s rfl ?_
          refine dalloc_nil ?_
          refine aops_e rfl (oe_call rfl rfl (FCall.around [_, _, _] [_, _, _] [[.row o.vE.v 9 40 (ed.map evRw), .row o.vR.v 2 54 (od.map ordRw), .row o.vM.v 4 57 (md.map matRw)], scR 52 ed, otR 3 od, mtR 3 md] (FCall.of_acall (fs := []) (cs := [.v (.pointer (some ⟨bm, 0, none⟩)), .v (.pointer (some ⟨by_, 0, none⟩))]) (sayW f ok I y hy 1 w.s _ _ _ _ _ _ _ _ (hq _ (by simp [wanL])) (at_get hk) rfl bm by_ _ _ (at_set (f := wanR) (A := wd) (a := (travWan f sd_ w).1) (B := wr) hk rfl) hI))) rfl ?_)
          rintro _ _ ⟨_, L, rfl, rfl, hI⟩
          show aops _ _ _ _ _ _ ⟨_, .box b1 67 [.v (.pointer (some ⟨bh, 0, none⟩))] :: .box bh 28 (c0 :: c1 :: c2 :: c3 :: o.cells) :: .box bs 101 [.fn (.func 50) [] [.v (.pointer (some ⟨bm, 0, none⟩)), .v (.pointer (some ⟨by_, 0, none⟩))]] :: .box bm 4 [bv true] :: .box by_ 100 [y] :: .row o.vW.v 2 60 (wd.map wanR ++ ((travWan f sd_ w).1 :: wr).map wanR) :: .row o.vE.v 9 40 (ed.map evRw) :: .row o.vR.v 2 54 (od.map ordRw) :: .row o.vM.v 4 57 (md.map matRw) :: (scR 52 ed ++ (otR 3 od ++ (mtR 3 md ++ L))), _⟩
          refine aops_nil ?_
          refine inBlk_n ?_
          refine thn_n ?_
          refine aw_region ?_
          refine qq rfl rfl (qr_ari rfl rfl rfl (by omega)) ?_
          refine qq rfl rfl (qr_move rfl) ?_
          refine aops_nil (thn_n ?_)
          exact ⟨(k + 1, wd ++ [(travWan f sd_ w).1], wr, _, L), ⟨by simp [hk], by simp only; omega, hw.step, hok, hI⟩, (by rw [at_next]; exact (ent_sub (.cons _ _ _ rfl (.cons _ _ _ rfl (.cons _ _ _ rfl (.cons _ _ _ rfl (.cons _ _ _ rfl (.nil)))))))), by simp⟩
        · have hk2 : ¬ k < o.wants.length := by simpa using hc186
          obtain rfl : wr = [] := by
            cases wr with
            | nil => rfl
            | cons p r => simp at hn; omega
          have hfW := hw.fin
          refine aw_exit ?_
          refine thn_e ?_
          refine thn_e ?_
          refine inBlk_hit ?_
          have hth := travH_eq f (h := o.hist) hfE hfO hfM hfW
          refine retq_n .nil (.trans (.perm (pcs_perm (l1 := [[.box b1 67 [.v (.pointer (some ⟨bh, 0, none⟩))], .box bh 28 (c0 :: c1 :: c2 :: c3 :: o.cells)], [.box bs 101 [.fn (.func 50) [] [.v (.pointer (some ⟨bm, 0, none⟩)), .v (.pointer (some ⟨by_, 0, none⟩))]]], [.box bm 4 [bv true], .box by_ 100 [y]], [.row o.vW.v 2 60 (wd.map wanR ++ ([] : List Wan).map wanR)], [.row o.vE.v 9 40 (ed.map evRw)], [.row o.vR.v 2 54 (od.map ordRw)], [.row o.vM.v 4 57 (md.map matRw)], [], scR 52 ed, otR 3 od, mtR 3 md]) (l2 := [[.box bs 101 [.fn (.func 50) [] [.v (.pointer (some ⟨bm, 0, none⟩)), .v (.pointer (some ⟨by_, 0, none⟩))]]], [.box bm 4 [bv true], .box by_ 100 [y]], [.box b1 67 [.v (.pointer (some ⟨bh, 0, none⟩))], .box bh 28 (c0 :: c1 :: c2 :: c3 :: o.cells)], [.row o.vE.v 9 40 (ed.map evRw)], [.row o.vR.v 2 54 (od.map ordRw)], [.row o.vM.v 4 57 (md.map matRw)], [.row o.vW.v 2 60 (wd.map wanR ++ ([] : List Wan).map wanR)], [], scR 52 ed, otR 3 od, mtR 3 md]) ((pt1 _ _ _).trans (.cons _ ((pt1 _ _ _).trans (.cons _ (.cons _ ((pt1 _ _ _).trans (.cons _ ((pt1 _ _ _).trans (.cons _ (pt1 _ _ _)))))))))) L) _) (.drop [_, _, _] _ _)) ⟨⟨o.vE, o.vR, o.vM, o.vW, o.ts, o.ss, o.os, o.ps, ed, od, md, wd⟩, L, ?_, rfl, ?_, ?_⟩
          · rw [hth]; rfl
          · rw [hth]; exact hI
          · first | rfl | (simp only [List.map_nil, List.append_nil]; rfl)
end Go.Proofs
/- The walk of history.Number. Conditions: none. -/
set_option linter.unusedVariables false
set_option linter.unusedSimpArgs false
set_option maxRecDepth 10000
namespace Go.Proofs
open Go Go.Ab
open Go.H
theorem ownN (h : Hist) (la : Lim 1099511627776 h) (L : List Res) : FCall Tryd.prog (.fn (.func 20) [] []) [.agg (histC h)] L (fun r h' => ∃ o : OH, o.hist = h ∧ h' = L ++ ohF o [] ∧ r = .agg (namesC h ++ o.cells)) := by
  have h0 : ACall Tryd.prog 20 [.agg (histC h)] [] (fun r h' => ∃ o : OH, o.hist = h ∧ h' = ohF o [] ∧ r = .agg (namesC h ++ o.cells)) := by
    refine (own h la).ventR ?_
    rintro _ _ ⟨n, o, ho, rfl, rfl⟩
    exact ⟨_, _, (vent_freeze_cell [] _).trans ((vent_freeze_cell [_] _).trans ((vent_freeze_cell [_, _] _).trans (vent_freeze_cell [_, _, _] _))), o, ho, by rw [← ohF_eq, List.append_nil], rfl⟩
  refine FCall.permR (((FCall.of_fun h0).frame L).mono ?_)
  rintro _ _ ⟨h1, rfl, o, ho, rfl, rfl⟩
  exact ⟨_, List.perm_append_comm, o, ho, rfl, rfl⟩
theorem shapedN (h : Hist) (la : Lim 4611686018427387904 h) : FCall Tryd.prog (.fn (.func 19) [] []) [.agg (histC h)] [.glob 0 71 limitsC, .glob 1 129 firstC, .glob 2 133 acceptC] (fun r h' => h' = [.glob 0 71 limitsC, .glob 1 129 firstC, .glob 2 133 acceptC] ∧ r = bv (shapedB h)) := FCall.of_fun (shaped h la)
theorem namesO (h : Hist) (o : OH) : ACall Tryd.prog 21 [.agg (namesC h ++ o.cells)] [] (fun r h' => h' = [] ∧ r = .agg (namesC h)) := by
  refine acall_of_aw Tryd.func21 rfl rfl rfl ?_
  refine aw_seq (aw_region ?_)
  refine aops_e rfl (oe_box rfl rfl rfl fun b1 => ?_)
  refine aops_e rfl (oe_alloc rfl fun b2 => ?_)
  refine aops_nil (thn_n ?_)
  refine aw_seq (aw_region ?_)
  first | refine qq rfl rfl (qr_fieldAddr rfl (Nat.succ_ne_zero _)) ?_ | refine qq rfl rfl (qr_fieldAddr_pp rfl (Nat.succ_ne_zero _)) ?_ | refine qq rfl rfl (qr_fieldAddr_rp rfl (Nat.succ_ne_zero _)) ?_ | refine qq rfl rfl (qr_fieldAddr_row rfl (Nat.succ_ne_zero _)) ?_
  first | refine qq rfl rfl (qr_load_one rfl rfl) ?_ | refine qq rfl rfl (qr_load_pp_one rfl rfl) ?_ | refine qq rfl rfl (qr_load_rp_one rfl (by assumption) rfl) ?_
  first | refine qq rfl rfl (qr_fieldAddr rfl (Nat.succ_ne_zero _)) ?_ | refine qq rfl rfl (qr_fieldAddr_pp rfl (Nat.succ_ne_zero _)) ?_ | refine qq rfl rfl (qr_fieldAddr_rp rfl (Nat.succ_ne_zero _)) ?_ | refine qq rfl rfl (qr_fieldAddr_row rfl (Nat.succ_ne_zero _)) ?_
  first | refine qq rfl rfl (qr_load_one rfl rfl) ?_ | refine qq rfl rfl (qr_load_pp_one rfl rfl) ?_ | refine qq rfl rfl (qr_load_rp_one rfl (by assumption) rfl) ?_
  first | refine qq rfl rfl (qr_fieldAddr rfl (Nat.succ_ne_zero _)) ?_ | refine qq rfl rfl (qr_fieldAddr_pp rfl (Nat.succ_ne_zero _)) ?_ | refine qq rfl rfl (qr_fieldAddr_rp rfl (Nat.succ_ne_zero _)) ?_ | refine qq rfl rfl (qr_fieldAddr_row rfl (Nat.succ_ne_zero _)) ?_
  first | refine qq rfl rfl (qr_load_one rfl rfl) ?_ | refine qq rfl rfl (qr_load_pp_one rfl rfl) ?_ | refine qq rfl rfl (qr_load_rp_one rfl (by assumption) rfl) ?_
  first | refine qq rfl rfl (qr_fieldAddr rfl (Nat.succ_ne_zero _)) ?_ | refine qq rfl rfl (qr_fieldAddr_pp rfl (Nat.succ_ne_zero _)) ?_ | refine qq rfl rfl (qr_fieldAddr_rp rfl (Nat.succ_ne_zero _)) ?_ | refine qq rfl rfl (qr_fieldAddr_row rfl (Nat.succ_ne_zero _)) ?_
  first | refine qq rfl rfl (qr_load_one rfl rfl) ?_ | refine qq rfl rfl (qr_load_pp_one rfl rfl) ?_ | refine qq rfl rfl (qr_load_rp_one rfl (by assumption) rfl) ?_
  refine qq rfl rfl (qr_buildArr rfl (by rfl)) ?_
  first | refine aops_e rfl (oe_store_all rfl rfl rfl ?_) | refine aops_e rfl (oe_store rfl rfl rfl rfl (Nat.le_of_ble_eq_true rfl) ?_)
  refine aops_nil (thn_n ?_)
  refine aw_ret ?_
  exact retq (.cons _ _ _ _ (.agg _ _ _ _ _ _ _ rfl inferInstance inferInstance inferInstance rfl) .nil) (.drop [_, _] _ _) ⟨rfl, rfl⟩
def INum (lp : LP) (q r20 b2 b4 b5 b6 : Nat) (h : Hist) : Olds → List Res → Prop := fun k L => KOk h k ∧ ∃ (A : AN) (es : List ((Int × Int) × AV)), MapK es k ∧ A.map (·.2) = k.mapIdx (fun s l => l.map (nameAt (nmK h s))) ∧ L = lp .ready none :: .defs q :: .box b5 61 (A.map cellA) :: .box b6 63 [.v (.map (some r20))] :: .map r20 (encM int2K es) :: .box b4 61 (namesC h) :: .box b2 28 histZ :: (A.map rowA ++ [.glob 0 71 limitsC, .glob 1 129 firstC, .glob 2 133 acceptC])
set_option maxHeartbeats 1000000 in
theorem number (h : Hist) (la : Lim 4611686018427387904 h) : ACall Tryd.prog 7 [.agg (histC h)] [.glob 0 71 limitsC, .glob 1 129 firstC, .glob 2 133 acceptC] (fun r h' => (shapedB h = true → ∃ (n : NV) (o : OH), o.hist = numberH h ∧ h' = [.glob 0 71 limitsC, .glob 1 129 firstC, .glob 2 133 acceptC] ++ nmR n (numberH h) (ohF o []) ∧ r = .tup [.agg (n.cells ++ o.cells), iv 0]) ∧ (shapedB h = false → h' = [.glob 0 71 limitsC, .glob 1 129 firstC, .glob 2 133 acceptC] ∧ r = .tup [.agg histZ, iv 210])) := by
  refine acall_of_aw Tryd.func7 rfl rfl rfl ?_
  refine aw_seq (aw_region ?_)
  refine aops_e rfl (oe_box rfl rfl rfl fun b1 => ?_)
  refine aops_e rfl (oe_alloc rfl fun b2 => ?_)
  refine qq rfl rfl (qr_assign rfl) ?_
  refine aops_nil (thn_n ?_)
  refine aw_seq ?_
  refine aw_seq (aw_region ?_)
  first | refine qq rfl rfl (qr_load_all rfl rfl) ?_ | refine qq rfl rfl (qr_load_pp_all rfl rfl) ?_ | refine qq rfl rfl (qr_load_agg rfl (Nat.le_of_ble_eq_true rfl)) ?_ | refine qq rfl rfl (qr_load_pp_agg rfl (Nat.le_of_ble_eq_true rfl)) ?_
  refine qv rfl rfl (qv_call rfl rfl (FCall.qt (shapedN h la) ((pt2 _ _ _ _).trans (.cons _ ((pt2 _ _ _ _).trans (.cons _ (pt2 _ _ _ _))))))) ?_
  refine qq rfl rfl (qr_not rfl) ?_
  refine aops_nil (thn_n ?_)
  refine aw_cond rfl (fun hc14 => ?_) (fun hc14 => ?_)
  · have hs : shapedB h = false := not_t hc14
    refine aw_seq (aw_region ?_)
    refine qq rfl rfl (qr_build rfl (by rfl)) ?_
    first | refine aops_e rfl (oe_store_all rfl rfl rfl ?_) | refine aops_e rfl (oe_store rfl rfl rfl rfl (Nat.le_of_ble_eq_true rfl) ?_)
    refine qq rfl rfl (qr_assign rfl) ?_
    refine aops_nil (thn_n ?_)
    refine aw_ret ?_
    refine thn_r ?_
    exact retq (.cons _ _ _ _ (.agg _ _ _ _ _ _ _ rfl inferInstance inferInstance inferInstance rfl) (.cons _ _ _ _ (.tmp _ _ rfl) .nil)) (.drop [_, _] _ _) ⟨fun q => absurd (hs.symm.trans q) (by decide), fun _ => ⟨rfl, rfl⟩⟩
  · have hs : shapedB h = true := not_f hc14
    have la3 := shaped_lim hs
    refine aw_skip ?_
    refine thn_n ?_
    refine aw_seq (aw_region ?_)
    first | refine qq rfl rfl (qr_load_all rfl rfl) ?_ | refine qq rfl rfl (qr_load_pp_all rfl rfl) ?_ | refine qq rfl rfl (qr_load_agg rfl (Nat.le_of_ble_eq_true rfl)) ?_ | refine qq rfl rfl (qr_load_pp_agg rfl (Nat.le_of_ble_eq_true rfl)) ?_
    refine aops_e rfl (oe_call rfl rfl (ownN h (la3.mono (by decide)) _) rfl ?_)
    rintro _ _ ⟨o, ho, rfl, rfl⟩
    show aops _ _ _ _ _ _ ⟨_, .box b2 28 histZ :: .box b1 28 (histC h) :: .glob 0 71 limitsC :: .glob 1 129 firstC :: .glob 2 133 acceptC :: .row o.vE.v 9 40 (o.evs.map evRw) :: .row o.vR.v 2 54 (o.ords.map ordRw) :: .row o.vM.v 4 57 (o.mats.map matRw) :: .row o.vW.v 2 60 (o.wants.map wanR) :: (scR 52 o.evs ++ (otR 3 o.ords ++ (mtR 3 o.mats ++ []))), _⟩
    first | refine aops_e rfl (oe_store_all rfl rfl rfl ?_) | refine aops_e rfl (oe_store rfl rfl rfl rfl (Nat.le_of_ble_eq_true rfl) ?_)
    refine aops_nil (thn_n ?_)
    refine aw_seq (aw_region ?_)
    first | refine qq rfl rfl (qr_load_all rfl rfl) ?_ | refine qq rfl rfl (qr_load_pp_all rfl rfl) ?_ | refine qq rfl rfl (qr_load_agg rfl (Nat.le_of_ble_eq_true rfl)) ?_ | refine qq rfl rfl (qr_load_pp_agg rfl (Nat.le_of_ble_eq_true rfl)) ?_
    refine qv rfl rfl (qv_call rfl rfl (pcall (namesO h o) (Sbs.refl _))) ?_
    refine aops_e rfl (oe_alloc rfl fun b4 => ?_)
    first | refine aops_e rfl (oe_store_all rfl rfl rfl ?_) | refine aops_e rfl (oe_store rfl rfl rfl rfl (Nat.le_of_ble_eq_true rfl) ?_)
    refine aops_nil (thn_n ?_)
    refine aw_seq (aw_region ?_)
    refine aops_e rfl (oe_alloc rfl fun b5 => ?_)
    refine aops_nil (thn_n ?_)
    refine aw_seq (aw_region ?_)
    refine aops_e rfl (oe_makeMap (enc := int2K) rfl fun r20 => ?_)
    refine aops_e rfl (oe_alloc rfl fun b6 => ?_)
    first | refine aops_e rfl (oe_store_all rfl rfl rfl ?_) | refine aops_e rfl (oe_store rfl rfl rfl rfl (Nat.le_of_ble_eq_true rfl) ?_)
    refine aops_nil (thn_n ?_)
    refine aw_seq ?_
    refine aw_seq (aw_region ?_)
    refine aops_e rfl (oe_call rfl rfl (FCall.of_fun (spoken b1 _)) rfl ?_)
    rintro _ _ ⟨b1', rfl, rfl⟩
    refine aops_nil (thn_n ?_)
    refine aw_block ?_
    refine aw_ent (ent_trans (ent_nilrow 1 9) (ent_trans (ent_nilrow 1 9) (ent_trans (ent_nilrow 1 9) (ent_nilrow 1 9)))) ?_
    refine aw_rf (fun pend h'' => pend = none ∧ ∃ (o' : OH) (A : AN) (es : List ((Int × Int) × AV)), o'.hist = (travH numStep olds0 h).1 ∧ A.map (·.2) = (travH numStep olds0 h).2.mapIdx (fun s l => l.map (nameAt (nmK h s))) ∧ (travH numStep olds0 h).2.length = 4 ∧ h'' = .box b5 61 (A.map cellA) :: .box b1 28 (namesC h ++ o'.cells) :: .box b2 28 histZ :: .box b1' 67 [.v (.pointer (some ⟨b1, 0, none⟩))] :: .box b6 63 [.v (.map (some r20))] :: .map r20 (encM int2K es) :: .box b4 61 (namesC h) :: (A.map rowA ++ .glob 0 71 limitsC :: .glob 1 129 firstC :: .glob 2 133 acceptC :: .row o'.vE.v 9 40 (o'.evs.map evRw) :: .row o'.vR.v 2 54 (o'.ords.map ordRw) :: .row o'.vM.v 4 57 (o'.mats.map matRw) :: .row o'.vW.v 2 60 (o'.wants.map wanR) :: (scR 52 o'.evs ++ (otR 3 o'.ords ++ (mtR 3 o'.mats ++ []))))) rfl (fun fn l q lp hlp => ?_) (fun q h'' hK => ?_) (fun q h'' c hK => ?_)
    · suffices hy : ∀ (s : Olds) (L : List Res) (sort : Nat) (n : Int) (sl : Value) (sz k off : Nat) (T : TypeId) (rows rows' : List (List AV)) (row : List AV), OkN h (sort, n) → INum lp q r20 b2 b4 b5 b6 h s L → rows[k]? = some row → row[off]? = some (iv n) → rows.set k (row.take off ++ [iv (numStep s sort n).1] ++ row.drop (off + 1)) = rows' → FCall Tryd.prog (yv l) [iv sort, .rp sl sz k off] (.row sl sz T rows :: L) (fun r h' => ∃ L', r = bv true ∧ INum lp q r20 b2 b4 b5 b6 h (numStep s sort n).2 L' ∧ h' = .row sl sz T rows' :: L') by
        refine ACall.mono (ACall.perm (pcs_perm (l1 := [[lp .ready none], [.defs q], [.row (.slice none 0 0) 1 9 [], .row (.slice none 0 0) 1 9 [], .row (.slice none 0 0) 1 9 [], .row (.slice none 0 0) 1 9 []], [.box b1' 67 [.v (.pointer (some ⟨b1, 0, none⟩))]], [.box b6 63 [.v (.map (some r20))], .map r20 (encM int2K [])], [.box b5 61 (([(⟨none, 0, 0⟩, []), (⟨none, 0, 0⟩, []), (⟨none, 0, 0⟩, []), (⟨none, 0, 0⟩, [])] : AN).map cellA)], [.box b4 61 (namesC h)], [.box b2 28 histZ], [.box b1 28 (namesC h ++ o.cells)], [.glob 0 71 limitsC, .glob 1 129 firstC, .glob 2 133 acceptC], [.row o.vE.v 9 40 (o.evs.map evRw), .row o.vR.v 2 54 (o.ords.map ordRw), .row o.vM.v 4 57 (o.mats.map matRw), .row o.vW.v 2 60 (o.wants.map wanR)], scR 52 o.evs, otR 3 o.ords, mtR 3 o.mats]) (l2 := [[.box b1' 67 [.v (.pointer (some ⟨b1, 0, none⟩))]], [.box b1 28 (namesC h ++ o.cells)], [.row o.vE.v 9 40 (o.evs.map evRw), .row o.vR.v 2 54 (o.ords.map ordRw), .row o.vM.v 4 57 (o.mats.map matRw), .row o.vW.v 2 60 (o.wants.map wanR)], scR 52 o.evs, otR 3 o.ords, mtR 3 o.mats, [lp .ready none], [.defs q], [.box b5 61 (([(⟨none, 0, 0⟩, []), (⟨none, 0, 0⟩, []), (⟨none, 0, 0⟩, []), (⟨none, 0, 0⟩, [])] : AN).map cellA)], [.box b6 63 [.v (.map (some r20))], .map r20 (encM int2K [])], [.box b4 61 (namesC h)], [.box b2 28 histZ], [.row (.slice none 0 0) 1 9 [], .row (.slice none 0 0) 1 9 [], .row (.slice none 0 0) 1 9 [], .row (.slice none 0 0) 1 9 []], [.glob 0 71 limitsC, .glob 1 129 firstC, .glob 2 133 acceptC]]) ((pt3 _ _ _ _ _).trans (.cons _ ((pt7 _ _ _ _ _ _ _ _ _).trans (.cons _ ((pt8 _ _ _ _ _ _ _ _ _ _).trans (.cons _ ((pt8 _ _ _ _ _ _ _ _ _ _).trans (.cons _ ((pt8 _ _ _ _ _ _ _ _ _ _).trans (.cons _ ((pt8 _ _ _ _ _ _ _ _ _ _).trans (.cons _ (.cons _ (.cons _ ((pt2 _ _ _ _).trans (.cons _ ((pt1 _ _ _).trans (.cons _ ((pt1 _ _ _).trans (.cons _ (pt1 _ _ _))))))))))))))))))))) []) (spokenW numStep (OkN h) (INum lp q r20 b2 b4 b5 b6 h) (yv l) rfl hy o (by rw [ho]; exact la) (strsA h.ts) (strsA h.ss) (strsA h.os) (strsA h.ps) b1' b1 (by rw [ho]; exact shaped_ok hs) olds0 _ ⟨kok0 h, ([(⟨none, 0, 0⟩, []), (⟨none, 0, 0⟩, []), (⟨none, 0, 0⟩, []), (⟨none, 0, 0⟩, [])] : AN), [], mapK0, rfl, rfl⟩)) ?_
        rintro _ _ ⟨o', L', ho', hcs, ⟨hk, A, es, hes, hA, rfl⟩, rfl⟩
        rw [ho] at ho' hA hk
        refine ⟨none, .ready, _, ?_, by simp, rfl, o', A, es, ho', hA, hk.four, rfl⟩
        rw [← hcs]
        exact pcs_perm (l1 := [[.box b1' 67 [.v (.pointer (some ⟨b1, 0, none⟩))]], [.box b1 28 (namesC h ++ o'.cells)], [.row o'.vE.v 9 40 (o'.evs.map evRw), .row o'.vR.v 2 54 (o'.ords.map ordRw), .row o'.vM.v 4 57 (o'.mats.map matRw), .row o'.vW.v 2 60 (o'.wants.map wanR)], scR 52 o'.evs, otR 3 o'.ords, mtR 3 o'.mats, [lp .ready none], [.defs q], [.box b5 61 (A.map cellA)], [.box b6 63 [.v (.map (some r20))], .map r20 (encM int2K es)], [.box b4 61 (namesC h)], [.box b2 28 histZ], A.map rowA, [.glob 0 71 limitsC, .glob 1 129 firstC, .glob 2 133 acceptC]]) (l2 := [[lp .ready none], [.defs q], [.box b5 61 (A.map cellA)], [.box b1 28 (namesC h ++ o'.cells)], [.box b2 28 histZ], [.box b1' 67 [.v (.pointer (some ⟨b1, 0, none⟩))]], [.box b6 63 [.v (.map (some r20))], .map r20 (encM int2K es)], [.box b4 61 (namesC h)], A.map rowA, [.glob 0 71 limitsC, .glob 1 129 firstC, .glob 2 133 acceptC], [.row o'.vE.v 9 40 (o'.evs.map evRw), .row o'.vR.v 2 54 (o'.ords.map ordRw), .row o'.vM.v 4 57 (o'.mats.map matRw), .row o'.vW.v 2 60 (o'.wants.map wanR)], scR 52 o'.evs, otR 3 o'.ords, mtR 3 o'.mats]) ((pt6 _ _ _ _ _ _ _ _).trans (.cons _ ((pt6 _ _ _ _ _ _ _ _).trans (.cons _ ((pt6 _ _ _ _ _ _ _ _).trans (.cons _ ((pt1 _ _ _).trans (.cons _ ((pt7 _ _ _ _ _ _ _ _ _).trans (.cons _ (.cons _ ((pt4 _ _ _ _ _ _).trans (.cons _ ((pt4 _ _ _ _ _ _).trans (.cons _ ((pt4 _ _ _ _ _ _).trans (.cons _ (pt4 _ _ _ _ _ _)))))))))))))))))) []
      rintro s _ sort n sl sz k off T rows rows' row ⟨hs4, hn0, hn1⟩ ⟨hk, A, es, hes, hA, rfl⟩ h1 h2 hset
      simp only at hs4 hn0 hn1
      obtain ⟨m, rfl⟩ : ∃ m : Nat, n = m := ⟨n.toNat, by omega⟩
      have hm1 : m < (nmK h sort).length := by omega
      have hl3 := la3.nm sort
      have hoff : off + 1 ≤ row.length := (List.getElem?_eq_some_iff.1 h2).1
      refine FCall.perm (pt1 _ _ _) (FCall.ventE (fcall_yl hlp rfl rfl ?_))
      refine aw_seq (aw_region ?_)
      refine qq rfl rfl (qr_assign rfl) ?_
      refine aops_nil (thn_n ?_)
      refine aw_region ?_
      refine qq rfl rfl (qr_assign rfl) ?_
      refine aops_nil (thn_n ?_)
      refine ⟨[(7, iv (sort : Nat)), (8, .rp sl sz k off), (4, .v (.pointer (some ⟨b4, 0, none⟩))), (5, .v (.pointer (some ⟨b5, 0, none⟩))), (6, .v (.pointer (some ⟨b6, 0, none⟩)))], (ent_sub (.cons _ _ _ rfl (.cons _ _ _ rfl (.cons _ _ _ rfl (.cons _ _ _ rfl (.cons _ _ _ rfl (.nil))))))), ?_⟩
      refine aw_block ?_
      refine aw_seq (aw_region ?_)
      refine qq rfl rfl (qr_move rfl) ?_
      refine qq rfl rfl (qr_move rfl) ?_
      first | refine qq rfl rfl (qr_nilCheck rfl) ?_ | refine qq rfl rfl (qr_nilCheck_pp rfl) ?_ | refine qq rfl rfl (qr_nilCheck_rp rfl) ?_
      refine qq rfl rfl (qr_load_rp_one rfl h1 h2) ?_
      refine qq rfl rfl (qr_buildArr (out := [iv (sort : Nat), iv (m : Nat)]) rfl (by rfl)) ?_
      refine aops_e rfl (oe_alloc rfl fun b9 => ?_)
      first | refine aops_e rfl (oe_store_all rfl rfl rfl ?_) | refine aops_e rfl (oe_store rfl rfl rfl rfl (Nat.le_of_ble_eq_true rfl) ?_)
      refine aops_nil (thn_n ?_)
      refine aw_seq (aw_region ?_)
      first | refine qq rfl rfl (qr_load_one rfl rfl) ?_ | refine qq rfl rfl (qr_load_pp_one rfl rfl) ?_ | refine qq rfl rfl (qr_load_rp_one rfl (by assumption) rfl) ?_
      first | refine qq rfl rfl (qr_load_all rfl rfl) ?_ | refine qq rfl rfl (qr_load_pp_all rfl rfl) ?_ | refine qq rfl rfl (qr_load_agg rfl (Nat.le_of_ble_eq_true rfl)) ?_ | refine qq rfl rfl (qr_load_pp_agg rfl (Nat.le_of_ble_eq_true rfl)) ?_
      refine qq rfl rfl (qr_lookup2 (enc := int2K) (k := ((sort : Int), ((m : Nat) : Int))) rfl rfl (hes.look _ hs4) (hes.has _ hs4)) ?_
      refine qq rfl rfl (qr_move rfl) ?_
      refine qq rfl rfl (qr_extract rfl rfl) ?_
      refine qq rfl rfl (qr_extract rfl rfl) ?_
      refine qq rfl rfl (qr_assign rfl) ?_
      refine qq rfl rfl (qr_assign rfl) ?_
      refine aops_nil (thn_n ?_)
      refine aw_seq ?_
      refine aw_seq (aw_region ?_)
      refine qq rfl rfl (qr_move rfl) ?_
      refine qq rfl rfl (qr_not rfl) ?_
      refine aops_nil (thn_n ?_)
      refine aw_cond rfl (fun hc36 => ?_) (fun hc36 => ?_)
      · have hg : posOf (m : Nat) 0 (s.getD sort []) = none := by
          have := not_t hc36
          cases hq : posOf (m : Nat) 0 (s.getD sort []) with
          | none => rfl
          | some j => rw [hq] at this; cases this
        have hAl : A.length = 4 := by have := congrArg List.length hA; simpa [hk.four] using this
        have hsA : sort < A.length := by omega
        obtain ⟨p, hp⟩ : ∃ p, A[sort]? = some p := ⟨A[sort], by simp [hsA]⟩
        obtain ⟨hp2, _⟩ := an_snd hA hp
        have hpl : p.2.length ≤ 3000 := by rw [hp2, List.length_map]; have := hk.len sort; omega
        refine aw_ent (s' := ⟨[(9, .v (.pointer (some ⟨b9, 0, none⟩))), (7, iv (sort : Nat)), (8, .rp sl sz k off), (4, .v (.pointer (some ⟨b4, 0, none⟩))), (5, .v (.pointer (some ⟨b5, 0, none⟩))), (6, .v (.pointer (some ⟨b6, 0, none⟩)))], .row p.1.v 1 9 (p.2.map strR) :: .box b9 69 [iv (sort : Nat), iv (m : Nat)] :: lp .busy none :: .row sl sz T rows :: .defs q :: .box b5 61 (A.map cellA) :: .box b6 63 [.v (.map (some r20))] :: .map r20 (encM int2K es) :: .box b4 61 (namesC h) :: .box b2 28 histZ :: ((A.eraseIdx sort).map rowA ++ [.glob 0 71 limitsC, .glob 1 129 firstC, .glob 2 133 acceptC]), []⟩) (ent_trans (ent_perm (an_outF [.box b9 69 [iv (sort : Nat), iv (m : Nat)], lp .busy none, .row sl sz T rows, .defs q, .box b5 61 (A.map cellA), .box b6 63 [.v (.map (some r20))], .map r20 (encM int2K es), .box b4 61 (namesC h), .box b2 28 histZ] [.glob 0 71 limitsC, .glob 1 129 firstC, .glob 2 133 acceptC] hp)) (ent_sub (.cons _ _ _ rfl (.cons _ _ _ rfl (.cons _ _ _ rfl (.cons _ _ _ rfl (.cons _ _ _ rfl (.cons _ _ _ rfl (.nil))))))))) ?_
        refine aw_seq (aw_region ?_)
        refine qq rfl rfl (qr_move rfl) ?_
        refine qq rfl rfl (qr_indexAddr_arr rfl rfl (by omega)) ?_
        refine qq rfl rfl (qr_load_one rfl (an_get hp)) ?_
        first | refine qq rfl rfl (qr_len_list rfl) ?_ | refine qq rfl rfl (qr_len_row rfl) ?_
        refine qq rfl rfl (qr_assign rfl) ?_
        refine aops_nil (thn_n ?_)
        refine aw_seq (aw_region ?_)
        first | refine qq rfl rfl (qr_load_one rfl rfl) ?_ | refine qq rfl rfl (qr_load_pp_one rfl rfl) ?_ | refine qq rfl rfl (qr_load_rp_one rfl (by assumption) rfl) ?_
        first | refine qq rfl rfl (qr_load_all rfl rfl) ?_ | refine qq rfl rfl (qr_load_pp_all rfl rfl) ?_ | refine qq rfl rfl (qr_load_agg rfl (Nat.le_of_ble_eq_true rfl)) ?_ | refine qq rfl rfl (qr_load_pp_agg rfl (Nat.le_of_ble_eq_true rfl)) ?_
        refine qq rfl rfl (qr_move rfl) ?_
        refine aops_e rfl (oe_mapUpdate (enc := int2K) (k := ((sort : Int), ((m : Nat) : Int))) rfl rfl rfl ?_)
        refine aops_nil (thn_n ?_)
        have hrowN : ((nmK h sort).map strR)[m]? = some (strR (nmK h sort)[m]) := by simp [hm1]
        refine aw_drawC 14 (.box b9 69 [iv (sort : Nat), iv (m : Nat)] :: lp .busy none :: .row sl sz T rows :: .defs q :: .box b5 61 (A.map cellA) :: .box b6 63 [.v (.map (some r20))] :: .map r20 (encM int2K (updM ((sort : Int), ((m : Nat) : Int)) (iv ((p.2.map strR).length : Nat)) es)) :: .box b4 61 (namesC h) :: .box b2 28 histZ :: ((A.eraseIdx sort).map rowA ++ [.glob 0 71 limitsC, .glob 1 129 firstC, .glob 2 133 acceptC])) rfl ?_
        refine mq rfl rfl (qr_move rfl) ?_
        refine mq rfl rfl (qr_move rfl) ?_
        refine mq rfl rfl (qr_indexAddr_arr rfl rfl (by omega)) ?_
        refine mq rfl rfl (qr_load_one rfl (an_get hp)) ?_
        refine mq rfl rfl (qr_move rfl) ?_
        refine mq rfl rfl (qr_indexAddr_arr rfl rfl (by omega)) ?_
        refine mq rfl rfl (qr_load_one rfl (by have := nmK_get h hs4; simpa using this)) ?_
        refine mq rfl rfl (qr_move rfl) ?_
        first | refine mq rfl rfl (qr_nilCheck rfl) ?_ | refine mq rfl rfl (qr_nilCheck_pp rfl) ?_ | refine mq rfl rfl (qr_nilCheck_rp rfl) ?_
        refine mq rfl rfl (qr_load_rp_one rfl h1 h2) ?_
        first | refine mq rfl rfl (qr_index_list rfl rfl (by assumption)) ?_ | refine mq rfl rfl (qr_index_row rfl rfl (by assumption)) ?_
        first | refine mq rfl rfl (qr_load_one rfl rfl) ?_ | refine mq rfl rfl (qr_load_pp_one rfl rfl) ?_ | refine mq rfl rfl (qr_load_rp_one rfl (by assumption) rfl) ?_
        refine mv rfl rfl (qv_buildSlice rfl rfl) ?_
        refine mapp (xs := p.2.map strR) rfl rfl rfl rfl rfl rfl (by simp; omega) (fun r hr => by simp at hr; subst hr; rfl) ?_
        refine mnil ⟨.refl _, ?_⟩
        refine mal_s ?_
        refine mal_s ?_
        refine mal_s ?_
        refine mal_s ?_
        refine mal_s ?_
        refine mal_s ?_
        refine mal_s ?_
        refine mal_s ?_
        refine mal_s ?_
        refine mal_s ?_
        refine mal_s ?_
        refine mal_s ?_
        refine mal_s ?_
        refine mal_row fun s57 => ?_
        refine mal_nil ?_
        refine qq rfl rfl (qr_indexAddr_arr rfl rfl (by omega)) ?_
        refine aops_e rfl (oe_store rfl rfl rfl rfl (by simp [hAl]; omega) ?_)
        refine aops_nil (thn_n ?_)
        refine aw_region ?_
        refine qq rfl rfl (qr_move rfl) ?_
        refine qq rfl rfl (qr_move rfl) ?_
        first | refine qq rfl rfl (qr_nilCheck rfl) ?_ | refine qq rfl rfl (qr_nilCheck_pp rfl) ?_ | refine qq rfl rfl (qr_nilCheck_rp rfl) ?_
        refine aops_e rfl (oe_store_rp rfl rfl rfl h1 rfl hoff ?_)
        refine aops_nil ?_
        refine inBlk_n ?_
        have hlen : (p.2.map strR).length = (s.getD sort []).length := by rw [hp2]; simp
        have hst : numStep s sort (m : Nat) = ((((p.2.map strR).length : Nat) : Int), s.set sort ((s.getD sort []) ++ [((m : Nat) : Int)])) := by rw [numStep, hg, hlen]
        have hkn := hk.step hs4 hn0 hn1
        rw [hst] at hkn hset ⊢
        have h57 := row57 (s := s57) (l := p.2) (nameAt_get hm1)
        exact round_n (pt2 _ _ _ _) ⟨_, (.row sl sz T rows' :: (lp .ready none :: .defs q :: .box b5 61 ((A.set sort (s57, p.2 ++ [nameAt (nmK h sort) ((m : Nat) : Int)])).map cellA) :: .box b6 63 [.v (.map (some r20))] :: .map r20 (encM int2K (updM ((sort : Int), ((m : Nat) : Int)) (iv ((p.2.map strR).length : Nat)) es)) :: .box b4 61 (namesC h) :: .box b2 28 histZ :: ((A.set sort (s57, p.2 ++ [nameAt (nmK h sort) ((m : Nat) : Int)])).map rowA ++ [.glob 0 71 limitsC, .glob 1 129 firstC, .glob 2 133 acceptC]))), (by rw [← hset, ← an_set (p := (s57, p.2 ++ [nameAt (nmK h sort) ((m : Nat) : Int)])) hsA, h57]; exact VEnt.trans (.perm (pcs_perm (l1 := [[lp .ready none], [rowA (s57, p.2 ++ [nameAt (nmK h sort) ((m : Nat) : Int)])], [.box b9 69 [iv (sort : Nat), iv (m : Nat)]], [.row sl sz T (rows.set k (row.take off ++ [iv ((p.2.map strR).length : Nat)] ++ row.drop (off + 1)))], [.defs q, .box b5 61 ((A.map cellA).take (0 + sort * 1) ++ [AV.v s57.v] ++ (A.map cellA).drop (0 + sort * 1 + [AV.v s57.v].length)), .box b6 63 [.v (.map (some r20))], .map r20 (encM int2K (updM ((sort : Int), ((m : Nat) : Int)) (iv ((p.2.map strR).length : Nat)) es)), .box b4 61 (namesC h), .box b2 28 histZ], (A.eraseIdx sort).map rowA, [.glob 0 71 limitsC, .glob 1 129 firstC, .glob 2 133 acceptC]]) (l2 := [[.box b9 69 [iv (sort : Nat), iv (m : Nat)]], [rowA (s57, p.2 ++ [nameAt (nmK h sort) ((m : Nat) : Int)])], [.row sl sz T (rows.set k (row.take off ++ [iv ((p.2.map strR).length : Nat)] ++ row.drop (off + 1)))], [lp .ready none], [.defs q, .box b5 61 ((A.map cellA).take (0 + sort * 1) ++ [AV.v s57.v] ++ (A.map cellA).drop (0 + sort * 1 + [AV.v s57.v].length)), .box b6 63 [.v (.map (some r20))], .map r20 (encM int2K (updM ((sort : Int), ((m : Nat) : Int)) (iv ((p.2.map strR).length : Nat)) es)), .box b4 61 (namesC h), .box b2 28 histZ], (A.eraseIdx sort).map rowA, [.glob 0 71 limitsC, .glob 1 129 firstC, .glob 2 133 acceptC]]) ((pt2 _ _ _ _).trans (.cons _ ((pt1 _ _ _).trans (.cons _ (pt1 _ _ _))))) []) _) (VEnt.trans (.drop1 _ _ _) (.perm (an_inF [.row sl sz T (rows.set k (row.take off ++ [iv ((p.2.map strR).length : Nat)] ++ row.drop (off + 1))), lp .ready none, .defs q, .box b5 61 ((A.map cellA).take (0 + sort * 1) ++ [AV.v s57.v] ++ (A.map cellA).drop (0 + sort * 1 + [AV.v s57.v].length)), .box b6 63 [.v (.map (some r20))], .map r20 (encM int2K (updM ((sort : Int), ((m : Nat) : Int)) (iv ((p.2.map strR).length : Nat)) es)), .box b4 61 (namesC h), .box b2 28 histZ] [.glob 0 71 limitsC, .glob 1 129 firstC, .glob 2 133 acceptC] hsA) _))), (lp .ready none :: .defs q :: .box b5 61 ((A.set sort (s57, p.2 ++ [nameAt (nmK h sort) ((m : Nat) : Int)])).map cellA) :: .box b6 63 [.v (.map (some r20))] :: .map r20 (encM int2K (updM ((sort : Int), ((m : Nat) : Int)) (iv ((p.2.map strR).length : Nat)) es)) :: .box b4 61 (namesC h) :: .box b2 28 histZ :: ((A.set sort (s57, p.2 ++ [nameAt (nmK h sort) ((m : Nat) : Int)])).map rowA ++ [.glob 0 71 limitsC, .glob 1 129 firstC, .glob 2 133 acceptC])), rfl, ⟨hkn, (A.set sort (s57, p.2 ++ [nameAt (nmK h sort) ((m : Nat) : Int)])), (updM ((sort : Int), ((m : Nat) : Int)) (iv ((p.2.map strR).length : Nat)) es), (by rw [hlen]; exact hes.step hs4 hk.four hg), an_snd_set (f := fun s => nameAt (nmK h s)) hA hp2, rfl⟩, rfl⟩
      · refine aw_skip ?_
        refine thn_n ?_
        refine aw_region ?_
        refine qq rfl rfl (qr_move rfl) ?_
        refine qq rfl rfl (qr_move rfl) ?_
        first | refine qq rfl rfl (qr_nilCheck rfl) ?_ | refine qq rfl rfl (qr_nilCheck_pp rfl) ?_ | refine qq rfl rfl (qr_nilCheck_rp rfl) ?_
        refine aops_e rfl (oe_store_rp rfl rfl rfl h1 rfl hoff ?_)
        refine aops_nil ?_
        refine inBlk_n ?_
        obtain ⟨x, hx⟩ := Option.isSome_iff_exists.1 (not_f hc36)
        have hst : numStep s sort (m : Nat) = (((x : Nat) : Int), s) := by rw [numStep, hx]
        rw [hst] at hset ⊢
        exact round_n (pt1 _ _ _) ⟨_, (.row sl sz T rows' :: (lp .ready none :: .defs q :: .box b5 61 (A.map cellA) :: .box b6 63 [.v (.map (some r20))] :: .map r20 (encM int2K es) :: .box b4 61 (namesC h) :: .box b2 28 histZ :: (A.map rowA ++ [.glob 0 71 limitsC, .glob 1 129 firstC, .glob 2 133 acceptC]))), (by rw [← hset, show ((x : Nat) : Int) = (((posOf ((m : Nat) : Int) 0 (s.getD sort [])).getD 0 : Nat) : Int) from by rw [hx]; rfl]; exact VEnt.trans (.perm (pcs_perm (l1 := [[lp .ready none], [.box b9 69 [iv (sort : Nat), iv (m : Nat)]], [.row sl sz T (rows.set k (row.take off ++ [iv (((posOf ((m : Nat) : Int) 0 (s.getD sort [])).getD 0 : Nat) : Int)] ++ row.drop (off + 1)))], [.defs q, .box b5 61 (A.map cellA), .box b6 63 [.v (.map (some r20))], .map r20 (encM int2K es), .box b4 61 (namesC h), .box b2 28 histZ], A.map rowA, [.glob 0 71 limitsC, .glob 1 129 firstC, .glob 2 133 acceptC]]) (l2 := [[.box b9 69 [iv (sort : Nat), iv (m : Nat)]], [.row sl sz T (rows.set k (row.take off ++ [iv (((posOf ((m : Nat) : Int) 0 (s.getD sort [])).getD 0 : Nat) : Int)] ++ row.drop (off + 1)))], [lp .ready none], [.defs q, .box b5 61 (A.map cellA), .box b6 63 [.v (.map (some r20))], .map r20 (encM int2K es), .box b4 61 (namesC h), .box b2 28 histZ], A.map rowA, [.glob 0 71 limitsC, .glob 1 129 firstC, .glob 2 133 acceptC]]) ((pt1 _ _ _).trans (.cons _ (pt1 _ _ _))) []) _) (.drop1 _ _ _)), (lp .ready none :: .defs q :: .box b5 61 (A.map cellA) :: .box b6 63 [.v (.map (some r20))] :: .map r20 (encM int2K es) :: .box b4 61 (namesC h) :: .box b2 28 histZ :: (A.map rowA ++ [.glob 0 71 limitsC, .glob 1 129 firstC, .glob 2 133 acceptC])), rfl, ⟨hk, A, es, hes, hA, rfl⟩, rfl⟩
    · obtain ⟨_, o', A, es, ho', hA, hk4, rfl⟩ := hK
      obtain ⟨p0, p1, p2, p3, rfl⟩ : ∃ p0 p1 p2 p3, A = [p0, p1, p2, p3] := by
        have := congrArg List.length hA
        simp [hk4] at this
        match A, this with
        | [p0, p1, p2, p3], _ => exact ⟨p0, p1, p2, p3, rfl⟩
      refine inBlk_n ?_
      refine thn_n ?_
      refine aw_seq ?_
      refine aw_drawS 14 [(b1, 28, _)] rfl ((pt2 _ _ _ _).trans (List.perm_append_comm (l₁ := [_]))) ?_
      refine dq rfl rfl (qr_indexAddr_int rfl rfl (by decide) (by decide)) ?_
      first | refine dq rfl rfl (qr_load_one rfl rfl) ?_ | refine dq rfl rfl (qr_load_pp_one rfl rfl) ?_ | refine dq rfl rfl (qr_load_rp_one rfl (by assumption) rfl) ?_
      refine dq rfl rfl (qr_indexAddr_int rfl rfl (by decide) (by decide)) ?_
      first | refine dq rfl rfl (qr_load_one rfl rfl) ?_ | refine dq rfl rfl (qr_load_pp_one rfl rfl) ?_ | refine dq rfl rfl (qr_load_rp_one rfl (by assumption) rfl) ?_
      refine dq rfl rfl (qr_indexAddr_int rfl rfl (by decide) (by decide)) ?_
      first | refine dq rfl rfl (qr_load_one rfl rfl) ?_ | refine dq rfl rfl (qr_load_pp_one rfl rfl) ?_ | refine dq rfl rfl (qr_load_rp_one rfl (by assumption) rfl) ?_
      refine dq rfl rfl (qr_indexAddr_int rfl rfl (by decide) (by decide)) ?_
      first | refine dq rfl rfl (qr_load_one rfl rfl) ?_ | refine dq rfl rfl (qr_load_pp_one rfl rfl) ?_ | refine dq rfl rfl (qr_load_rp_one rfl (by assumption) rfl) ?_
      first | refine dq rfl rfl (qr_fieldAddr rfl (Nat.succ_ne_zero _)) ?_ | refine dq rfl rfl (qr_fieldAddr_pp rfl (Nat.succ_ne_zero _)) ?_ | refine dq rfl rfl (qr_fieldAddr_rp rfl (Nat.succ_ne_zero _)) ?_ | refine dq rfl rfl (qr_fieldAddr_row rfl (Nat.succ_ne_zero _)) ?_
      refine dw 0 rfl rfl rfl rfl rfl (Nat.le_of_ble_eq_true rfl) ?_
      first | refine dq rfl rfl (qr_fieldAddr rfl (Nat.succ_ne_zero _)) ?_ | refine dq rfl rfl (qr_fieldAddr_pp rfl (Nat.succ_ne_zero _)) ?_ | refine dq rfl rfl (qr_fieldAddr_rp rfl (Nat.succ_ne_zero _)) ?_ | refine dq rfl rfl (qr_fieldAddr_row rfl (Nat.succ_ne_zero _)) ?_
      refine dw 0 rfl rfl rfl rfl rfl (Nat.le_of_ble_eq_true rfl) ?_
      first | refine dq rfl rfl (qr_fieldAddr rfl (Nat.succ_ne_zero _)) ?_ | refine dq rfl rfl (qr_fieldAddr_pp rfl (Nat.succ_ne_zero _)) ?_ | refine dq rfl rfl (qr_fieldAddr_rp rfl (Nat.succ_ne_zero _)) ?_ | refine dq rfl rfl (qr_fieldAddr_row rfl (Nat.succ_ne_zero _)) ?_
      refine dw 0 rfl rfl rfl rfl rfl (Nat.le_of_ble_eq_true rfl) ?_
      refine dnil ⟨rfl, ?_⟩
      refine dalloc_s rfl ?_
      refine dalloc_s rfl ?_
      refine dalloc_s rfl ?_
      refine dalloc_s rfl ?_
      refine dalloc_s rfl ?_
      refine dalloc_s rfl ?_
      refine dalloc_s rfl ?_
      refine dalloc_s rfl ?_
      refine dalloc_s rfl ?_
      refine dalloc_s rfl ?_
      refine dalloc_s rfl ?_
      refine dalloc_s rfl ?_
      refine dalloc_s rfl ?_
      refine dalloc_s rfl ?_
      refine dalloc_nil ?_
      show aops _ _ _ _ _ _ ⟨_, .box b1 28 [.v p0.1.v, .v p1.1.v, .v p2.1.v, strsA h.ps, .v o'.vE.v, .v o'.vR.v, .v o'.vM.v, .v o'.vW.v] :: .defs q :: .box b5 61 (([p0, p1, p2, p3] : AN).map cellA) :: .box b2 28 histZ :: .box b1' 67 [.v (.pointer (some ⟨b1, 0, none⟩))] :: .box b6 63 [.v (.map (some r20))] :: .map r20 (encM int2K es) :: .box b4 61 (namesC h) :: rowA p0 :: rowA p1 :: rowA p2 :: rowA p3 :: .glob 0 71 limitsC :: .glob 1 129 firstC :: .glob 2 133 acceptC :: .row o'.vE.v 9 40 (o'.evs.map evRw) :: .row o'.vR.v 2 54 (o'.ords.map ordRw) :: .row o'.vM.v 4 57 (o'.mats.map matRw) :: .row o'.vW.v 2 60 (o'.wants.map wanR) :: (scR 52 o'.evs ++ (otR 3 o'.ords ++ (mtR 3 o'.mats ++ []))), _⟩
      first | refine qq rfl rfl (qr_fieldAddr rfl (Nat.succ_ne_zero _)) ?_ | refine qq rfl rfl (qr_fieldAddr_pp rfl (Nat.succ_ne_zero _)) ?_ | refine qq rfl rfl (qr_fieldAddr_rp rfl (Nat.succ_ne_zero _)) ?_ | refine qq rfl rfl (qr_fieldAddr_row rfl (Nat.succ_ne_zero _)) ?_
      first | refine aops_e rfl (oe_store_all rfl rfl rfl ?_) | refine aops_e rfl (oe_store rfl rfl rfl rfl (Nat.le_of_ble_eq_true rfl) ?_)
      refine aops_nil (thn_n ?_)
      refine aw_seq (aw_region ?_)
      first | refine qq rfl rfl (qr_load_all rfl rfl) ?_ | refine qq rfl rfl (qr_load_pp_all rfl rfl) ?_ | refine qq rfl rfl (qr_load_agg rfl (Nat.le_of_ble_eq_true rfl)) ?_ | refine qq rfl rfl (qr_load_pp_agg rfl (Nat.le_of_ble_eq_true rfl)) ?_
      first | refine aops_e rfl (oe_store_all rfl rfl rfl ?_) | refine aops_e rfl (oe_store rfl rfl rfl rfl (Nat.le_of_ble_eq_true rfl) ?_)
      refine qq rfl rfl (qr_assign rfl) ?_
      refine aops_nil (thn_n ?_)
      refine aw_ret ?_
      have q0 := (an_snd (f := fun s => nameAt (nmK h s)) (s := 0) hA rfl).1
      have q1 := (an_snd (f := fun s => nameAt (nmK h s)) (s := 1) hA rfl).1
      have q2 := (an_snd (f := fun s => nameAt (nmK h s)) (s := 2) hA rfl).1
      have q3 := (an_snd (f := fun s => nameAt (nmK h s)) (s := 3) hA rfl).1
      have hH : ({ o' with ts := p0.2, ss := p1.2, os := p2.2, ps := p3.2 } : OH).hist = numberH h := by
        unfold numberH
        simp only
        rw [← ho', q0, q1, q2, q3]
        rfl
      exact retqd (pt1 _ _ _) (.cons _ _ _ _ (.agg _ _ _ _ _ _ _ rfl inferInstance inferInstance inferInstance rfl) (.cons _ _ _ _ (.tmp _ _ rfl) .nil)) (.trans (.perm (pcs_perm (l1 := [[_, _, _, _, _, _, _], [rowA p0, rowA p1, rowA p2, rowA p3], [.glob 0 71 limitsC, .glob 1 129 firstC, .glob 2 133 acceptC]]) (l2 := [[_, _, _, _, _, _, _], [.glob 0 71 limitsC, .glob 1 129 firstC, .glob 2 133 acceptC], [rowA p0, rowA p1, rowA p2, rowA p3]]) (.cons _ (pt1 _ _ _)) _) _) (.drop [_, _, _, _, _, _, _] _ _)) ⟨fun _ => ⟨⟨p0.1, p1.1, p2.1, p3.1⟩, _, hH, by rw [← hH]; rfl, rfl⟩, fun q => absurd (q.symm.trans hs) (by decide)⟩
    · cases hK.1
end Go.Proofs
/- The walk of history.Check. Conditions: none. -/
set_option linter.unusedVariables false
set_option linter.unusedSimpArgs false
set_option maxRecDepth 10000
namespace Go.Proofs
open Go Go.Ab
open Go.H
def IJC (lp : LP) (q b2 b3 : Nat) : Option (List Int) → List Res → Prop
  | some m, L => L = lp .ready none :: .defs q :: .box b3 71 ((m).map iv) :: .box b2 31 [iv 0] :: [.glob 0 71 limitsC, .glob 1 129 firstC, .glob 2 133 acceptC] ∧ m.length = 4
  | none, L => ∃ m : List Int, L = lp .done (some .ret) :: .defs q :: .box b3 71 ((m).map iv) :: .box b2 31 [iv 210] :: [.glob 0 71 limitsC, .glob 1 129 firstC, .glob 2 133 acceptC]
theorem check (h : Hist) (la : Lim 4611686018427387904 h) : ACall Tryd.prog 8 [.agg (histC h)] [.glob 0 71 limitsC, .glob 1 129 firstC, .glob 2 133 acceptC] (fun r h' => h' = [.glob 0 71 limitsC, .glob 1 129 firstC, .glob 2 133 acceptC] ∧ r = iv (checkE h)) := by
  refine acall_of_aw Tryd.func8 rfl rfl rfl ?_
  refine aw_seq (aw_region ?_)
  refine aops_e rfl (oe_box rfl rfl rfl fun b1 => ?_)
  refine aops_e rfl (oe_alloc rfl fun b2 => ?_)
  refine aops_nil (thn_n ?_)
  refine aw_seq ?_
  refine aw_seq (aw_region ?_)
  first | refine qq rfl rfl (qr_load_all rfl rfl) ?_ | refine qq rfl rfl (qr_load_pp_all rfl rfl) ?_ | refine qq rfl rfl (qr_load_agg rfl (Nat.le_of_ble_eq_true rfl)) ?_ | refine qq rfl rfl (qr_load_pp_agg rfl (Nat.le_of_ble_eq_true rfl)) ?_
  refine qv rfl rfl (qv_call rfl rfl (FCall.qt (FCall.of_fun (shaped h la)) ((pt2 _ _ _ _).trans (.cons _ ((pt2 _ _ _ _).trans (.cons _ (pt2 _ _ _ _))))))) ?_
  refine qq rfl rfl (qr_not rfl) ?_
  refine aops_nil (thn_n ?_)
  refine aw_cond rfl (fun hc10 => ?_) (fun hc10 => ?_)
  · have hs : shapedB h = false := not_t hc10
    refine aw_seq (aw_region ?_)
    first | refine aops_e rfl (oe_store_all rfl rfl rfl ?_) | refine aops_e rfl (oe_store rfl rfl rfl rfl (Nat.le_of_ble_eq_true rfl) ?_)
    refine aops_nil (thn_n ?_)
    refine aw_ret ?_
    refine thn_r ?_
    exact retq (.cons _ _ _ _ (.one _ _ _ _ _ _ _ rfl inferInstance inferInstance rfl) .nil) (.drop [_, _] _ _) ⟨rfl, congrArg iv (check_no hs).symm⟩
  · have hs : shapedB h = true := not_f hc10
    refine aw_skip ?_
    refine thn_n ?_
    refine aw_seq (aw_region ?_)
    refine aops_e rfl (oe_alloc rfl fun b3 => ?_)
    refine aops_nil (thn_n ?_)
    refine aw_seq ?_
    refine aw_seq (aw_region ?_)
    refine aops_e rfl (oe_call rfl rfl (FCall.of_fun (spoken b1 _)) rfl ?_)
    rintro _ _ ⟨b1', rfl, rfl⟩
    refine aops_nil (thn_n ?_)
    refine aw_block ?_
    refine aw_rf (fun pend h'' => (pend = none ∧ ∃ m : List Int, manyL h = some m ∧ m.length = 4 ∧ h'' = .box b1' 67 [.v (.pointer (some ⟨b1, 0, none⟩))] :: .box b1 28 (histC h) :: .box b3 71 ((m).map iv) :: .box b2 31 [iv 0] :: [.glob 0 71 limitsC, .glob 1 129 firstC, .glob 2 133 acceptC]) ∨ (pend = some .ret ∧ manyL h = none ∧ ∃ m : List Int, h'' = .box b1' 67 [.v (.pointer (some ⟨b1, 0, none⟩))] :: .box b1 28 (histC h) :: .box b3 71 ((m).map iv) :: .box b2 31 [iv 210] :: [.glob 0 71 limitsC, .glob 1 129 firstC, .glob 2 133 acceptC])) rfl (fun fn l q lp hlp => ?_) (fun q h'' hK => ?_) (fun q h'' c hK => ?_)
    · suffices hy : ∀ (s : List Int) (L : List Res) (sort : Nat) (n : Int) (cells : List AV), OkN h (sort, n) → IJC lp q b2 b3 (some s) L → FCall Tryd.prog (yv l) [iv sort, .pp (iv n :: cells)] L (fun r h' => r = bv (manyStep s (sort, n)).isSome ∧ IJC lp q b2 b3 (manyStep s (sort, n)) h') by
        refine ACall.mono (ACall.perm ((pt2 _ _ _ _).trans (.cons _ (pt4 _ _ _ _ _ _))) (spokenR manyStep (OkN h) (IJC lp q b2 b3) (yv l) rfl hy h la b1' b1 (shaped_ok hs) [0, 0, 0, 0] _ ⟨rfl, rfl⟩)) ?_
        rintro _ _ ⟨L', hI, rfl⟩
        cases hm : goes manyStep (some [0, 0, 0, 0]) (spokenL h) with
        | some m =>
          rw [hm] at hI
          obtain ⟨rfl, hl⟩ := hI
          exact ⟨_, _, _, ((pt2 _ _ _ _).trans (.cons _ (pt2 _ _ _ _))), by simp, .inl ⟨rfl, m, hm, hl, rfl⟩⟩
        | none =>
          rw [hm] at hI
          obtain ⟨m, rfl⟩ := hI
          exact ⟨_, _, _, ((pt2 _ _ _ _).trans (.cons _ (pt2 _ _ _ _))), by simp, .inr ⟨rfl, hm, m, rfl⟩⟩
      rintro m _ sort n cells ⟨hs4, hn0, hn1⟩ ⟨rfl, hl⟩
      simp only at hs4 hn0 hn1
      have hnm := la.nm sort
      refine fcall_yl hlp rfl rfl ?_
      refine aw_seq (aw_region ?_)
      refine qq rfl rfl (qr_assign rfl) ?_
      refine aops_nil (thn_n ?_)
      refine aw_region ?_
      refine qq rfl rfl (qr_assign rfl) ?_
      refine aops_nil (thn_n ?_)
      refine ⟨[(4, iv sort), (5, .pp (iv n :: cells)), (3, .v (.pointer (some ⟨b3, 0, none⟩))), (2, .v (.pointer (some ⟨b2, 0, none⟩)))], (ent_sub (.cons _ _ _ rfl (.cons _ _ _ rfl (.cons _ _ _ rfl (.cons _ _ _ rfl (.nil)))))), ?_⟩
      refine aw_block ?_
      refine aw_seq ?_
      refine aw_seq ?_
      refine aw_draw 6 rfl ?_
      refine dq rfl rfl (qr_move rfl) ?_
      first | refine dq rfl rfl (qr_nilCheck rfl) ?_ | refine dq rfl rfl (qr_nilCheck_pp rfl) ?_ | refine dq rfl rfl (qr_nilCheck_rp rfl) ?_
      first | refine dq rfl rfl (qr_load_one rfl rfl) ?_ | refine dq rfl rfl (qr_load_pp_one rfl rfl) ?_
      refine dq rfl rfl (qr_move rfl) ?_
      refine dq rfl rfl (qr_indexAddr_arr rfl rfl hs4) ?_
      refine dq rfl rfl (qr_load_one rfl (get4 hl hs4)) ?_
      refine dnil ⟨rfl, ?_⟩
      refine dalloc_s rfl ?_
      refine dalloc_s rfl ?_
      refine dalloc_s rfl ?_
      refine dalloc_s rfl ?_
      refine dalloc_s rfl ?_
      refine dalloc_s rfl ?_
      refine dalloc_nil ?_
      refine qq rfl rfl (qr_cmp rfl rfl rfl) ?_
      refine aops_nil (thn_n ?_)
      refine aw_cond rfl (fun hc20 => ?_) (fun hc20 => ?_)
      · refine aw_seq (aw_region ?_)
        first | refine aops_e rfl (oe_store_all rfl rfl rfl ?_) | refine aops_e rfl (oe_store rfl rfl rfl rfl (Nat.le_of_ble_eq_true rfl) ?_)
        refine aops_nil (thn_n ?_)
        refine aw_ret ?_
        refine thn_r ?_
        refine inBlk_r ?_
        have hst : manyStep m (sort, n) = none := by rw [manyStep]; exact if_pos (by simpa using hc20)
        exact round_r (.refl _) (by rw [hst]; exact ⟨rfl, _, rfl⟩)
      · refine aw_skip ?_
        refine thn_n ?_
        refine aw_draw 9 rfl ?_
        refine dq rfl rfl (qr_move rfl) ?_
        refine dq rfl rfl (qr_move rfl) ?_
        refine dq rfl rfl (qr_indexAddr_arr rfl rfl hs4) ?_
        refine dq rfl rfl (qr_load_one rfl (get4 hl hs4)) ?_
        refine dq rfl rfl (qr_move rfl) ?_
        first | refine dq rfl rfl (qr_nilCheck rfl) ?_ | refine dq rfl rfl (qr_nilCheck_pp rfl) ?_ | refine dq rfl rfl (qr_nilCheck_rp rfl) ?_
        first | refine dq rfl rfl (qr_load_one rfl rfl) ?_ | refine dq rfl rfl (qr_load_pp_one rfl rfl) ?_
        refine dq rfl rfl (qr_ari rfl rfl rfl (by omega)) ?_
        refine dq rfl rfl (qr_max2 rfl rfl) ?_
        refine dnil ⟨rfl, ?_⟩
        refine dalloc_s rfl ?_
        refine dalloc_s rfl ?_
        refine dalloc_s rfl ?_
        refine dalloc_s rfl ?_
        refine dalloc_s rfl ?_
        refine dalloc_s rfl ?_
        refine dalloc_s rfl ?_
        refine dalloc_s rfl ?_
        refine dalloc_s rfl ?_
        refine dalloc_nil ?_
        refine qq rfl rfl (qr_indexAddr_arr rfl rfl hs4) ?_
        refine aops_e rfl (oe_store rfl rfl rfl rfl (by simp [hl]; omega) ?_)
        refine aops_nil ?_
        refine inBlk_n ?_
        have hst : manyStep m (sort, n) = some (m.set sort (max (m.getD sort 0) (n + 1))) := by rw [manyStep]; exact if_neg (by simpa using hc20)
        exact round_n (.refl _) (by rw [hst]; exact ⟨rfl, by rw [← set4 hl hs4]; rfl, by simpa using hl⟩)
    · obtain ⟨_, m, hm, hl, rfl⟩ | ⟨hc, _⟩ := hK
      rotate_left
      · cases hc
      refine inBlk_n ?_
      refine thn_n ?_
      refine aw_seq ?_
      refine aw_seq (aw_region ?_)
      first | refine qq rfl rfl (qr_load_all rfl rfl) ?_ | refine qq rfl rfl (qr_load_pp_all rfl rfl) ?_ | refine qq rfl rfl (qr_load_agg rfl (Nat.le_of_ble_eq_true rfl)) ?_ | refine qq rfl rfl (qr_load_pp_agg rfl (Nat.le_of_ble_eq_true rfl)) ?_
      refine qv rfl rfl (qv_call rfl rfl (pcall (names _) (Sbs.refl _))) ?_
      refine qq rfl rfl (qr_move rfl) ?_
      refine aops_nil (thn_n ?_)
      refine aw_block ?_
      refine aw_loop' (fun k : Nat => k ≤ 4 ∧ ∀ j, j < k → m.getD j 0 = (nmK h j).length) (fun k => ⟨[(33, iv k), (32, .agg (namesC h)), (3, .v (.pointer (some ⟨b3, 0, none⟩))), (2, .v (.pointer (some ⟨b2, 0, none⟩)))], .defs q :: .box b1' 67 [.v (.pointer (some ⟨b1, 0, none⟩))] :: .box b1 28 (histC h) :: .box b3 71 ((m).map iv) :: .box b2 31 [iv 0] :: [.glob 0 71 limitsC, .glob 1 129 firstC, .glob 2 133 acceptC], [q]⟩) (fun k => 4 - k) 0 ⟨by omega, fun j hj => absurd hj (Nat.not_lt_zero j)⟩
        (ent_sub (.cons _ _ _ rfl (.cons _ _ _ rfl (.cons _ _ _ rfl (.cons _ _ _ rfl (.nil)))))) ?_
      rintro k ⟨hk, hz⟩
      refine aw_seq (aw_region ?_)
      refine qq rfl rfl (qr_cmp rfl rfl rfl) ?_
      refine aops_nil (thn_n ?_)
      refine aw_seq ?_
      refine aw_cond rfl (fun hc34 => ?_) (fun hc34 => ?_)
      · have hk4 : k < 4 := by simp at hc34; omega
        refine aw_skip ?_
        refine thn_n ?_
        refine aw_seq ?_
        refine aw_block ?_
        refine aw_seq (aw_region ?_)
        refine qq rfl rfl (qr_move rfl) ?_
        refine qq rfl rfl (qr_index_arr_one rfl rfl (by omega) (by have := nmK_get h hk4; simpa using this)) ?_
        refine qq rfl rfl (qr_assign rfl) ?_
        refine qq rfl rfl (qr_assign rfl) ?_
        refine aops_nil (thn_n ?_)
        refine aw_seq (aw_region ?_)
        refine qq rfl rfl (qr_move rfl) ?_
        refine qq rfl rfl (qr_indexAddr_arr rfl rfl hk4) ?_
        refine qq rfl rfl (qr_load_one rfl (get4 hl hk4)) ?_
        refine qq rfl rfl (qr_move rfl) ?_
        refine qq rfl rfl (qr_len_list rfl) ?_
        refine qq rfl rfl (qr_cmp rfl rfl rfl) ?_
        refine aops_nil (thn_n ?_)
        refine aw_cond rfl (fun hc42 => ?_) (fun hc42 => ?_)
        · refine aw_seq (aw_region ?_)
          first | refine aops_e rfl (oe_store_all rfl rfl rfl ?_) | refine aops_e rfl (oe_store rfl rfl rfl rfl (Nat.le_of_ble_eq_true rfl) ?_)
          refine aops_nil (thn_n ?_)
          refine aw_ret ?_
          refine inBlk_r ?_
          refine thn_r ?_
          refine thn_r ?_
          refine inBlk_r ?_
          refine thn_r ?_
          exact retqd (.refl _) (.cons _ _ _ _ (.one _ _ _ _ _ _ _ rfl inferInstance inferInstance rfl) .nil) (.drop [_, _, _, _] _ _) ⟨rfl, congrArg iv (check_ne hm hk4 (by simpa using hc42)).symm⟩
        · refine aw_skip ?_
          refine inBlk_n ?_
          refine thn_n ?_
          refine aw_region ?_
          refine qq rfl rfl (qr_ari rfl rfl rfl (by omega)) ?_
          refine qq rfl rfl (qr_move rfl) ?_
          refine aops_nil (thn_n ?_)
          exact ⟨k + 1, ⟨by omega, fun j hj => by
            by_cases hjk : j = k
            · subst hjk; simpa using hc42
            · exact hz j (by omega)⟩, (ent_sub (.cons _ _ _ rfl (.cons _ _ _ rfl (.cons _ _ _ rfl (.cons _ _ _ rfl (.nil)))))), by omega⟩
      · have hk4 : k = 4 := by simp at hc34; omega
        subst hk4
        refine aw_exit ?_
        refine thn_e ?_
        refine thn_e ?_
        refine inBlk_hit ?_
        refine thn_n ?_
        refine aw_seq (aw_region ?_)
        first | refine aops_e rfl (oe_store_all rfl rfl rfl ?_) | refine aops_e rfl (oe_store rfl rfl rfl rfl (Nat.le_of_ble_eq_true rfl) ?_)
        refine aops_nil (thn_n ?_)
        refine aw_ret ?_
        exact retqd (.refl _) (.cons _ _ _ _ (.one _ _ _ _ _ _ _ rfl inferInstance inferInstance rfl) .nil) (.drop [_, _, _, _] _ _) ⟨rfl, congrArg iv (check_eq hs hm hl hz).symm⟩
    · obtain ⟨hc, _⟩ | ⟨hc, hm, m, rfl⟩ := hK
      · cases hc
      obtain rfl : c = .ret := by simpa using hc
      refine aw_ret ?_
      refine inBlk_r ?_
      refine thn_r ?_
      exact retqd (.refl _) (.cons _ _ _ _ (.one _ _ _ _ _ _ _ rfl inferInstance inferInstance rfl) .nil) (.drop [_, _, _, _] _ _) ⟨rfl, congrArg iv (check_none hm).symm⟩
end Go.Proofs
/- The walk of history.Of. Conditions: none. -/
set_option linter.unusedVariables false
set_option linter.unusedSimpArgs false
set_option maxRecDepth 10000
namespace Go.Proofs
open Go Go.Ab
open Go.H
theorem ofO (h : Hist) (t : Int) (la : Lim 4611686018427387904 h) : ACall Tryd.prog 13 [.agg (histC h), iv t] [.glob 0 71 limitsC, .glob 1 129 firstC, .glob 2 133 acceptC] (fun r h' => ∃ s, h' = .row s 1 3 ((ofR h t).map intR) :: [.glob 0 71 limitsC, .glob 1 129 firstC, .glob 2 133 acceptC] ∧ r = .tup [.v s, iv (checkE h)]) := by
  refine acall_of_aw Tryd.func13 rfl rfl rfl ?_
  refine aw_seq (aw_region ?_)
  refine aops_e rfl (oe_box rfl rfl rfl fun b2 => ?_)
  refine qq rfl rfl (qr_assign rfl) ?_
  refine qq rfl rfl (qr_assign rfl) ?_
  refine aops_nil (thn_n ?_)
  refine aw_seq ?_
  refine aw_seq (aw_region ?_)
  first | refine qq rfl rfl (qr_load_all rfl rfl) ?_ | refine qq rfl rfl (qr_load_pp_all rfl rfl) ?_ | refine qq rfl rfl (qr_load_agg rfl (Nat.le_of_ble_eq_true rfl)) ?_ | refine qq rfl rfl (qr_load_pp_agg rfl (Nat.le_of_ble_eq_true rfl)) ?_ | refine qq rfl rfl (qr_load_rp_all rfl (by assumption) rfl) ?_
  refine qv rfl rfl (qv_call rfl rfl (FCall.qt (FCall.of_fun (check h la)) ((pt1 _ _ _).trans (.cons _ ((pt1 _ _ _).trans (.cons _ (pt1 _ _ _))))))) ?_
  refine qq rfl rfl (qr_assign rfl) ?_
  refine aops_nil (thn_n ?_)
  refine aw_seq (aw_region ?_)
  refine qq rfl rfl (qr_move rfl) ?_
  refine qq rfl rfl (qr_cmp rfl rfl rfl) ?_
  refine aops_nil (thn_n ?_)
  refine aw_cond rfl (fun hc13 => ?_) (fun hc13 => ?_)
  · have hm : mayB h = false := by
      cases hq : mayB h with
      | false => rfl
      | true => rw [check_0.2 hq] at hc13; cases hc13
    refine aw_seq (aw_region ?_)
    refine qq rfl rfl (qr_move rfl) ?_
    refine qq rfl rfl (qr_assign rfl) ?_
    refine qq rfl rfl (qr_assign rfl) ?_
    refine aops_nil (thn_n ?_)
    refine aw_ret ?_
    refine thn_r ?_
    exact retq (.cons _ _ _ _ (.tmp _ _ rfl) (.cons _ _ _ _ (.tmp _ _ rfl) .nil)) (.trans (.drop1 _ _ _) (vent_nilrow 1 3 _)) ⟨.slice none 0 0, by rw [ofR, hm]; rfl, rfl⟩
  · have hm : mayB h = true := check_0.1 (by simpa using hc13)
    have la3 := shaped_lim (may_shaped hm)
    have hle := la3.evs
    refine aw_skip ?_
    refine thn_n ?_
    refine aw_seq (aw_region ?_)
    refine qq rfl rfl (qr_assign rfl) ?_
    refine aops_nil (thn_n ?_)
    refine aw_seq ?_
    refine aw_seq (aw_region ?_)
    first | refine qq rfl rfl (qr_fieldAddr rfl (Nat.succ_ne_zero _)) ?_ | refine qq rfl rfl (qr_fieldAddr_pp rfl (Nat.succ_ne_zero _)) ?_ | refine qq rfl rfl (qr_fieldAddr_rp rfl (Nat.succ_ne_zero _)) ?_ | refine qq rfl rfl (qr_fieldAddr_row rfl (Nat.succ_ne_zero _)) ?_
    first | refine qq rfl rfl (qr_load_one rfl rfl) ?_ | refine qq rfl rfl (qr_load_pp_one rfl rfl) ?_ | refine qq rfl rfl (qr_load_rp_one rfl (by assumption) rfl) ?_
    first | refine qq rfl rfl (qr_len_list rfl) ?_ | refine qq rfl rfl (qr_len_row rfl) ?_
    refine qq rfl rfl (qr_move rfl) ?_
    refine aops_nil (thn_n ?_)
    refine aw_block ?_
    refine aw_loop' (fun x : Nat × List Int × Value => x.1 ≤ h.evs.length ∧ x.2.1.length ≤ x.1 ∧ ofL t 0 h.evs = x.2.1 ++ ofL t x.1 (h.evs.drop x.1)) (fun x => ⟨[(18, iv x.1), (17, iv (h.evs.map evR).length), (16, evsA h.evs), (1, iv t), (7, .v x.2.2), (2, .v (.pointer (some ⟨b2, 0, none⟩)))], .row x.2.2 1 3 (x.2.1.map intR) :: .box b2 28 (histC h) :: [.glob 0 71 limitsC, .glob 1 129 firstC, .glob 2 133 acceptC], []⟩) (fun x => h.evs.length - x.1) (0, [], .slice none 0 0) ⟨by omega, by simp, by simp⟩
      (ent_trans (ent_nilrow 1 3) (ent_sub (.cons _ _ _ rfl (.cons _ _ _ rfl (.cons _ _ _ rfl (.cons _ _ _ rfl (.cons _ _ _ rfl (.cons _ _ _ rfl (.nil))))))))) ?_
    rintro ⟨k, d, s⟩ ⟨hk, hdk, hd⟩
    simp only at hk hdk hd
    refine aw_seq (aw_region ?_)
    refine qq rfl rfl (qr_cmp rfl rfl rfl) ?_
    refine aops_nil (thn_n ?_)
    refine aw_seq ?_
    refine aw_cond rfl (fun hc19 => ?_) (fun hc19 => ?_)
    · have hk2 : k < h.evs.length := by simpa using hc19
      obtain ⟨e, he⟩ : ∃ e, e = h.evs[k] := ⟨_, rfl⟩
      have hrow : (h.evs.map evR)[k]? = some (evR e) := by rw [he]; simp [hk2]
      have hdr := List.drop_eq_getElem_cons hk2
      rw [← he] at hdr
      refine aw_skip ?_
      refine thn_n ?_
      refine aw_seq ?_
      refine aw_block ?_
      refine aw_seq (aw_region ?_)
      refine qq rfl rfl (qr_move rfl) ?_
      first | refine qq rfl rfl (qr_index_list rfl rfl (by assumption)) ?_ | refine qq rfl rfl (qr_index_row rfl rfl (by assumption)) ?_
      first | refine qq rfl rfl (qr_load_all rfl rfl) ?_ | refine qq rfl rfl (qr_load_pp_all rfl rfl) ?_ | refine qq rfl rfl (qr_load_agg rfl (Nat.le_of_ble_eq_true rfl)) ?_ | refine qq rfl rfl (qr_load_pp_agg rfl (Nat.le_of_ble_eq_true rfl)) ?_ | refine qq rfl rfl (qr_load_rp_all rfl (by assumption) rfl) ?_
      refine aops_e rfl (oe_alloc rfl fun b9 => ?_)
      refine qq rfl rfl (qr_assign rfl) ?_
      first | refine aops_e rfl (oe_store_all rfl rfl rfl ?_) | refine aops_e rfl (oe_store rfl rfl rfl rfl (Nat.le_of_ble_eq_true rfl) ?_)
      refine aops_nil (thn_n ?_)
      refine aw_seq (aw_region ?_)
      first | refine qq rfl rfl (qr_fieldAddr rfl (Nat.succ_ne_zero _)) ?_ | refine qq rfl rfl (qr_fieldAddr_pp rfl (Nat.succ_ne_zero _)) ?_ | refine qq rfl rfl (qr_fieldAddr_rp rfl (Nat.succ_ne_zero _)) ?_ | refine qq rfl rfl (qr_fieldAddr_row rfl (Nat.succ_ne_zero _)) ?_
      first | refine qq rfl rfl (qr_load_one rfl rfl) ?_ | refine qq rfl rfl (qr_load_pp_one rfl rfl) ?_ | refine qq rfl rfl (qr_load_rp_one rfl (by assumption) rfl) ?_
      refine qq rfl rfl (qr_move rfl) ?_
      refine qq rfl rfl (qr_cmp rfl rfl rfl) ?_
      refine aops_nil (thn_n ?_)
      refine aw_cond rfl (fun hc26 => ?_) (fun hc26 => ?_)
      · have het : e.t = t := by simpa using hc26
        refine aw_region ?_
        refine qq rfl rfl (qr_move rfl) ?_
        refine qq rfl rfl (qr_move rfl) ?_
        refine qv rfl rfl (qv_buildSlice rfl rfl) ?_
        refine aops_e rfl (oe_append_row rfl rfl (by simp; omega) rfl (fun s30 => ?_) (fun r hr => by simp at hr; subst hr; rfl))
        refine qq rfl rfl (qr_assign rfl) ?_
        refine aops_nil ?_
        refine inBlk_n ?_
        refine thn_n ?_
        refine aw_region ?_
        refine qq rfl rfl (qr_ari rfl rfl rfl (by omega)) ?_
        refine qq rfl rfl (qr_move rfl) ?_
        refine aops_nil (thn_n ?_)
        exact ⟨(k + 1, d ++ [(k : Int)], s30), ⟨by omega, by simp; omega, by rw [hd, hdr, ofL, if_pos het]; simp⟩, (by rw [show (d ++ [(k : Int)]).map intR = d.map intR ++ [[iv k]] from by simp [intR]]; exact (ent_trans (ent_drop (h1 := [_])) (ent_sub (.cons _ _ _ rfl (.cons _ _ _ rfl (.cons _ _ _ rfl (.cons _ _ _ rfl (.cons _ _ _ rfl (.cons _ _ _ rfl (.nil)))))))))), by simp only; omega⟩
      · have het : ¬ e.t = t := by simpa using hc26
        refine aw_skip ?_
        refine inBlk_n ?_
        refine thn_n ?_
        refine aw_region ?_
        refine qq rfl rfl (qr_ari rfl rfl rfl (by omega)) ?_
        refine qq rfl rfl (qr_move rfl) ?_
        refine aops_nil (thn_n ?_)
        exact ⟨(k + 1, d, s), ⟨by omega, by simp only; omega, by rw [hd, hdr, ofL, if_neg het]⟩, (ent_trans (ent_drop (h1 := [_])) (ent_sub (.cons _ _ _ rfl (.cons _ _ _ rfl (.cons _ _ _ rfl (.cons _ _ _ rfl (.cons _ _ _ rfl (.cons _ _ _ rfl (.nil))))))))), by simp only; omega⟩
    · have hk2 : k = h.evs.length := by
        have : ¬ k < h.evs.length := by simpa using hc19
        omega
      subst hk2
      rw [List.drop_length, ofL, List.append_nil] at hd
      refine aw_exit ?_
      refine thn_e ?_
      refine thn_e ?_
      refine inBlk_hit ?_
      refine thn_n ?_
      refine aw_seq (aw_region ?_)
      refine qq rfl rfl (qr_move rfl) ?_
      refine qq rfl rfl (qr_assign rfl) ?_
      refine qq rfl rfl (qr_assign rfl) ?_
      refine aops_nil (thn_n ?_)
      refine aw_ret ?_
      have hz : checkE h = 0 := check_0.2 hm
      exact retq (.cons _ _ _ _ (.tmp _ _ rfl) (.cons _ _ _ _ (.tmp _ _ rfl) .nil)) (.trans (.perm (pt1 _ _ _) _) (.drop1 _ _ _)) ⟨s, by rw [ofR, hm, hd]; rfl, by rw [hz]; rfl⟩
theorem ofW (h : Hist) (t : Int) (la : Lim 4611686018427387904 h) : ACall Tryd.prog 13 [.agg (histC h), iv t] [.glob 0 71 limitsC, .glob 1 129 firstC, .glob 2 133 acceptC] (fun r h' => h' = [.glob 0 71 limitsC, .glob 1 129 firstC, .glob 2 133 acceptC] ∧ r = .tup [intsA (ofR h t), iv (checkE h)]) :=
  (ofO h t la).ventR (by rintro _ _ ⟨s, rfl, rfl⟩; exact ⟨_, _, vent_freeze_tup [] [_], rfl, rfl⟩)
end Go.Proofs
/- The walk of history.Complete. Conditions: none. -/
set_option linter.unusedVariables false
set_option linter.unusedSimpArgs false
set_option maxRecDepth 10000
namespace Go.Proofs
open Go Go.Ab
open Go.H
theorem ownL (h : Hist) (la : Lim 1099511627776 h) (L : List Res) : FCall Tryd.prog (.fn (.func 20) [] []) [.agg (histC h)] L (fun r h' => ∃ (n : NV) (o : OH), o.hist = h ∧ h' = L ++ nmR n h (ohF o []) ∧ r = .agg (n.cells ++ o.cells)) := by
  refine FCall.permR (((FCall.of_fun (own h la)).frame L).mono ?_)
  rintro _ _ ⟨h1, rfl, n, o, ho, rfl, rfl⟩
  rw [show ohR o = ohF o [] from by rw [← ohF_eq, List.append_nil]]
  exact ⟨_, List.perm_append_comm, n, o, ho, rfl, rfl⟩
set_option maxHeartbeats 1000000 in
theorem complete (h : Hist) (la : Lim 4611686018427387904 h) : ACall Tryd.prog 10 [.agg (histC h)] [.glob 0 71 limitsC, .glob 1 129 firstC, .glob 2 133 acceptC] (fun r h' => (complE h = 0 → ∃ (n : NV) (o : OH), o.hist = complH h ∧ h' = [.glob 0 71 limitsC, .glob 1 129 firstC, .glob 2 133 acceptC] ++ nmR n (complH h) (ohF o []) ∧ r = .tup [.agg (n.cells ++ o.cells), iv 0]) ∧ (complE h ≠ 0 → h' = [.glob 0 71 limitsC, .glob 1 129 firstC, .glob 2 133 acceptC] ∧ r = .tup [.agg histZ, iv (complE h)])) := by
  refine acall_of_aw Tryd.func10 rfl rfl rfl ?_
  refine aw_seq (aw_region ?_)
  refine aops_e rfl (oe_box rfl rfl rfl fun b1 => ?_)
  refine aops_e rfl (oe_alloc rfl fun b2 => ?_)
  refine qq rfl rfl (qr_assign rfl) ?_
  refine aops_nil (thn_n ?_)
  refine aw_seq ?_
  refine aw_seq (aw_region ?_)
  first | refine qq rfl rfl (qr_load_all rfl rfl) ?_ | refine qq rfl rfl (qr_load_pp_all rfl rfl) ?_ | refine qq rfl rfl (qr_load_agg rfl (Nat.le_of_ble_eq_true rfl)) ?_ | refine qq rfl rfl (qr_load_pp_agg rfl (Nat.le_of_ble_eq_true rfl)) ?_ | refine qq rfl rfl (qr_load_rp_all rfl (by assumption) rfl) ?_
  refine qv rfl rfl (qv_call rfl rfl (FCall.qt (FCall.of_fun (check h la)) ((pt2 _ _ _ _).trans (.cons _ ((pt2 _ _ _ _).trans (.cons _ (pt2 _ _ _ _))))))) ?_
  refine qq rfl rfl (qr_assign rfl) ?_
  refine aops_nil (thn_n ?_)
  refine aw_seq (aw_region ?_)
  refine qq rfl rfl (qr_move rfl) ?_
  refine qq rfl rfl (qr_cmp rfl rfl rfl) ?_
  refine aops_nil (thn_n ?_)
  refine aw_cond rfl (fun hc15 => ?_) (fun hc15 => ?_)
  · have hm : mayB h = false := by
      cases hq : mayB h with
      | false => rfl
      | true => rw [check_0.2 hq] at hc15; cases hc15
    refine aw_seq (aw_region ?_)
    refine qq rfl rfl (qr_build rfl (by rfl)) ?_
    refine qq rfl rfl (qr_move rfl) ?_
    first | refine aops_e rfl (oe_store_all rfl rfl rfl ?_) | refine aops_e rfl (oe_store rfl rfl rfl rfl (Nat.le_of_ble_eq_true rfl) ?_)
    refine qq rfl rfl (qr_assign rfl) ?_
    refine aops_nil (thn_n ?_)
    refine aw_ret ?_
    refine thn_r ?_
    have hc := complE_210 hm
    have h210 : checkE h = 210 := by rw [checkE, hm]; rfl
    exact retq (.cons _ _ _ _ (.agg _ _ _ _ _ _ _ rfl inferInstance inferInstance inferInstance rfl) (.cons _ _ _ _ (.tmp _ _ rfl) .nil)) (.drop [_, _] _ _) ⟨fun q => absurd (hc.symm.trans q) (by decide), fun _ => ⟨rfl, by rw [hc, h210]; rfl⟩⟩
  · have hm : mayB h = true := check_0.1 (by simpa using hc15)
    have hs := may_shaped hm
    have la3 := shaped_lim hs
    refine aw_skip ?_
    refine thn_n ?_
    refine aw_seq (aw_region ?_)
    first | refine qq rfl rfl (qr_load_all rfl rfl) ?_ | refine qq rfl rfl (qr_load_pp_all rfl rfl) ?_ | refine qq rfl rfl (qr_load_agg rfl (Nat.le_of_ble_eq_true rfl)) ?_ | refine qq rfl rfl (qr_load_pp_agg rfl (Nat.le_of_ble_eq_true rfl)) ?_ | refine qq rfl rfl (qr_load_rp_all rfl (by assumption) rfl) ?_
    refine aops_e rfl (oe_call rfl rfl (ownL h (la3.mono (by decide)) _) rfl ?_)
    rintro _ _ ⟨n, o, ho, rfl, rfl⟩
    subst ho
    have hev := (shaped_parts hs).2.1
    show aops _ _ _ _ _ _ ⟨_, .box b2 28 histZ :: .box b1 28 (histC o.hist) :: .glob 0 71 limitsC :: .glob 1 129 firstC :: .glob 2 133 acceptC :: .row n.vT.v 1 9 (o.hist.ts.map strR) :: .row n.vS.v 1 9 (o.hist.ss.map strR) :: .row n.vO.v 1 9 (o.hist.os.map strR) :: .row n.vP.v 1 9 (o.hist.ps.map strR) :: .row o.vE.v 9 40 ((o.evs).map evRw) :: .row o.vR.v 2 54 (o.ords.map ordRw) :: .row o.vM.v 4 57 (o.mats.map matRw) :: .row o.vW.v 2 60 (o.wants.map wanR) :: (scR 52 o.evs ++ (otR 3 o.ords ++ (mtR 3 o.mats ++ []))), _⟩
    first | refine aops_e rfl (oe_store_all rfl rfl rfl ?_) | refine aops_e rfl (oe_store rfl rfl rfl rfl (Nat.le_of_ble_eq_true rfl) ?_)
    refine aops_nil (thn_n ?_)
    refine aw_seq (aw_region ?_)
    first | refine qq rfl rfl (qr_fieldAddr rfl (Nat.succ_ne_zero _)) ?_ | refine qq rfl rfl (qr_fieldAddr_pp rfl (Nat.succ_ne_zero _)) ?_ | refine qq rfl rfl (qr_fieldAddr_rp rfl (Nat.succ_ne_zero _)) ?_ | refine qq rfl rfl (qr_fieldAddr_row rfl (Nat.succ_ne_zero _)) ?_
    first | refine qq rfl rfl (qr_load_one rfl rfl) ?_ | refine qq rfl rfl (qr_load_pp_one rfl rfl) ?_ | refine qq rfl rfl (qr_load_rp_one rfl (by assumption) rfl) ?_
    first | refine qq rfl rfl (qr_len_list rfl) ?_ | refine qq rfl rfl (qr_len_row rfl) ?_
    refine aops_e rfl (oe_makeSlice rfl rfl rfl (by have := la3.ts; simp; omega) (hk := fun bo => ?_))
    refine qq rfl rfl (qr_assign rfl) ?_
    refine aops_nil (thn_n ?_)
    refine aw_seq ?_
    refine aw_seq (aw_region ?_)
    first | refine qq rfl rfl (qr_fieldAddr rfl (Nat.succ_ne_zero _)) ?_ | refine qq rfl rfl (qr_fieldAddr_pp rfl (Nat.succ_ne_zero _)) ?_ | refine qq rfl rfl (qr_fieldAddr_rp rfl (Nat.succ_ne_zero _)) ?_ | refine qq rfl rfl (qr_fieldAddr_row rfl (Nat.succ_ne_zero _)) ?_
    first | refine qq rfl rfl (qr_load_one rfl rfl) ?_ | refine qq rfl rfl (qr_load_pp_one rfl rfl) ?_ | refine qq rfl rfl (qr_load_rp_one rfl (by assumption) rfl) ?_
    first | refine qq rfl rfl (qr_len_list rfl) ?_ | refine qq rfl rfl (qr_len_row rfl) ?_
    refine qq rfl rfl (qr_move rfl) ?_
    refine aops_nil (thn_n ?_)
    refine aw_block ?_
    refine aw_loop' (fun k : Nat => k ≤ o.evs.length) (fun k => ⟨[(27, iv k), (26, iv (o.evs.map evRw).length), (25, .v o.vE.v), (5, .v (.slice (some ⟨bo, 0, none⟩) (o.hist.ts.map strR).length (o.hist.ts.map strR).length : Value)), (1, .v (.pointer (some ⟨b1, 0, none⟩))), (2, .v (.pointer (some ⟨b2, 0, none⟩)))], .row (.slice (some ⟨bo, 0, none⟩) (o.hist.ts.map strR).length (o.hist.ts.map strR).length : Value) 1 4 (opens (o.hist.ts.map strR).length (fun t => begunL (o.hist.evs.take k) (t : Nat))) :: .box b2 28 histZ :: .box b1 28 (n.cells ++ [.v o.vE.v, .v o.vR.v, .v o.vM.v, .v o.vW.v]) :: .glob 0 71 limitsC :: .glob 1 129 firstC :: .glob 2 133 acceptC :: .row n.vT.v 1 9 (o.hist.ts.map strR) :: .row n.vS.v 1 9 (o.hist.ss.map strR) :: .row n.vO.v 1 9 (o.hist.os.map strR) :: .row n.vP.v 1 9 (o.hist.ps.map strR) :: .row o.vE.v 9 40 ((o.evs).map evRw) :: .row o.vR.v 2 54 (o.ords.map ordRw) :: .row o.vM.v 4 57 (o.mats.map matRw) :: .row o.vW.v 2 60 (o.wants.map wanR) :: (scR 52 (o.evs) ++ (otR 3 o.ords ++ (mtR 3 o.mats ++ []))), []⟩) (fun k => o.evs.length - k) 0 (by omega)
      (by rw [show opens (o.hist.ts.map strR).length (fun t => begunL (o.hist.evs.take 0) (t : Nat)) = List.replicate (o.hist.ts.map strR).length [AV.v (.bool false)] from (opens_start _).symm]; exact (ent_sub (.cons _ _ _ rfl (.cons _ _ _ rfl (.cons _ _ _ rfl (.cons _ _ _ rfl (.cons _ _ _ rfl (.cons _ _ _ rfl (.nil))))))))) ?_
    intro k hk
    refine aw_seq (aw_region ?_)
    refine qq rfl rfl (qr_cmp rfl rfl rfl) ?_
    refine aops_nil (thn_n ?_)
    refine aw_seq ?_
    refine aw_cond rfl (fun hc28 => ?_) (fun hc28 => ?_)
    · have hk2 : k < o.evs.length := by simpa using hc28
      obtain ⟨sv, e, hp⟩ : ∃ sv e, o.evs[k]? = some (sv, e) := ⟨o.evs[k].1, o.evs[k].2, by simp [hk2]⟩
      have hrow : (o.evs.map evRw)[k]? = some (evRw (sv, e)) := by simp [hp]
      have hk3 : k < (o.evs.map evRw).length := by simpa using hk2
      have hek : o.hist.evs[k]? = some e := by simp [OH.hist, hp]
      have hek2 : k < o.hist.evs.length := by simpa [OH.hist] using hk2
      have hek3 : e = o.hist.evs[k] := by rw [List.getElem?_eq_getElem hek2] at hek; exact (Option.some.inj hek).symm
      obtain ⟨_, _, het, _⟩ := event_parts (hev e (by rw [hek3]; simp))
      have het2 := (toldB_iff _ _).1 het
      obtain ⟨m, hm0⟩ : ∃ m : Nat, e.t = m := ⟨e.t.toNat, by omega⟩
      have hle := la3.evs
      obtain ⟨ki, t, es_, el, eo, ev_, ep, esc⟩ := e
      simp only at hm0
      subst hm0
      have hmN : m < (o.hist.ts.map strR).length := by rw [List.length_map]; have := het2.2; simp only at this; omega
      have hmN2 := opens_len (o.hist.ts.map strR).length (fun t => begunL (o.hist.evs.take k) (t : Nat))
      have hmN3 : m < (opens (o.hist.ts.map strR).length (fun t => begunL (o.hist.evs.take k) (t : Nat))).length := by rw [hmN2]; exact hmN
      have hopn := opens_get (f := fun t => begunL (o.hist.evs.take k) (t : Nat)) hmN
      have htk := take_snoc' hek2 hek3
      refine aw_skip ?_
      refine thn_n ?_
      refine aw_seq ?_
      refine aw_block ?_
      refine aw_seq (aw_region ?_)
      first | refine qq rfl rfl (qr_index_list rfl rfl (by assumption)) ?_ | refine qq rfl rfl (qr_index_row rfl rfl (by assumption)) ?_
      refine qq rfl rfl (qr_load_rp_all (row := evRw (sv, ⟨ki, ((m : Nat) : Int), es_, el, eo, ev_, ep, esc⟩)) rfl hrow rfl) ?_
      refine aops_e rfl (oe_alloc rfl fun b7 => ?_)
      first | refine aops_e rfl (oe_store_all rfl rfl rfl ?_) | refine aops_e rfl (oe_store rfl rfl rfl rfl (Nat.le_of_ble_eq_true rfl) ?_)
      refine aops_nil (thn_n ?_)
      refine aw_draw 13 rfl ?_
      refine dq rfl rfl (qr_move rfl) ?_
      first | refine dq rfl rfl (qr_fieldAddr rfl (Nat.succ_ne_zero _)) ?_ | refine dq rfl rfl (qr_fieldAddr_pp rfl (Nat.succ_ne_zero _)) ?_ | refine dq rfl rfl (qr_fieldAddr_rp rfl (Nat.succ_ne_zero _)) ?_ | refine dq rfl rfl (qr_fieldAddr_row rfl (Nat.succ_ne_zero _)) ?_
      first | refine dq rfl rfl (qr_load_one rfl rfl) ?_ | refine dq rfl rfl (qr_load_pp_one rfl rfl) ?_ | refine dq rfl rfl (qr_load_rp_one rfl (by assumption) rfl) ?_
      refine dq rfl rfl (qr_move rfl) ?_
      first | refine dq rfl rfl (qr_fieldAddr rfl (Nat.succ_ne_zero _)) ?_ | refine dq rfl rfl (qr_fieldAddr_pp rfl (Nat.succ_ne_zero _)) ?_ | refine dq rfl rfl (qr_fieldAddr_rp rfl (Nat.succ_ne_zero _)) ?_ | refine dq rfl rfl (qr_fieldAddr_row rfl (Nat.succ_ne_zero _)) ?_
      first | refine dq rfl rfl (qr_load_one rfl rfl) ?_ | refine dq rfl rfl (qr_load_pp_one rfl rfl) ?_ | refine dq rfl rfl (qr_load_rp_one rfl (by assumption) rfl) ?_
      refine dq rfl rfl (qr_index_row rfl rfl hmN3) ?_
      refine dq rfl rfl (qr_load_rp_one rfl hopn rfl) ?_
      refine dq rfl rfl (qr_move rfl) ?_
      refine dsplit (fun hg9_8 => ?_) (fun hg9_8 => ?_)
      · refine ds rfl rfl ?_
        refine ds rfl rfl ?_
        refine ds rfl rfl ?_
        first | refine dq rfl rfl (qr_pick_t rfl rfl) ?_ | refine dq rfl rfl (qr_pick_f rfl rfl) ?_ | refine dq rfl rfl (qr_pick_b rfl rfl rfl) ?_
        refine dnil ⟨rfl, ?_⟩
        refine dalloc_s rfl ?_
        refine dalloc_s rfl ?_
        refine dalloc_s rfl ?_
        refine dalloc_s rfl ?_
        refine dalloc_s rfl ?_
        refine dalloc_s rfl ?_
        refine dalloc_s rfl ?_
        refine dalloc_s rfl ?_
        refine dalloc_s rfl ?_
        refine dalloc_s rfl ?_
        refine dalloc_s rfl ?_
        refine dalloc_s rfl ?_
        refine dalloc_s rfl ?_
        refine dalloc_nil ?_
        refine qq rfl rfl (qr_index_row rfl rfl hmN3) ?_
        refine aops_e rfl (oe_store_rp rfl rfl rfl hopn rfl (Nat.le_of_ble_eq_true rfl) ?_)
        refine aops_nil ?_
        refine inBlk_n ?_
        refine thn_n ?_
        refine aw_region ?_
        refine qq rfl rfl (qr_ari rfl rfl rfl (by omega)) ?_
        refine qq rfl rfl (qr_move rfl) ?_
        refine aops_nil (thn_n ?_)
        have hset := opens_set (f := fun t => begunL (o.hist.evs.take k) (t : Nat)) (g := fun t => begunL (o.hist.evs.take (k + 1)) (t : Nat)) hmN (fun t ht => by simp only [htk]; rw [begun_other rfl ht]) ([bv (begunL (o.hist.evs.take k) ((m : Nat) : Int))].take 0 ++ [bv true] ++ [bv (begunL (o.hist.evs.take k) ((m : Nat) : Int))].drop (0 + 1)) (by simp only [htk]; rw [begun_this rfl]; exact congrArg (fun b => [bv b]) (begin_1 hg9_8))
        exact ⟨k + 1, by omega, (by rw [← hset]; exact (ent_trans (ent_drop (h1 := [_])) (ent_sub (.cons _ _ _ rfl (.cons _ _ _ rfl (.cons _ _ _ rfl (.cons _ _ _ rfl (.cons _ _ _ rfl (.cons _ _ _ rfl (.nil)))))))))), by omega⟩
      · first | refine dq rfl rfl (qr_fieldAddr rfl (Nat.succ_ne_zero _)) ?_ | refine dq rfl rfl (qr_fieldAddr_pp rfl (Nat.succ_ne_zero _)) ?_ | refine dq rfl rfl (qr_fieldAddr_rp rfl (Nat.succ_ne_zero _)) ?_ | refine dq rfl rfl (qr_fieldAddr_row rfl (Nat.succ_ne_zero _)) ?_
        first | refine dq rfl rfl (qr_load_one rfl rfl) ?_ | refine dq rfl rfl (qr_load_pp_one rfl rfl) ?_ | refine dq rfl rfl (qr_load_rp_one rfl (by assumption) rfl) ?_
        refine dq rfl rfl (qr_cmp rfl rfl rfl) ?_
        first | refine dq rfl rfl (qr_pick_t rfl rfl) ?_ | refine dq rfl rfl (qr_pick_f rfl rfl) ?_ | refine dq rfl rfl (qr_pick_b rfl rfl rfl) ?_
        refine dnil ⟨rfl, ?_⟩
        refine dalloc_s rfl ?_
        refine dalloc_s rfl ?_
        refine dalloc_s rfl ?_
        refine dalloc_s rfl ?_
        refine dalloc_s rfl ?_
        refine dalloc_s rfl ?_
        refine dalloc_s rfl ?_
        refine dalloc_s rfl ?_
        refine dalloc_s rfl ?_
        refine dalloc_s rfl ?_
        refine dalloc_s rfl ?_
        refine dalloc_s rfl ?_
        refine dalloc_s rfl ?_
        refine dalloc_nil ?_
        refine qq rfl rfl (qr_index_row rfl rfl hmN3) ?_
        refine aops_e rfl (oe_store_rp rfl rfl rfl hopn rfl (Nat.le_of_ble_eq_true rfl) ?_)
        refine aops_nil ?_
        refine inBlk_n ?_
        refine thn_n ?_
        refine aw_region ?_
        refine qq rfl rfl (qr_ari rfl rfl rfl (by omega)) ?_
        refine qq rfl rfl (qr_move rfl) ?_
        refine aops_nil (thn_n ?_)
        have hset := opens_set (f := fun t => begunL (o.hist.evs.take k) (t : Nat)) (g := fun t => begunL (o.hist.evs.take (k + 1)) (t : Nat)) hmN (fun t ht => by simp only [htk]; rw [begun_other rfl ht]) ([bv (begunL (o.hist.evs.take k) ((m : Nat) : Int))].take 0 ++ [bv (ki == 1)] ++ [bv (begunL (o.hist.evs.take k) ((m : Nat) : Int))].drop (0 + 1)) (by simp only [htk]; rw [begun_this rfl]; exact congrArg (fun b => [bv b]) (begin_2 hg9_8))
        exact ⟨k + 1, by omega, (by rw [← hset]; exact (ent_trans (ent_drop (h1 := [_])) (ent_sub (.cons _ _ _ rfl (.cons _ _ _ rfl (.cons _ _ _ rfl (.cons _ _ _ rfl (.cons _ _ _ rfl (.cons _ _ _ rfl (.nil)))))))))), by omega⟩
    · obtain rfl : k = o.evs.length := by
        have : ¬ k < o.evs.length := by simpa using hc28
        omega
      have hta : o.hist.evs.take o.evs.length = o.hist.evs := List.take_of_length_le (by simp [OH.hist])
      refine aw_exit ?_
      refine thn_e ?_
      refine thn_e ?_
      refine inBlk_hit ?_
      refine thn_n ?_
      refine aw_seq ?_
      refine aw_seq (aw_region ?_)
      first | refine qq rfl rfl (qr_fieldAddr rfl (Nat.succ_ne_zero _)) ?_ | refine qq rfl rfl (qr_fieldAddr_pp rfl (Nat.succ_ne_zero _)) ?_ | refine qq rfl rfl (qr_fieldAddr_rp rfl (Nat.succ_ne_zero _)) ?_ | refine qq rfl rfl (qr_fieldAddr_row rfl (Nat.succ_ne_zero _)) ?_
      first | refine qq rfl rfl (qr_load_one rfl rfl) ?_ | refine qq rfl rfl (qr_load_pp_one rfl rfl) ?_ | refine qq rfl rfl (qr_load_rp_one rfl (by assumption) rfl) ?_
      first | refine qq rfl rfl (qr_len_list rfl) ?_ | refine qq rfl rfl (qr_len_row rfl) ?_
      refine qq rfl rfl (qr_move rfl) ?_
      refine aops_nil (thn_n ?_)
      refine aw_block ?_
      refine aw_loop' (fun k : Nat => k ≤ o.evs.length) (fun k => ⟨[(49, iv k), (48, iv (o.evs.map evRw).length), (47, .v o.vE.v), (5, .v (.slice (some ⟨bo, 0, none⟩) (o.hist.ts.map strR).length (o.hist.ts.map strR).length : Value)), (1, .v (.pointer (some ⟨b1, 0, none⟩))), (2, .v (.pointer (some ⟨b2, 0, none⟩)))], .row (.slice (some ⟨bo, 0, none⟩) (o.hist.ts.map strR).length (o.hist.ts.map strR).length : Value) 1 4 (opens (o.hist.ts.map strR).length (fun t => begunL o.hist.evs (t : Nat) && !overL (o.hist.evs.take k) (t : Nat))) :: .box b2 28 histZ :: .box b1 28 (n.cells ++ [.v o.vE.v, .v o.vR.v, .v o.vM.v, .v o.vW.v]) :: .glob 0 71 limitsC :: .glob 1 129 firstC :: .glob 2 133 acceptC :: .row n.vT.v 1 9 (o.hist.ts.map strR) :: .row n.vS.v 1 9 (o.hist.ss.map strR) :: .row n.vO.v 1 9 (o.hist.os.map strR) :: .row n.vP.v 1 9 (o.hist.ps.map strR) :: .row o.vE.v 9 40 ((o.evs).map evRw) :: .row o.vR.v 2 54 (o.ords.map ordRw) :: .row o.vM.v 4 57 (o.mats.map matRw) :: .row o.vW.v 2 60 (o.wants.map wanR) :: (scR 52 (o.evs) ++ (otR 3 o.ords ++ (mtR 3 o.mats ++ []))), []⟩) (fun k => o.evs.length - k) 0 (by omega)
        (by rw [show opens (o.hist.ts.map strR).length (fun t => begunL o.hist.evs (t : Nat) && !overL (o.hist.evs.take 0) (t : Nat)) = opens (o.hist.ts.map strR).length (fun t => begunL (o.hist.evs.take o.evs.length) (t : Nat)) from by simp [hta, overL]]; exact (ent_sub (.cons _ _ _ rfl (.cons _ _ _ rfl (.cons _ _ _ rfl (.cons _ _ _ rfl (.cons _ _ _ rfl (.cons _ _ _ rfl (.nil))))))))) ?_
      intro k hk
      refine aw_seq (aw_region ?_)
      refine qq rfl rfl (qr_cmp rfl rfl rfl) ?_
      refine aops_nil (thn_n ?_)
      refine aw_seq ?_
      refine aw_cond rfl (fun hc50 => ?_) (fun hc50 => ?_)
      · have hk2 : k < o.evs.length := by simpa using hc50
        obtain ⟨sv, e, hp⟩ : ∃ sv e, o.evs[k]? = some (sv, e) := ⟨o.evs[k].1, o.evs[k].2, by simp [hk2]⟩
        have hrow : (o.evs.map evRw)[k]? = some (evRw (sv, e)) := by simp [hp]
        have hk3 : k < (o.evs.map evRw).length := by simpa using hk2
        have hek : o.hist.evs[k]? = some e := by simp [OH.hist, hp]
        have hek2 : k < o.hist.evs.length := by simpa [OH.hist] using hk2
        have hek3 : e = o.hist.evs[k] := by rw [List.getElem?_eq_getElem hek2] at hek; exact (Option.some.inj hek).symm
        obtain ⟨_, _, het, _⟩ := event_parts (hev e (by rw [hek3]; simp))
        have het2 := (toldB_iff _ _).1 het
        obtain ⟨m, hm0⟩ : ∃ m : Nat, e.t = m := ⟨e.t.toNat, by omega⟩
        have hle := la3.evs
        obtain ⟨ki, t, es_, el, eo, ev_, ep, esc⟩ := e
        simp only at hm0
        subst hm0
        have hmN : m < (o.hist.ts.map strR).length := by rw [List.length_map]; have := het2.2; simp only at this; omega
        have hmN2 := opens_len (o.hist.ts.map strR).length (fun t => begunL o.hist.evs (t : Nat) && !overL (o.hist.evs.take k) (t : Nat))
        have hmN3 : m < (opens (o.hist.ts.map strR).length (fun t => begunL o.hist.evs (t : Nat) && !overL (o.hist.evs.take k) (t : Nat))).length := by rw [hmN2]; exact hmN
        have hopn := opens_get (f := fun t => begunL o.hist.evs (t : Nat) && !overL (o.hist.evs.take k) (t : Nat)) hmN
        have htk := take_snoc' hek2 hek3
        refine aw_skip ?_
        refine thn_n ?_
        refine aw_seq ?_
        refine aw_block ?_
        refine aw_seq (aw_region ?_)
        first | refine qq rfl rfl (qr_index_list rfl rfl (by assumption)) ?_ | refine qq rfl rfl (qr_index_row rfl rfl (by assumption)) ?_
        refine qq rfl rfl (qr_load_rp_all (row := evRw (sv, ⟨ki, ((m : Nat) : Int), es_, el, eo, ev_, ep, esc⟩)) rfl hrow rfl) ?_
        refine aops_e rfl (oe_alloc rfl fun b9 => ?_)
        first | refine aops_e rfl (oe_store_all rfl rfl rfl ?_) | refine aops_e rfl (oe_store rfl rfl rfl rfl (Nat.le_of_ble_eq_true rfl) ?_)
        refine aops_nil (thn_n ?_)
        refine aw_draw 18 rfl ?_
        refine dq rfl rfl (qr_move rfl) ?_
        first | refine dq rfl rfl (qr_fieldAddr rfl (Nat.succ_ne_zero _)) ?_ | refine dq rfl rfl (qr_fieldAddr_pp rfl (Nat.succ_ne_zero _)) ?_ | refine dq rfl rfl (qr_fieldAddr_rp rfl (Nat.succ_ne_zero _)) ?_ | refine dq rfl rfl (qr_fieldAddr_row rfl (Nat.succ_ne_zero _)) ?_
        first | refine dq rfl rfl (qr_load_one rfl rfl) ?_ | refine dq rfl rfl (qr_load_pp_one rfl rfl) ?_ | refine dq rfl rfl (qr_load_rp_one rfl (by assumption) rfl) ?_
        refine dq rfl rfl (qr_move rfl) ?_
        first | refine dq rfl rfl (qr_fieldAddr rfl (Nat.succ_ne_zero _)) ?_ | refine dq rfl rfl (qr_fieldAddr_pp rfl (Nat.succ_ne_zero _)) ?_ | refine dq rfl rfl (qr_fieldAddr_rp rfl (Nat.succ_ne_zero _)) ?_ | refine dq rfl rfl (qr_fieldAddr_row rfl (Nat.succ_ne_zero _)) ?_
        first | refine dq rfl rfl (qr_load_one rfl rfl) ?_ | refine dq rfl rfl (qr_load_pp_one rfl rfl) ?_ | refine dq rfl rfl (qr_load_rp_one rfl (by assumption) rfl) ?_
        refine dq rfl rfl (qr_index_row rfl rfl hmN3) ?_
        refine dq rfl rfl (qr_load_rp_one rfl hopn rfl) ?_
        refine dq rfl rfl (qr_move rfl) ?_
        refine dsplit (fun hg14_8 => ?_) (fun hg14_8 => ?_)
        · first | refine dq rfl rfl (qr_fieldAddr rfl (Nat.succ_ne_zero _)) ?_ | refine dq rfl rfl (qr_fieldAddr_pp rfl (Nat.succ_ne_zero _)) ?_ | refine dq rfl rfl (qr_fieldAddr_rp rfl (Nat.succ_ne_zero _)) ?_ | refine dq rfl rfl (qr_fieldAddr_row rfl (Nat.succ_ne_zero _)) ?_
          first | refine dq rfl rfl (qr_load_one rfl rfl) ?_ | refine dq rfl rfl (qr_load_pp_one rfl rfl) ?_ | refine dq rfl rfl (qr_load_rp_one rfl (by assumption) rfl) ?_
          refine dq rfl rfl (qr_cmp rfl rfl rfl) ?_
          first | refine dq rfl rfl (qr_pick_t rfl rfl) ?_ | refine dq rfl rfl (qr_pick_f rfl rfl) ?_ | refine dq rfl rfl (qr_pick_b rfl rfl rfl) ?_
          refine dq rfl rfl (qr_move rfl) ?_
          refine dsplit (fun hg14_13 => ?_) (fun hg14_13 => ?_)
          · first | refine dq rfl rfl (qr_fieldAddr rfl (Nat.succ_ne_zero _)) ?_ | refine dq rfl rfl (qr_fieldAddr_pp rfl (Nat.succ_ne_zero _)) ?_ | refine dq rfl rfl (qr_fieldAddr_rp rfl (Nat.succ_ne_zero _)) ?_ | refine dq rfl rfl (qr_fieldAddr_row rfl (Nat.succ_ne_zero _)) ?_
            first | refine dq rfl rfl (qr_load_one rfl rfl) ?_ | refine dq rfl rfl (qr_load_pp_one rfl rfl) ?_ | refine dq rfl rfl (qr_load_rp_one rfl (by assumption) rfl) ?_
            refine dq rfl rfl (qr_cmp rfl rfl rfl) ?_
            first | refine dq rfl rfl (qr_pick_t rfl rfl) ?_ | refine dq rfl rfl (qr_pick_f rfl rfl) ?_ | refine dq rfl rfl (qr_pick_b rfl rfl rfl) ?_
            refine dnil ⟨rfl, ?_⟩
            refine dalloc_s rfl ?_
            refine dalloc_s rfl ?_
            refine dalloc_s rfl ?_
            refine dalloc_s rfl ?_
            refine dalloc_s rfl ?_
            refine dalloc_s rfl ?_
            refine dalloc_s rfl ?_
            refine dalloc_s rfl ?_
            refine dalloc_s rfl ?_
            refine dalloc_s rfl ?_
            refine dalloc_s rfl ?_
            refine dalloc_s rfl ?_
            refine dalloc_s rfl ?_
            refine dalloc_s rfl ?_
            refine dalloc_s rfl ?_
            refine dalloc_s rfl ?_
            refine dalloc_s rfl ?_
            refine dalloc_s rfl ?_
            refine dalloc_nil ?_
            refine qq rfl rfl (qr_index_row rfl rfl hmN3) ?_
            refine aops_e rfl (oe_store_rp rfl rfl rfl hopn rfl (Nat.le_of_ble_eq_true rfl) ?_)
            refine aops_nil ?_
            refine inBlk_n ?_
            refine thn_n ?_
            refine aw_region ?_
            refine qq rfl rfl (qr_ari rfl rfl rfl (by omega)) ?_
            refine qq rfl rfl (qr_move rfl) ?_
            refine aops_nil (thn_n ?_)
            have hset := opens_set (f := fun t => begunL o.hist.evs (t : Nat) && !overL (o.hist.evs.take k) (t : Nat)) (g := fun t => begunL o.hist.evs (t : Nat) && !overL (o.hist.evs.take (k + 1)) (t : Nat)) hmN (fun t ht => by simp only [htk]; rw [over_other rfl ht]) ([bv (begunL o.hist.evs ((m : Nat) : Int) && !overL (o.hist.evs.take k) ((m : Nat) : Int))].take 0 ++ [bv (ki != 6)] ++ [bv (begunL o.hist.evs ((m : Nat) : Int) && !overL (o.hist.evs.take k) ((m : Nat) : Int))].drop (0 + 1)) (by simp only [htk]; rw [over_this rfl]; exact congrArg (fun b => [bv b]) (open_1 hg14_8 hg14_13))
            exact ⟨k + 1, by omega, (by rw [← hset]; exact (ent_trans (ent_drop (h1 := [_])) (ent_sub (.cons _ _ _ rfl (.cons _ _ _ rfl (.cons _ _ _ rfl (.cons _ _ _ rfl (.cons _ _ _ rfl (.cons _ _ _ rfl (.nil)))))))))), by omega⟩
          · refine ds rfl rfl ?_
            refine ds rfl rfl ?_
            refine ds rfl rfl ?_
            first | refine dq rfl rfl (qr_pick_t rfl rfl) ?_ | refine dq rfl rfl (qr_pick_f rfl rfl) ?_ | refine dq rfl rfl (qr_pick_b rfl rfl rfl) ?_
            refine dnil ⟨rfl, ?_⟩
            refine dalloc_s rfl ?_
            refine dalloc_s rfl ?_
            refine dalloc_s rfl ?_
            refine dalloc_s rfl ?_
            refine dalloc_s rfl ?_
            refine dalloc_s rfl ?_
            refine dalloc_s rfl ?_
            refine dalloc_s rfl ?_
            refine dalloc_s rfl ?_
            refine dalloc_s rfl ?_
            refine dalloc_s rfl ?_
            refine dalloc_s rfl ?_
            refine dalloc_s rfl ?_
            refine dalloc_s rfl ?_
            refine dalloc_s rfl ?_
            refine dalloc_s rfl ?_
            refine dalloc_s rfl ?_
            refine dalloc_s rfl ?_
            refine dalloc_nil ?_
            refine qq rfl rfl (qr_index_row rfl rfl hmN3) ?_
            refine aops_e rfl (oe_store_rp rfl rfl rfl hopn rfl (Nat.le_of_ble_eq_true rfl) ?_)
            refine aops_nil ?_
            refine inBlk_n ?_
            refine thn_n ?_
            refine aw_region ?_
            refine qq rfl rfl (qr_ari rfl rfl rfl (by omega)) ?_
            refine qq rfl rfl (qr_move rfl) ?_
            refine aops_nil (thn_n ?_)
            have hset := opens_set (f := fun t => begunL o.hist.evs (t : Nat) && !overL (o.hist.evs.take k) (t : Nat)) (g := fun t => begunL o.hist.evs (t : Nat) && !overL (o.hist.evs.take (k + 1)) (t : Nat)) hmN (fun t ht => by simp only [htk]; rw [over_other rfl ht]) ([bv (begunL o.hist.evs ((m : Nat) : Int) && !overL (o.hist.evs.take k) ((m : Nat) : Int))].take 0 ++ [bv false] ++ [bv (begunL o.hist.evs ((m : Nat) : Int) && !overL (o.hist.evs.take k) ((m : Nat) : Int))].drop (0 + 1)) (by simp only [htk]; rw [over_this rfl]; exact congrArg (fun b => [bv b]) (open_2 hg14_8 hg14_13))
            exact ⟨k + 1, by omega, (by rw [← hset]; exact (ent_trans (ent_drop (h1 := [_])) (ent_sub (.cons _ _ _ rfl (.cons _ _ _ rfl (.cons _ _ _ rfl (.cons _ _ _ rfl (.cons _ _ _ rfl (.cons _ _ _ rfl (.nil)))))))))), by omega⟩
        · refine ds rfl rfl ?_
          refine ds rfl rfl ?_
          refine ds rfl rfl ?_
          first | refine dq rfl rfl (qr_pick_t rfl rfl) ?_ | refine dq rfl rfl (qr_pick_f rfl rfl) ?_ | refine dq rfl rfl (qr_pick_b rfl rfl rfl) ?_
          refine dq rfl rfl (qr_move rfl) ?_
          refine ds rfl rfl ?_
          refine ds rfl rfl ?_
          refine ds rfl rfl ?_
          first | refine dq rfl rfl (qr_pick_t rfl rfl) ?_ | refine dq rfl rfl (qr_pick_f rfl rfl) ?_ | refine dq rfl rfl (qr_pick_b rfl rfl rfl) ?_
          refine dnil ⟨rfl, ?_⟩
          refine dalloc_s rfl ?_
          refine dalloc_s rfl ?_
          refine dalloc_s rfl ?_
          refine dalloc_s rfl ?_
          refine dalloc_s rfl ?_
          refine dalloc_s rfl ?_
          refine dalloc_s rfl ?_
          refine dalloc_s rfl ?_
          refine dalloc_s rfl ?_
          refine dalloc_s rfl ?_
          refine dalloc_s rfl ?_
          refine dalloc_s rfl ?_
          refine dalloc_s rfl ?_
          refine dalloc_s rfl ?_
          refine dalloc_s rfl ?_
          refine dalloc_s rfl ?_
          refine dalloc_s rfl ?_
          refine dalloc_s rfl ?_
          refine dalloc_nil ?_
          refine qq rfl rfl (qr_index_row rfl rfl hmN3) ?_
          refine aops_e rfl (oe_store_rp rfl rfl rfl hopn rfl (Nat.le_of_ble_eq_true rfl) ?_)
          refine aops_nil ?_
          refine inBlk_n ?_
          refine thn_n ?_
          refine aw_region ?_
          refine qq rfl rfl (qr_ari rfl rfl rfl (by omega)) ?_
          refine qq rfl rfl (qr_move rfl) ?_
          refine aops_nil (thn_n ?_)
          have hset := opens_set (f := fun t => begunL o.hist.evs (t : Nat) && !overL (o.hist.evs.take k) (t : Nat)) (g := fun t => begunL o.hist.evs (t : Nat) && !overL (o.hist.evs.take (k + 1)) (t : Nat)) hmN (fun t ht => by simp only [htk]; rw [over_other rfl ht]) ([bv (begunL o.hist.evs ((m : Nat) : Int) && !overL (o.hist.evs.take k) ((m : Nat) : Int))].take 0 ++ [bv false] ++ [bv (begunL o.hist.evs ((m : Nat) : Int) && !overL (o.hist.evs.take k) ((m : Nat) : Int))].drop (0 + 1)) (by simp only [htk]; rw [over_this rfl]; exact congrArg (fun b => [bv b]) (open_3 hg14_8))
          exact ⟨k + 1, by omega, (by rw [← hset]; exact (ent_trans (ent_drop (h1 := [_])) (ent_sub (.cons _ _ _ rfl (.cons _ _ _ rfl (.cons _ _ _ rfl (.cons _ _ _ rfl (.cons _ _ _ rfl (.cons _ _ _ rfl (.nil)))))))))), by omega⟩
      · obtain rfl : k = o.evs.length := by
          have : ¬ k < o.evs.length := by simpa using hc50
          omega
        have hta : o.hist.evs.take o.evs.length = o.hist.evs := List.take_of_length_le (by simp [OH.hist])
        refine aw_exit ?_
        refine thn_e ?_
        refine thn_e ?_
        refine inBlk_hit ?_
        refine thn_n ?_
        refine aw_seq ?_
        refine aw_seq (aw_region ?_)
        refine qq rfl rfl (qr_move rfl) ?_
        first | refine qq rfl rfl (qr_len_list rfl) ?_ | refine qq rfl rfl (qr_len_row rfl) ?_
        refine qq rfl rfl (qr_move rfl) ?_
        refine aops_nil (thn_n ?_)
        refine aw_block ?_
        refine aw_loop' (fun x : Nat × SV => x.1 ≤ o.hist.ts.length) (fun x => ⟨[(75, iv x.1), (74, iv (o.hist.ts.map strR).length), (73, .v (.slice (some ⟨bo, 0, none⟩) (o.hist.ts.map strR).length (o.hist.ts.map strR).length : Value)), (1, .v (.pointer (some ⟨b1, 0, none⟩))), (2, .v (.pointer (some ⟨b2, 0, none⟩)))], .row (.slice (some ⟨bo, 0, none⟩) (o.hist.ts.map strR).length (o.hist.ts.map strR).length : Value) 1 4 (opens (o.hist.ts.map strR).length (isOpen o.hist)) :: .box b2 28 histZ :: .box b1 28 (n.cells ++ [.v x.2.v, .v o.vR.v, .v o.vM.v, .v o.vW.v]) :: .glob 0 71 limitsC :: .glob 1 129 firstC :: .glob 2 133 acceptC :: .row n.vT.v 1 9 (o.hist.ts.map strR) :: .row n.vS.v 1 9 (o.hist.ss.map strR) :: .row n.vO.v 1 9 (o.hist.os.map strR) :: .row n.vP.v 1 9 (o.hist.ps.map strR) :: .row x.2.v 9 40 ((o.evs ++ abR (opensTo o.hist x.1)).map evRw) :: .row o.vR.v 2 54 (o.ords.map ordRw) :: .row o.vM.v 4 57 (o.mats.map matRw) :: .row o.vW.v 2 60 (o.wants.map wanR) :: (scR 52 (o.evs ++ abR (opensTo o.hist x.1)) ++ (otR 3 o.ords ++ (mtR 3 o.mats ++ []))), []⟩) (fun x => o.hist.ts.length - x.1) (0, o.vE) (by simp)
          (by simp only [show opensTo o.hist 0 = [] from rfl, abR, List.map_nil, List.append_nil, opens_len]; rw [show opens (o.hist.ts.map strR).length (isOpen o.hist) = opens (o.hist.ts.map strR).length (fun t => begunL o.hist.evs (t : Nat) && !overL (o.hist.evs.take o.evs.length) (t : Nat)) from by simp only [hta]; rfl]; exact (ent_sub (.cons _ _ _ rfl (.cons _ _ _ rfl (.cons _ _ _ rfl (.cons _ _ _ rfl (.cons _ _ _ rfl (.nil)))))))) ?_
        rintro ⟨k, s⟩ hk
        simp only at hk
        refine aw_seq (aw_region ?_)
        refine qq rfl rfl (qr_cmp rfl rfl rfl) ?_
        refine aops_nil (thn_n ?_)
        refine aw_seq ?_
        refine aw_cond rfl (fun hc76 => ?_) (fun hc76 => ?_)
        · have hk2 : k < (o.hist.ts.map strR).length := by simpa using hc76
          have hkt : k < o.hist.ts.length := by simpa using hk2
          have hk3 : k < (opens (o.hist.ts.map strR).length (isOpen o.hist)).length := by rw [opens_len]; exact hk2
          have hopn := opens_get (f := isOpen o.hist) hk2
          have hlt := la3.ts
          have hle := la3.evs
          have hle2 : o.evs.length ≤ 3000 := by simpa [OH.hist] using hle
          have hol := opensTo_len o.hist k
          refine aw_skip ?_
          refine thn_n ?_
          refine aw_seq ?_
          refine aw_block ?_
          refine aw_seq (aw_region ?_)
          refine qq rfl rfl (qr_move rfl) ?_
          first | refine qq rfl rfl (qr_index_list rfl rfl (by assumption)) ?_ | refine qq rfl rfl (qr_index_row rfl rfl (by assumption)) ?_
          refine qq rfl rfl (qr_load_rp_one rfl hopn rfl) ?_
          refine qq rfl rfl (qr_assign rfl) ?_
          refine qq rfl rfl (qr_assign rfl) ?_
          refine aops_nil (thn_n ?_)
          refine aw_seq (aw_region ?_)
          refine qq rfl rfl (qr_move rfl) ?_
          refine aops_nil (thn_n ?_)
          refine aw_cond rfl (fun hc80 => ?_) (fun hc80 => ?_)
          · have hop : isOpen o.hist k = true := hc80
            refine aw_region ?_
            first | refine qq rfl rfl (qr_fieldAddr rfl (Nat.succ_ne_zero _)) ?_ | refine qq rfl rfl (qr_fieldAddr_pp rfl (Nat.succ_ne_zero _)) ?_ | refine qq rfl rfl (qr_fieldAddr_rp rfl (Nat.succ_ne_zero _)) ?_ | refine qq rfl rfl (qr_fieldAddr_row rfl (Nat.succ_ne_zero _)) ?_
            first | refine qq rfl rfl (qr_load_one rfl rfl) ?_ | refine qq rfl rfl (qr_load_pp_one rfl rfl) ?_ | refine qq rfl rfl (qr_load_rp_one rfl (by assumption) rfl) ?_
            refine qq rfl rfl (qr_move rfl) ?_
            refine qq rfl rfl (qr_build rfl (by rfl)) ?_
            refine qv rfl rfl (qv_buildSlice rfl rfl) ?_
            refine aops_e rfl (oe_append_row rfl rfl (by simp [abR]; omega) rfl (fun s86 => ?_) (fun r hr => by simp at hr; subst hr; rfl))
            refine aops_slice s86 fun sv hsv => ?_
            subst hsv
            first | refine qq rfl rfl (qr_fieldAddr rfl (Nat.succ_ne_zero _)) ?_ | refine qq rfl rfl (qr_fieldAddr_pp rfl (Nat.succ_ne_zero _)) ?_ | refine qq rfl rfl (qr_fieldAddr_rp rfl (Nat.succ_ne_zero _)) ?_ | refine qq rfl rfl (qr_fieldAddr_row rfl (Nat.succ_ne_zero _)) ?_
            first | refine aops_e rfl (oe_store_all rfl rfl rfl ?_) | refine aops_e rfl (oe_store rfl rfl rfl rfl (Nat.le_of_ble_eq_true rfl) ?_)
            refine aops_nil ?_
            refine inBlk_n ?_
            refine thn_n ?_
            refine aw_region ?_
            refine qq rfl rfl (qr_ari rfl rfl rfl (by omega)) ?_
            refine qq rfl rfl (qr_move rfl) ?_
            refine aops_nil (thn_n ?_)
            have hrows : (o.evs ++ abR (opensTo o.hist k)).map evRw ++ [evRw (nilS, abortE k)] = (o.evs ++ abR (opensTo o.hist (k + 1))).map evRw := by rw [opensTo_go hop]; simp [abR]
            have hsc : scR 52 (o.evs ++ abR (opensTo o.hist (k + 1))) = scR 52 (o.evs ++ abR (opensTo o.hist k)) ++ [.row nilS.v 3 52 []] := by rw [opensTo_go hop, abR, List.map_append, ← List.append_assoc]; exact scR_snoc _ _ _
            exact ⟨(k + 1, sv), by simp only; omega, (by rw [← hrows, hsc, List.append_assoc (scR 52 (o.evs ++ abR (opensTo o.hist k)))]; exact ent_trans (ent_nilrow 3 52) (ent_trans (ent_pcs (l1 := [[_], [_, _, _, _, _, _, _, _, _, _, _, _, _, _], scR 52 (o.evs ++ abR (opensTo o.hist k)), otR 3 o.ords, mtR 3 o.mats]) (l2 := [[_, _, _, _, _, _, _, _, _, _, _, _, _, _], scR 52 (o.evs ++ abR (opensTo o.hist k)), [_], otR 3 o.ords, mtR 3 o.mats]) ((pt1 _ _ _).trans (.cons _ (pt1 _ _ _)))) (ent_sub (.cons _ _ _ rfl (.cons _ _ _ rfl (.cons _ _ _ rfl (.cons _ _ _ rfl (.cons _ _ _ rfl (.nil))))))))), by simp only; omega⟩
          · have hop : isOpen o.hist k = false := hc80
            refine aw_skip ?_
            refine inBlk_n ?_
            refine thn_n ?_
            refine aw_region ?_
            refine qq rfl rfl (qr_ari rfl rfl rfl (by omega)) ?_
            refine qq rfl rfl (qr_move rfl) ?_
            refine aops_nil (thn_n ?_)
            exact ⟨(k + 1, s), by simp only; omega, (by simp only [opensTo_no hop]; exact (ent_sub (.cons _ _ _ rfl (.cons _ _ _ rfl (.cons _ _ _ rfl (.cons _ _ _ rfl (.cons _ _ _ rfl (.nil)))))))), by simp only; omega⟩
        · obtain rfl : k = o.hist.ts.length := by
            have : ¬ k < (o.hist.ts.map strR).length := by simpa using hc76
            simp at this; omega
          refine aw_exit ?_
          refine thn_e ?_
          refine thn_e ?_
          refine inBlk_hit ?_
          refine thn_n ?_
          refine aw_seq ?_
          refine aw_seq (aw_region ?_)
          first | refine qq rfl rfl (qr_fieldAddr rfl (Nat.succ_ne_zero _)) ?_ | refine qq rfl rfl (qr_fieldAddr_pp rfl (Nat.succ_ne_zero _)) ?_ | refine qq rfl rfl (qr_fieldAddr_rp rfl (Nat.succ_ne_zero _)) ?_ | refine qq rfl rfl (qr_fieldAddr_row rfl (Nat.succ_ne_zero _)) ?_
          first | refine qq rfl rfl (qr_load_one rfl rfl) ?_ | refine qq rfl rfl (qr_load_pp_one rfl rfl) ?_ | refine qq rfl rfl (qr_load_rp_one rfl (by assumption) rfl) ?_
          first | refine qq rfl rfl (qr_len_list rfl) ?_ | refine qq rfl rfl (qr_len_row rfl) ?_
          refine qq rfl rfl (qr_cmp rfl rfl rfl) ?_
          refine aops_nil (thn_n ?_)
          refine aw_cond rfl (fun hc92 => ?_) (fun hc92 => ?_)
          · have hc : complE o.hist = 6 := complE_6 hm (many_6 hc92)
            refine aw_seq (aw_region ?_)
            refine qq rfl rfl (qr_build rfl (by rfl)) ?_
            first | refine aops_e rfl (oe_store_all rfl rfl rfl ?_) | refine aops_e rfl (oe_store rfl rfl rfl rfl (Nat.le_of_ble_eq_true rfl) ?_)
            refine qq rfl rfl (qr_assign rfl) ?_
            refine aops_nil (thn_n ?_)
            refine aw_ret ?_
            refine thn_r ?_
            exact retq (.cons _ _ _ _ (.agg _ _ _ _ _ _ _ rfl inferInstance inferInstance inferInstance rfl) (.cons _ _ _ _ (.tmp _ _ rfl) .nil)) (.trans (.perm (pcs_perm (l1 := [[_, _, _], [.glob 0 71 limitsC, .glob 1 129 firstC, .glob 2 133 acceptC], [_, _, _, _, _, _, _, _], scR 52 (o.evs ++ abR (opensTo o.hist o.hist.ts.length)), otR 3 o.ords, mtR 3 o.mats]) (l2 := [[_, _, _], [_, _, _, _, _, _, _, _], scR 52 (o.evs ++ abR (opensTo o.hist o.hist.ts.length)), otR 3 o.ords, mtR 3 o.mats, [.glob 0 71 limitsC, .glob 1 129 firstC, .glob 2 133 acceptC]]) (.cons _ ((pt1 _ _ _).trans (.cons _ ((pt1 _ _ _).trans (.cons _ ((pt1 _ _ _).trans (.cons _ (pt1 _ _ _)))))))) []) _) (vent_drops [[_, _, _], [_, _, _, _, _, _, _, _], scR 52 (o.evs ++ abR (opensTo o.hist o.hist.ts.length)), otR 3 o.ords, mtR 3 o.mats] [.glob 0 71 limitsC, .glob 1 129 firstC, .glob 2 133 acceptC] _)) ⟨fun q => absurd (hc.symm.trans q) (by decide), fun _ => ⟨rfl, by rw [hc]; rfl⟩⟩
          · have hc : complE o.hist = 0 := complE_0 hm (many_0 hc92)
            refine aw_skip ?_
            refine thn_n ?_
            refine aw_seq (aw_region ?_)
            first | refine qq rfl rfl (qr_load_all rfl rfl) ?_ | refine qq rfl rfl (qr_load_pp_all rfl rfl) ?_ | refine qq rfl rfl (qr_load_agg rfl (Nat.le_of_ble_eq_true rfl)) ?_ | refine qq rfl rfl (qr_load_pp_agg rfl (Nat.le_of_ble_eq_true rfl)) ?_ | refine qq rfl rfl (qr_load_rp_all rfl (by assumption) rfl) ?_
            first | refine aops_e rfl (oe_store_all rfl rfl rfl ?_) | refine aops_e rfl (oe_store rfl rfl rfl rfl (Nat.le_of_ble_eq_true rfl) ?_)
            refine qq rfl rfl (qr_assign rfl) ?_
            refine aops_nil (thn_n ?_)
            refine aw_ret ?_
            exact retq (.cons _ _ _ _ (.agg _ _ _ _ _ _ _ rfl inferInstance inferInstance inferInstance rfl) (.cons _ _ _ _ (.tmp _ _ rfl) .nil)) (.drop [_, _, _] _ _) ⟨fun _ => ⟨n, { o with vE := s, evs := o.evs ++ abR (opensTo o.hist o.hist.ts.length) }, compl_hist o s, rfl, rfl⟩, fun q => absurd hc q⟩
end Go.Proofs
