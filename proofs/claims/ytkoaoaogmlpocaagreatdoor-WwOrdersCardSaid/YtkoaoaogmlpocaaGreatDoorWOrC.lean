/- The abstract logic, part 26: whole stretches of code gone through at once. Conditions: none (lemmas over any program). -/
import Derived.Test.YtkoaoaogmlpocaaGreatDoorWOrB
set_option linter.unusedSimpArgs false
set_option linter.unusedVariables false
set_option linter.unusedVariables false
set_option linter.unusedSimpArgs false
namespace Go.Ab
open Go
section
variable {P : Program} {h : List Res} {f : Operand → Option AV} {dst : Option Tmp} {ty T T' : TypeId} {pos : String} {after : Array Edge} {g : Option (Nat × Bool)} {x y z : Operand} {av : AV}
/-! By kinds. -/
theorem g_move (q : QR P h f ⟨dst, .move x, ty, pos, after, g⟩ av) : QR P h f ⟨dst, .move x, ty, pos, after, g⟩ av := q
theorem g_assign (q : QR P h f ⟨dst, .assign x, ty, pos, after, g⟩ av) : QR P h f ⟨dst, .assign x, ty, pos, after, g⟩ av := q
theorem g_pick (q : QR P h f ⟨dst, .pick x y z, ty, pos, after, g⟩ av) : QR P h f ⟨dst, .pick x y z, ty, pos, after, g⟩ av := q
theorem g_bin {op : BinOp} (q : QR P h f ⟨dst, .binOp op T x y T', ty, pos, after, g⟩ av) : QR P h f ⟨dst, .binOp op T x y T', ty, pos, after, g⟩ av := q
theorem g_un {op : UnOp} (q : QR P h f ⟨dst, .unOp op T x, ty, pos, after, g⟩ av) : QR P h f ⟨dst, .unOp op T x, ty, pos, after, g⟩ av := q
theorem g_fieldAddr {k : Nat} (q : QR P h f ⟨dst, .fieldAddr T x k, ty, pos, after, g⟩ av) : QR P h f ⟨dst, .fieldAddr T x k, ty, pos, after, g⟩ av := q
theorem g_field {k : Nat} (q : QR P h f ⟨dst, .field T x k, ty, pos, after, g⟩ av) : QR P h f ⟨dst, .field T x k, ty, pos, after, g⟩ av := q
theorem g_load (q : QR P h f ⟨dst, .load T x, ty, pos, after, g⟩ av) : QR P h f ⟨dst, .load T x, ty, pos, after, g⟩ av := q
theorem g_nilCheck (q : QR P h f ⟨dst, .nilCheck x, ty, pos, after, g⟩ av) : QR P h f ⟨dst, .nilCheck x, ty, pos, after, g⟩ av := q
theorem g_indexAddr (q : QR P h f ⟨dst, .indexAddr T x y, ty, pos, after, g⟩ av) : QR P h f ⟨dst, .indexAddr T x y, ty, pos, after, g⟩ av := q
theorem g_index (q : QR P h f ⟨dst, .index T x y, ty, pos, after, g⟩ av) : QR P h f ⟨dst, .index T x y, ty, pos, after, g⟩ av := q
theorem g_bui {b : Builtin} {as : Array Operand} {ts : Array TypeId} (q : QR P h f ⟨dst, .call ⟨.builtin b, as, ts⟩, ty, pos, after, g⟩ av) : QR P h f ⟨dst, .call ⟨.builtin b, as, ts⟩, ty, pos, after, g⟩ av := q
theorem g_slice {a b c : Option Operand} (q : QR P h f ⟨dst, .slice T x a b c, ty, pos, after, g⟩ av) : QR P h f ⟨dst, .slice T x a b c, ty, pos, after, g⟩ av := q
theorem g_extract {k : Nat} (q : QR P h f ⟨dst, .extract x k, ty, pos, after, g⟩ av) : QR P h f ⟨dst, .extract x k, ty, pos, after, g⟩ av := q
def bitsOk (op : BinOp) (k : IntKind) : Bool := match op, k with
  | .add, .i64 => false
  | .sub, .i64 => false
  | .mul, .i64 => false
  | _, _ => true
theorem qr_bitsN {op : BinOp} {k : IntKind} {a b c : Int} (hx : f x = some (.v (.int k a))) (hy : f y = some (.v (.int k b))) (hk : bitsOk op k = true) (hc : bitsI op k a b = some c) :
    QR P h f ⟨dst, .binOp op T x y T', ty, pos, after, g⟩ (.v (.int k c)) := qr_bits hx hy hc
end
/-- A plain operation, by the rule that fits. -/
theorem qrA {P : Program} {h : List Res} {f : Operand → Option AV} {o : Oper} {av : AV} (hq : QR P h f o av := by
    first
    | (apply g_move; exact qr_move rfl)
    | (apply g_bin; first
      | exact qr_cmp rfl rfl rfl
      | exact qr_ari rfl rfl rfl (by omega)
      | exact qr_shift rfl rfl rfl (by decide)
      | exact qr_bitsN rfl rfl rfl rfl
      | exact qr_eqstr rfl rfl
      | exact qr_nestr rfl rfl
      | exact qr_eqbool rfl rfl rfl
      | exact qr_nebool rfl rfl
      | exact qr_eqagg rfl rfl rfl rfl
      | exact qr_neagg rfl rfl rfl rfl)
    | (apply g_load; first
      | exact qr_load_one rfl rfl
      | exact qr_load_pp_one rfl rfl
      | exact qr_load_rp_one rfl (by assumption) rfl
      | exact qr_load_all rfl rfl
      | exact qr_load_pp_all rfl rfl
      | exact qr_load_agg rfl (Nat.le_of_ble_eq_true rfl)
      | exact qr_load_pp_agg rfl (Nat.le_of_ble_eq_true rfl)
      | exact qr_load_rp_all rfl (by assumption) rfl)
    | (apply g_fieldAddr; first
      | exact qr_fieldAddr rfl (Nat.succ_ne_zero _)
      | exact qr_fieldAddr_pp rfl (Nat.succ_ne_zero _)
      | exact qr_fieldAddr_rp rfl (Nat.succ_ne_zero _)
      | exact qr_fieldAddr_row rfl (Nat.succ_ne_zero _))
    | (apply g_pick; first
      | exact qr_pick_t rfl rfl
      | exact qr_pick_f rfl rfl
      | exact qr_pick_b rfl rfl rfl)
    | (apply g_assign; exact qr_assign rfl)
    | (apply g_indexAddr; first
      | exact qr_index_list rfl rfl (by assumption)
      | exact qr_index_row rfl rfl (by assumption)
      | exact qr_indexAddr_arr rfl rfl (by omega))
    | (apply g_bui; first
      | exact qr_len_list rfl
      | exact qr_len_row rfl
      | exact qr_len_string rfl
      | exact qr_min2 rfl rfl
      | exact qr_max2 rfl rfl
      | exact qr_max3 rfl rfl rfl)
    | (apply g_field; first
      | exact qr_field_one rfl rfl
      | exact qr_field_agg rfl (Nat.le_of_ble_eq_true rfl))
    | (apply g_nilCheck; first
      | exact qr_nilCheck rfl
      | exact qr_nilCheck_pp rfl
      | exact qr_nilCheck_rp rfl)
    | (apply g_un; exact qr_not rfl)
    | (apply g_extract; exact qr_extract rfl rfl)
    | (apply g_slice; first
      | exact qr_slice_string_h rfl rfl (by omega)
      | exact qr_slice_string_l rfl rfl (by omega)
      | exact qr_slice_hm rfl rfl rfl (by omega)
      | exact qr_slice_lh rfl rfl rfl (by omega) (by omega)
      | exact qr_slice_h rfl rfl (by omega)
      | exact qr_slice_l rfl rfl (by omega))
    | (apply g_index; exact qr_index_arr_one rfl rfl (by omega) (by assumption))
    | exact qr_convert rfl rfl
    | exact qr_makeFunc rfl rfl
    | exact qr_build rfl (by rfl)
    | exact qr_buildArr rfl (by rfl)
    | exact qr_entry rfl (by assumption)) : QR P h f o av := hq
section
variable {P : Program} {ro : Option Nat} {nt : Nat} {Q : Exit → St → Prop} {s : St} {c : Operand} {x y : Code}
theorem aw_ct (hc : ev s.t c = some (.v (.bool true))) (h : aw P ro nt x Q s) : aw P ro nt (.cond c x y) Q s := aw_cond hc (fun _ => h) (fun h => by cases h)
theorem aw_cf (hc : ev s.t c = some (.v (.bool false))) (h : aw P ro nt y Q s) : aw P ro nt (.cond c x y) Q s := aw_cond hc (fun h => by cases h) (fun _ => h)
variable {ops : Array Oper} {l : List Oper} {dst : Option Tmp} {T ty : TypeId} {a b : Operand} {pos : String} {after : Array Edge} {g : Option (Nat × Bool)}
theorem a_store (q : aops P ro nt ops (⟨dst, .store T a b, ty, pos, after, g⟩ :: l) Q s) : aops P ro nt ops (⟨dst, .store T a b, ty, pos, after, g⟩ :: l) Q s := q
theorem a_any (q : aops P ro nt ops l Q s) : aops P ro nt ops l Q s := q
theorem a_aw (q : aw P ro nt x Q s) : aw P ro nt x Q s := q
theorem a_thn {e : Exit} {n : St → Prop} (q : thn n Q e s) : thn n Q e s := q
theorem a_blk {e : Exit} {n : Nat} (q : inBlk n Q e s) : inBlk n Q e s := q
theorem a_ds {h : List Res} {S : SB} {sd : List Tmp} {t0 : Fr} {os : List Oper} {e : Fr} {σ : List SI} {K : Fr → List SI → Prop} (q : dsoup P ro nt h S l sd t0 os e σ K) : dsoup P ro nt h S l sd t0 os e σ K := q
theorem a_dm {h : List Res} {dsl : List Nat} {sd : List Tmp} {t0 : Fr} {os : List Oper} {e : Fr} {K : Fr → List (Option CM) → Prop} (q : dsoupM P ro nt h dsl l sd t0 os e K) : dsoupM P ro nt h dsl l sd t0 os e K := q
theorem a_dam {ms : List (Option CM)} {e : Fr} {h : List Res} {K : Fr → List Res → Prop} (q : dallocM l ms e h K) : dallocM l ms e h K := q
theorem a_dal {e : Fr} {h : List Res} {K : Fr → List Res → Prop} (q : dalloc P nt l e h K) : dalloc P nt l e h K := q
theorem q1 {d : Tmp} {op : Op} {t : Fr} {h : List Res} {ds : List Nat} {av : AV} (hk : aops P ro nt ops l Q ⟨(d, av) :: t, h, ds⟩) (hg : gd ops t ⟨some d, op, ty, pos, after, g⟩ = some true := by rfl) (hd : Nat.blt d nt = true := by rfl) (hq : QR P h (ev t) ⟨some d, op, ty, pos, after, g⟩ av := by exact qrA)
    (hn : notDefer ⟨some d, op, ty, pos, after, g⟩ = true := by rfl) : aops P ro nt ops (⟨some d, op, ty, pos, after, g⟩ :: l) Q ⟨t, h, ds⟩ := aops_q hg hd (qv_of_qr hq hn) hk
end
structure Hide (B : Prop) : Prop where
  out : B
/-- As far as it goes by itself. -/
theorem rn {A B : Prop} (b : B) (hab : Hide B → A := by
    intro hB
    repeat (first
      | (refine a_any ?_; first
        | refine aops_nil ?_
        | refine qq rfl rfl qrA ?_
        | refine qs rfl rfl ?_
        | refine qs0 rfl ?_
        | (refine a_store ?_; first
          | refine aops_e rfl (oe_store_all rfl rfl rfl ?_)
          | refine aops_e rfl (oe_store rfl rfl rfl rfl (Nat.le_of_ble_eq_true rfl) ?_)))
      | (refine a_thn ?_; first
        | refine thn_n ?_
        | refine thn_e ?_
        | refine thn_r ?_)
      | (refine a_aw ?_; first
        | refine aw_seq ?_
        | refine aw_region ?_
        | refine aw_skip ?_
        | refine aw_block ?_
        | refine aw_exit ?_
        | refine aw_ret ?_
        | refine aw_label ?_)
      | (refine a_blk ?_; first
        | refine inBlk_n ?_
        | refine inBlk_r ?_
        | refine inBlk_hit ?_
        | refine inBlk_miss rfl ?_)
      | (refine a_ds ?_; first
        | refine dnil ⟨rfl, ?_⟩
        | refine dq rfl rfl qrA ?_
        | refine ds rfl rfl ?_
        | refine da ?_)
      | (refine a_dal ?_; first
        | refine dalloc_nil ?_
        | refine dalloc_s rfl ?_)
      | (refine a_dm ?_; first
        | refine mq rfl rfl qrA ?_
        | refine ms rfl rfl ?_)
      | (refine a_dam ?_; first
        | refine mal_s ?_
        | refine mal_nil ?_))
    exact hB.out) : A := hab ⟨b⟩
/-- As far as the next piece of code. -/
theorem rn0 {A B : Prop} (b : B) (hab : Hide B → A := by
    intro hB
    repeat (first
      | (refine a_any ?_; first
        | refine aops_nil ?_
        | refine qq rfl rfl qrA ?_
        | refine qs rfl rfl ?_
        | refine qs0 rfl ?_
        | (refine a_store ?_; first
          | refine aops_e rfl (oe_store_all rfl rfl rfl ?_)
          | refine aops_e rfl (oe_store rfl rfl rfl rfl (Nat.le_of_ble_eq_true rfl) ?_)))
      | (refine a_thn ?_; first
        | refine thn_n ?_
        | refine thn_e ?_
        | refine thn_r ?_)
      | (refine a_blk ?_; first
        | refine inBlk_n ?_
        | refine inBlk_r ?_
        | refine inBlk_hit ?_
        | refine inBlk_miss rfl ?_)
      | (refine a_ds ?_; first
        | refine dnil ⟨rfl, ?_⟩
        | refine dq rfl rfl qrA ?_
        | refine ds rfl rfl ?_
        | refine da ?_)
      | (refine a_dal ?_; first
        | refine dalloc_nil ?_
        | refine dalloc_s rfl ?_)
      | (refine a_dm ?_; first
        | refine mq rfl rfl qrA ?_
        | refine ms rfl rfl ?_)
      | (refine a_dam ?_; first
        | refine mal_s ?_
        | refine mal_nil ?_))
    exact hB.out) : A := hab ⟨b⟩
/-- As far as the order is open. -/
theorem rn2 {A B : Prop} (b : B) (hab : Hide B → A := by
    intro hB
    repeat (first
      | (refine a_ds ?_; first
        | refine dnil ⟨rfl, ?_⟩
        | refine dq rfl rfl qrA ?_
        | refine ds rfl rfl ?_
        | refine da ?_)
      | (refine a_dal ?_; first
        | refine dalloc_nil ?_
        | refine dalloc_s rfl ?_)
      | (refine a_dm ?_; first
        | refine mq rfl rfl qrA ?_
        | refine ms rfl rfl ?_)
      | (refine a_dam ?_; first
        | refine mal_s ?_
        | refine mal_nil ?_))
    exact hB.out) : A := hab ⟨b⟩
end Go.Ab
/- The abstract logic, part 27: short words for what ends a piece of a walk. Conditions: none (lemmas over any program). -/
set_option linter.unusedVariables false
namespace Go.Ab
open Go
section
variable {P : Program} {ro : Option Nat} {nt : Nat} {Q : Exit → St → Prop} {t t' : Fr} {h h' : List Res} {ds : List Nat} {c : Code}
theorem es (hs : SubF t t' := by repeat (first | exact .nil | refine .cons _ _ _ rfl ?_)) : Ent nt ⟨t, h, ds⟩ ⟨t', h, ds⟩ := ent_sub hs
theorem ed (n : Nat) (hd : h.drop n = h' := by rfl) (hs : SubF t t' := by repeat (first | exact .nil | refine .cons _ _ _ rfl ?_)) : Ent nt ⟨t, h, ds⟩ ⟨t', h', ds⟩ := by
  subst hd
  refine ent_trans ?_ (ent_sub hs)
  have := ent_drop (nt := nt) (t := t) (h1 := h.take n) (h2 := h.drop n) (ds := ds)
  rwa [List.take_append_drop] at this
/-- One of the resources is given up. -/
theorem eD (i : Nat) {x : Res} (hx : h[i]? = some x := by rfl) (hd : h.eraseIdx i = h' := by rfl) (hs : SubF t t' := by repeat (first | exact .nil | refine .cons _ _ _ rfl ?_)) : Ent nt ⟨t, h, ds⟩ ⟨t', h', ds⟩ := by
  subst hd
  exact ent_trans (ent_trans (ent_perm (get_perm hx)) ent_drop1) (ent_sub hs)
/-- Less is known, among operations. -/
theorem aops_ent {ops : Array Oper} {l : List Oper} {s s' : St} (he : Ent nt s s') (hk : aops P ro nt ops l Q s') : aops P ro nt ops l Q s := fun X a w hs =>
  wpListIn_aout_mono (s := s) (s' := s') ⟨Nat.le_refl _, fun b hb ho => ⟨rfl, fun q => ho (he.1 b q)⟩, rfl, rfl⟩ (hk X a w (he.2 X a w hs))
/-- A frame of which less is known, values too. -/
inductive SubB (t : Fr) : Fr → Prop where
  | nil : SubB t []
  | cons (i : Nat) (a b : AV) (r : Fr) : lk t i = some b → Sb b a → SubB t r → SubB t ((i, a) :: r)
theorem vdrop (n : Nat) (a : AV) : VEnt h a (h.drop n) a := by
  have := VEnt.drop (h.take n) (h.drop n) a
  rwa [List.take_append_drop] at this
theorem rq (n : Nat) {rs : List ResultVar} {R : AV → List Res → Prop} {av : List AV} (hR : R (packAV av) (h.drop n)) (hr : RVs P t h rs av := by first | exact .cons _ _ _ _ (.tmp _ _ rfl) .nil | exact .cons _ _ _ _ (.tmp _ _ rfl) (.cons _ _ _ _ (.tmp _ _ rfl) .nil) | exact .cons _ _ _ _ (.tmp _ _ rfl) (.cons _ _ _ _ (.tmp _ _ rfl) (.cons _ _ _ _ (.tmp _ _ rfl) .nil)) | exact .cons _ _ _ _ (.tmp _ _ rfl) (.cons _ _ _ _ (.tmp _ _ rfl) (.cons _ _ _ _ (.tmp _ _ rfl) (.cons _ _ _ _ (.tmp _ _ rfl) .nil)))) : RetQ P rs R .ret ⟨t, h, []⟩ :=
  retq hr (vdrop n _) hR
/-- What a truth is, by what is known of its parts. -/
theorem fin {p : Prop} (hp : p := by first | (simp only [*, Bool.true_and, Bool.false_and, Bool.and_false, Bool.and_true, Bool.true_or, Bool.or_false, Bool.false_or, Bool.or_true, if_true, if_false, Bool.false_eq_true, Bool.not_true, Bool.not_false]; done) | (simp_all; done) | (simp_all <;> omega)) : p := hp
/-- Less is known of the frame, and what was made on top is dropped. -/
theorem eA (hs : Ent nt ⟨t, h, ds⟩ ⟨t', h', ds⟩ := by first | exact ed 0 | exact ed 1 | exact ed 2 | exact ed 3 | exact ed 4 | exact ed 5 | exact ed 6) : Ent nt ⟨t, h, ds⟩ ⟨t', h', ds⟩ := hs
/-- A loop over so many places: v is what varies, c stays; the memory stays. -/
theorem aw_rng (n : Nat) (p : Nat → Prop) (v : Nat → Fr) (cs : Fr) (hp : p 0)
    (round : ∀ k, k ≤ n → p k → aw P ro nt c (thn (fun s' => k < n ∧ p (k + 1) ∧ Ent nt s' ⟨v (k + 1) ++ cs, h, ds⟩) Q) ⟨v k ++ cs, h, ds⟩)
    (hs : SubF t (v 0 ++ cs) := by repeat (first | exact .nil | refine .cons _ _ _ rfl ?_)) : aw P ro nt (.loop c) Q ⟨t, h, ds⟩ :=
  aw_loop' (fun k => k ≤ n ∧ p k) (fun k => ⟨v k ++ cs, h, ds⟩) (fun k => n - k) 0 ⟨Nat.zero_le _, hp⟩ (ent_sub hs) fun k hk => aw_mono (fun e s' hq => by
    cases e with
    | normal => exact ⟨k + 1, ⟨hq.1, hq.2.1⟩, hq.2.2, by have := hq.1; omega⟩
    | _ => exact hq) (round k hk.1 hk.2)
/-- A loop over so many places. -/
theorem aw_range (n : Nat) (p : Nat → Prop) (inv : Nat → St) (hp : p 0) (h0 : Ent nt ⟨t, h, ds⟩ (inv 0))
    (round : ∀ k, k ≤ n → p k → aw P ro nt c (thn (fun s' => k < n ∧ p (k + 1) ∧ Ent nt s' (inv (k + 1))) Q) (inv k)) : aw P ro nt (.loop c) Q ⟨t, h, ds⟩ :=
  aw_loop' (fun k => k ≤ n ∧ p k) inv (fun k => n - k) 0 ⟨Nat.zero_le _, hp⟩ h0 fun k hk => aw_mono (fun e s' hq => by
    cases e with
    | normal => exact ⟨k + 1, ⟨hq.1, hq.2.1⟩, hq.2.2, by have := hq.1; omega⟩
    | _ => exact hq) (round k hk.1 hk.2)
/-- A loop over so many places, in which a slice changes. -/
theorem aw_rng1 (n : Nat) (inv : Nat → SV → St) (a : SV) (h0 : Ent nt ⟨t, h, ds⟩ (inv 0 a))
    (round : ∀ k a, k ≤ n → aw P ro nt c (thn (fun s' => k < n ∧ ∃ a, Ent nt s' (inv (k + 1) a)) Q) (inv k a)) : aw P ro nt (.loop c) Q ⟨t, h, ds⟩ :=
  aw_loop' (fun x : Nat × SV => x.1 ≤ n) (fun x => inv x.1 x.2) (fun x => n - x.1) (0, a) (Nat.zero_le _) h0 fun x hx => aw_mono (fun e s' hq => by
    cases e with
    | normal =>
      obtain ⟨h1, a', h2⟩ := hq
      exact ⟨(x.1 + 1, a'), h1, h2, by simp only; omega⟩
    | _ => exact hq) (round x.1 x.2 hx)
/-- A loop that goes on while a number of steps is left. -/
theorem aw_while {σ : Type} (p : σ → Prop) (inv : σ → St) (μ : σ → Nat) (x0 : σ) (hp : p x0) (h0 : Ent nt ⟨t, h, ds⟩ (inv x0))
    (round : ∀ x, p x → aw P ro nt c (thn (fun s' => ∃ x', p x' ∧ Ent nt s' (inv x') ∧ μ x' < μ x) Q) (inv x)) : aw P ro nt (.loop c) Q ⟨t, h, ds⟩ :=
  aw_loop' p inv μ x0 hp h0 round
end
/-- A call that is lent one row of ours, and gives it back. -/
theorem fcall_row {P : Program} {fv : AV} {args : List AV} {s : Value} {i sz : Nat} {T : TypeId} {rows rows' : List (List AV)} {h : List Res} {h' : Res → List Res} [hr : HasRow h s i sz T rows] [hset : ∀ y, SetAt h i y (h' y)]
    (hc : FCall P fv args [.row s sz T rows] (fun r h2 => ∃ s' : SV, h2 = [.row s'.v sz T rows'] ∧ r = .v s'.v)) : FCall P fv args h (fun r h2 => ∃ s' : SV, h2 = h' (.row s'.v sz T rows') ∧ r = .v s'.v) := by
  have hi : i < h.length := (List.getElem?_eq_some_iff.1 hr.h).1
  have hp := get_perm hr.h
  refine (FCall.perm hp (FCall.permR ((FCall.frame (h.eraseIdx i) hc).mono ?_)))
  rintro av h2 ⟨h1', rfl, s', rfl, rfl⟩
  refine ⟨h' (.row s'.v sz T rows'), ?_, s', rfl, rfl⟩
  rw [← (hset (.row s'.v sz T rows')).h]
  exact (set_perm hi).symm
/-- A call that is lent one row of ours, and gives it back in its place. -/
theorem fcall_row0 {P : Program} {fv r0 : AV} {args : List AV} {s : Value} {i sz : Nat} {T : TypeId} {rows rows' : List (List AV)} {h : List Res} {h' : Res → List Res} [hr : HasRow h s i sz T rows] [hset : ∀ y, SetAt h i y (h' y)]
    (hc : FCall P fv args [.row s sz T rows] (fun r h2 => h2 = [.row s sz T rows'] ∧ r = r0)) : FCall P fv args h (fun r h2 => h2 = h' (.row s sz T rows') ∧ r = r0) := by
  have hi : i < h.length := (List.getElem?_eq_some_iff.1 hr.h).1
  have hp := get_perm hr.h
  refine (FCall.perm hp (FCall.permR ((FCall.frame (h.eraseIdx i) hc).mono ?_)))
  rintro av h2 ⟨h1', rfl, rfl, rfl⟩
  refine ⟨h' (.row s sz T rows'), ?_, rfl, rfl⟩
  rw [← (hset (.row s sz T rows')).h]
  exact (set_perm hi).symm
section
variable {P : Program} {h : List Res} {f : Operand → Option AV} {dst : Option Tmp} {ty : TypeId} {pos : String} {after : Array Edge} {g : Option (Nat × Bool)} {x y : Operand}
theorem qr_index_int {T E : TypeId} {full : Bool} {sz : Nat} {i : Int} {rows : List (List AV)} {row : List AV} (hx : f x = some (.list full sz rows)) (hy : f y = some (.v (.int .i64 i))) [Und P T (.slice E)] [Siz P E sz] (h0 : 0 ≤ i)
    (hi : rows[i.toNat]? = some row) : QR P h f ⟨dst, .indexAddr T x y, ty, pos, after, g⟩ (.pp row) := qr_index_list (i := i.toNat) hx (by rw [Int.toNat_of_nonneg h0]; exact hy) hi
end
/-- What is looked at in a loop over a row. -/
theorem atRow {A : Type} {f : A → List AV} {l : List A} {k : Nat} (hk : k < l.length) : (l.map f)[k]? = some (f l[k]) := by simp [hk]
theorem ltMap {A B : Type} {f : A → B} {l : List A} {k : Nat} (h : decide ((k : Int) < ((l.map f).length : Nat)) = true) : k < l.length := by simpa using h
theorem geMap {A B : Type} {f : A → B} {l : List A} {k : Nat} (h : decide ((k : Int) < ((l.map f).length : Nat)) = false) (hk : k ≤ l.length) : k = l.length := by
  have : l.length ≤ k := by simpa using h
  omega
section
variable {A : Type} {f : A → A} {R : A → List AV} {l : List A} {k : Nat}
end
end Go.Ab
/- Cutting off the room behind a row of one's own. Conditions: none (rules over any program). -/
set_option linter.unusedVariables false
namespace Go.Ab
open Go
/-- A slice without the room behind it. -/
def cutV (s : Value) (sz : Nat) : Value := match s with
  | .slice a n _ => sliced a 0 n n sz
  | v => v
theorem cut_add (a : Addr) (n sz : Nat) : (if n = 0 then some a else (some a).map (fun x : Addr => x.add (0 * sz))) = some a := by
  split
  · rfl
  · simp [Addr.add]
theorem cutV_some (a : Addr) (n c sz : Nat) : cutV (.slice (some a) n c) sz = .slice (some a) n n := by
  unfold cutV
  simp only [sliced]
  rw [cut_add, Nat.sub_zero]
theorem cutV_none (n c sz : Nat) : cutV (.slice none n c) sz = .slice none n n := by
  unfold cutV
  simp [sliced]
theorem cut_own (s : Value) (sz : Nat) (T : TypeId) (rows : List (List AV)) : (Res.row (cutV s sz) sz T rows).own = (Res.row s sz T rows).own := by
  cases s with
  | slice a n c =>
    cases a with
    | none => rw [cutV_none]; rfl
    | some a => rw [cutV_some]; rfl
  | _ => rfl
theorem cut_holds {w : World} {O : Nat → Prop} {s : Value} {sz : Nat} {T : TypeId} {rows : List (List AV)} (h : (Res.row s sz T rows).holds w O) : (Res.row (cutV s sz) sz T rows).holds w O := by
  cases s with
  | slice a n c =>
    cases a with
    | none =>
      obtain ⟨h1, h2, h3⟩ := h
      rw [cutV_none]; exact ⟨h1, h2, h2⟩
    | some a =>
      obtain ⟨h1, h2, h3, h4, cc, h5, h6, h7⟩ := h
      rw [cutV_some]
      exact ⟨h1, h2, Nat.le_refl _, h4, cc, h5, Nat.le_trans (Nat.add_le_add_left (Nat.mul_le_mul_right _ h3) _) h6, h7⟩
  | _ => exact h
theorem HRel.cut {X : Nat → Prop} {w : World} {h : List Res} {i : Nat} {s : Value} {sz : Nat} {T : TypeId} {rows : List (List AV)} (hh : HRel X w h) (hi : h[i]? = some (.row s sz T rows)) : HRel X w (h.set i (.row (cutV s sz) sz T rows)) := by
  have ho : owns (h.set i (.row (cutV s sz) sz T rows)) = owns h := by
    unfold owns
    rw [List.flatMap_def, List.flatMap_def, List.map_set, cut_own]
    congr 1
    obtain ⟨hl, e⟩ := List.getElem?_eq_some_iff.1 hi
    refine List.ext_getElem (by simp) fun j h1 h2 => ?_
    rw [List.getElem_set]
    split
    · rename_i e2; subst e2; rw [List.getElem_map, e]
    · rfl
  have hO : OO (h.set i (.row (cutV s sz) sz T rows)) X = OO h X := by unfold OO; rw [ho]
  refine ⟨by rw [ho]; exact hh.nodup, by rw [ho]; exact hh.lt, hh.xlt, fun r hr => ?_⟩
  rw [hO]
  rcases List.mem_or_eq_of_mem_set hr with h1 | h1
  · exact hh.holds r h1
  · rw [h1]; exact cut_holds (hh.holds _ (List.mem_of_getElem? hi))
section
variable {P : Program} {ro : Option Nat} {nt : Nat} {h : List Res} {f : Operand → Option AV} {dst : Option Tmp} {ty : TypeId} {pos : String} {after : Array Edge} {guard : Option (Nat × Bool)} {x y z : Operand}
theorem qr_cut_row {T E : TypeId} {s : Value} {sz i : Nat} {E' : TypeId} {rows : List (List AV)} (hx : f x = some (.v s)) [hr : HasRow h s i sz E' rows] (hy : f y = some (.v (.int .i64 rows.length))) (hz : f z = some (.v (.int .i64 rows.length)))
    [Und P T (.slice E)] [Siz P E sz] : QR P h f ⟨dst, .slice T x none (some y) (some z), ty, pos, after, guard⟩ (.v (cutV s sz)) := fun X ρ w he => by
  obtain ⟨a, cap, es, hcap, _⟩ := row_list he.heap hr.h
  obtain ⟨e1, e2⟩ := und_elem (P := P) (T := T) (E := E)
  have hv := (he.rel x _ hx).v_eq
  refine ⟨cutV s sz, run_v _ ?_, .v _⟩
  simp only [Option.map_none, Option.map_some]
  rw [run_sliceAt_slice w T _ _ _ _ e2, hv, (he.rel y _ hy).v_eq, (he.rel z _ hz).v_eq, es, run_slice_hm w T a _ cap e2 .i64 .i64 rows.length rows.length (by omega) (by omega) (by omega), e1]
  simp only [run_sizeOf (n := sz), Result.andThen_ok, Int.toNat_natCast]
  rfl
theorem aops_cut {ops : Array Oper} {l : List Oper} {Q : Exit → St → Prop} {t : Fr} {h h' : List Res} {ds : List Nat} (s : Value) {i sz : Nat} {T : TypeId} {rows : List (List AV)} [hr : HasRow h s i sz T rows] [hset : SetAt h i (.row (cutV s sz) sz T rows) h']
    (k : aops P ro nt ops l Q ⟨t, h', ds⟩) : aops P ro nt ops l Q ⟨t, h, ds⟩ := by
  refine aops_ent (s' := ⟨t, h', ds⟩) ?_ k
  have ho : owns h' = owns h := by
    rw [← hset.h]
    unfold owns
    rw [List.flatMap_def, List.flatMap_def, List.map_set, cut_own]
    congr 1
    obtain ⟨hl, e⟩ := List.getElem?_eq_some_iff.1 hr.h
    refine List.ext_getElem (by simp) fun j h1 h2 => ?_
    rw [List.getElem_set]
    split
    · rename_i e2; subst e2; rw [List.getElem_map, e]
    · rfl
  refine ⟨fun b hb => by rw [← ho]; exact hb, fun X a w hs => ⟨by rw [← hset.h]; exact hs.heap.cut hr.h, hs.size, ?_, hs.defs⟩⟩
  have : OO h' X = OO h X := by unfold OO; rw [ho]
  show FrRel w (OO h' X) t a.tmps
  rw [this]; exact hs.fr
end
end Go.Ab
/- copy: into a row of one's own, out of what is only read. Conditions: none (rules over any program). -/
set_option linter.unusedVariables false
set_option linter.unusedSimpArgs false
namespace Go.Ab
open Go
/-- The first cells of a slice. -/
theorem run_firstN {P : Program} {w : World} {O : Nat → Prop} {full : Bool} {sz n : Nat} {rows : List (List AV)} {v : Value} (hr : Rel w O (.list full sz rows) v) (hn : n ≤ rows.length) :
    ∃ c : Array Value, (∀ w' : World, w'.heap = w.heap → (Builtin.firstCells sz n v).run P w' = .ok c w') ∧ c.size = n * sz ∧ (∀ i (hi : i < n) j (hj : j < (rows[i]'(by omega)).length), ∃ u, c[i * sz + j]? = some u ∧ Rel w O (rows[i]'(by omega))[j] u) ∧ ∀ i (hi : i < n), (rows[i]'(by omega)).length = sz := by
  cases hr with
  | lnil _ _ a cap h =>
    obtain rfl : n = 0 := by simpa using hn
    refine ⟨#[], fun w' _ => ?_, by simp, fun i hi => absurd hi (Nat.not_lt_zero i), fun i hi => absurd hi (Nat.not_lt_zero i)⟩
    cases a with
    | none => rfl
    | some a => simp only [Builtin.firstCells, Nat.zero_mul]; rfl
  | list _ _ _ b off cap g h1 h2 h3 h4 h5 h6 h7 =>
    have hcell : ∀ k, k < n * sz → w.cell? ⟨b, off + k, none⟩ = some ((w.cell? ⟨b, off + k, none⟩).getD undef) := fun k hk => by
      have hsz : 0 < sz := by
        rcases Nat.eq_zero_or_pos sz with h | h
        · subst h; simp at hk
        · exact h
      have hi : k / sz < n := (Nat.div_lt_iff_lt_mul hsz).2 hk
      have hi' : k / sz < rows.length := by omega
      have hj : k % sz < rows[k / sz].length := by rw [h5 _ hi']; exact Nat.mod_lt _ hsz
      have e := h6 _ hi' _ hj
      have ek : off + k / sz * sz + k % sz = off + k := by have := Nat.div_add_mod k sz; rw [Nat.mul_comm] at this; omega
      rw [ek] at e
      rw [e]; rfl
    refine ⟨((List.range (n * sz)).map fun k => (w.cell? ⟨b, off + k, none⟩).getD undef).toArray, fun w' hw' => ?_, by simp, fun i hi j hj => ⟨g i j, ?_, h7 i (by omega) j hj⟩, fun i hi => h5 i (by omega)⟩
    · simp only [Builtin.firstCells]
      exact run_loadCells w' _ _ _ fun k hk => by rw [add_none, cell_congr (show w'.heap[b]? = w.heap[b]? by rw [hw'])]; exact hcell k hk
    · have hj' : j < sz := by rw [← h5 i (by omega)]; exact hj
      have hlt : i * sz + j < n * sz := by
        have : (i + 1) * sz ≤ n * sz := Nat.mul_le_mul_right _ hi
        rw [Nat.add_mul] at this; omega
      have e := h6 i (by omega) j hj
      rw [Nat.add_assoc] at e
      simp [hlt, e]
section
variable {P : Program} {ro : Option Nat} {nt : Nat} {dst : Option Tmp} {ty : TypeId} {pos : String} {after : Array Edge} {guard : Option (Nat × Bool)} {x y : Operand}
end
end Go.Ab
/- Parts of a row of one's own: cut out, read, written; copy and clear. Conditions: none (rules over any program). -/
set_option linter.unusedVariables false
set_option linter.unusedSimpArgs false
namespace Go.Ab
open Go
/-- A part of a slice. -/
def partV (s : Value) (lo hi sz : Nat) : Value := match s with
  | .slice a _ c => sliced a lo hi c sz
  | v => v
section
variable {P : Program} {ro : Option Nat} {nt : Nat} {h : List Res} {f : Operand → Option AV} {dst : Option Tmp} {ty : TypeId} {pos : String} {after : Array Edge} {guard : Option (Nat × Bool)} {x y z : Operand}
theorem qr_part_l {T E : TypeId} {s : Value} {sz i l : Nat} {E' : TypeId} {rows : List (List AV)} (hx : f x = some (.v s)) [hr : HasRow h s i sz E' rows] (hy : f y = some (.v (.int .i64 l))) (hl : l ≤ rows.length)
    [Und P T (.slice E)] [Siz P E sz] : QR P h f ⟨dst, .slice T x (some y) none none, ty, pos, after, guard⟩ (.v (partV s l rows.length sz)) := fun X ρ w he => by
  obtain ⟨a, cap, es, hcap, _⟩ := row_list he.heap hr.h
  obtain ⟨e1, e2⟩ := und_elem (P := P) (T := T) (E := E)
  have hv := (he.rel x _ hx).v_eq
  refine ⟨partV s l rows.length sz, run_v _ ?_, .v _⟩
  simp only [Option.map_none, Option.map_some]
  rw [run_sliceAt_slice w T _ _ _ _ e2, hv, (he.rel y _ hy).v_eq, es, run_slice_l w T a _ cap e2 .i64 l (by omega) (by omega), e1]
  simp only [run_sizeOf (n := sz), Result.andThen_ok, Int.toNat_natCast]
  rfl
theorem qr_part_h {T E : TypeId} {s : Value} {sz i k : Nat} {E' : TypeId} {rows : List (List AV)} (hx : f x = some (.v s)) [hr : HasRow h s i sz E' rows] (hy : f y = some (.v (.int .i64 k))) (hk : k ≤ rows.length)
    [Und P T (.slice E)] [Siz P E sz] : QR P h f ⟨dst, .slice T x none (some y) none, ty, pos, after, guard⟩ (.v (partV s 0 k sz)) := fun X ρ w he => by
  obtain ⟨a, cap, es, hcap, _⟩ := row_list he.heap hr.h
  obtain ⟨e1, e2⟩ := und_elem (P := P) (T := T) (E := E)
  have hv := (he.rel x _ hx).v_eq
  refine ⟨partV s 0 k sz, run_v _ ?_, .v _⟩
  simp only [Option.map_none, Option.map_some]
  rw [run_sliceAt_slice w T _ _ _ _ e2, hv, (he.rel y _ hy).v_eq, es, run_slice_h w T a _ cap e2 .i64 k (by omega) (by omega), e1]
  simp only [run_sizeOf (n := sz), Result.andThen_ok, Int.toNat_natCast]
  rfl
theorem qr_len_part {T E : TypeId} {tys : List TypeId} {s : Value} {sz i lo hi : Nat} {E' : TypeId} {rows : List (List AV)} (hx : f x = some (.v (partV s lo hi sz))) [hr : HasRow h s i sz E' rows] [Und P T (.slice E)] :
    QR P h f ⟨dst, .call ⟨.builtin .len, [x].toArray, (T :: tys).toArray⟩, ty, pos, after, guard⟩ (.v (.int .i64 (hi - lo : Nat))) := fun X ρ w he => by
  obtain ⟨a, cap, es, _⟩ := row_list he.heap hr.h
  have hv := (he.rel x _ hx).v_eq
  refine ⟨_, ?_, .v _⟩
  simp only [execOp, resolve, List.map_toArray, List.map_cons, List.map_nil, hv, es, partV, sliced, Sem.run_bind, Sem.run_pure, Result.andThen_ok, invoke, builtin, Builtin.len_, List.getElem?_toArray, List.getElem?_cons_zero, run_underlying (d := TypeDesc.slice E)]
  rfl
theorem qr_index_part {T E : TypeId} {s : Value} {sz i k lo hi : Nat} {E' : TypeId} {rows : List (List AV)} (hx : f x = some (.v (partV s lo hi sz))) (hy : f y = some (.v (.int .i64 k))) [hr : HasRow h s i sz E' rows] [Und P T (.slice E)] [Siz P E sz] (hk : k < hi - lo) (hh : hi ≤ rows.length) :
    QR P h f ⟨dst, .indexAddr T x y, ty, pos, after, guard⟩ (.rp s sz (lo + k) 0) := fun X ρ w he => by
  obtain ⟨b, off, cap, c, es, h1, h2, h3, h4, h5⟩ := row_parts he.heap hr.h (by intro e; rw [e] at hh; simp at hh; omega)
  have e : partV s lo hi sz = .slice (some ⟨b, off + lo * sz, none⟩) (hi - lo) (cap - lo) := by
    rw [es]; simp only [partV, sliced]; rw [if_neg (by omega)]; simp only [Option.map_some, add_none]
  have hmm : (lo + k) * sz = lo * sz + k * sz := Nat.add_mul ..
  refine ⟨.pointer (some ⟨b, off + ((lo + k) * sz + 0), none⟩), run_v _ ?_, ?_⟩
  · rw [(he.rel x _ hx).v_eq, (he.rel y _ hy).v_eq, e]
    simp only [Instr.indexAt, asIntOf, Sem.run_bind, Sem.run_pure, Result.andThen_ok, run_underlying (d := TypeDesc.slice E)]
    rw [if_pos (by omega)]
    simp only [Sem.run_bind, run_sizeOf (n := sz), Result.andThen_ok, Sem.run_pure, add_none, Int.toNat_natCast, Nat.add_zero, hmm, Nat.add_assoc]
  · rw [es]
    have := Rel.rp (w := w) (O := OO h X) ⟨b, off, none⟩ rows.length cap sz (lo + k) 0
    rw [add_none] at this; exact this
end
section
variable {P : Program} {ro : Option Nat} {nt : Nat} {dst : Option Tmp} {ty : TypeId} {pos : String} {after : Array Edge} {guard : Option (Nat × Bool)} {x y : Operand}
/-- copy into a part of a row of one's own. -/
theorem oe_copy_core {T T2 E sz i d hi : Nat} {s : Value} {rows ys : List (List AV)} {t : Fr} {h h' : List Res} {ds : List Nat} {dt : Tmp} {next : St → Prop} (hx : ev t x = some (.v (partV s d hi sz))) [hrow : HasRow h s i sz E rows]
    [Und P T (.slice E)] [Siz P E sz] (hdh : d ≤ hi) (hhi : hi ≤ rows.length)
    (hsrc : ∀ X a w, Sim X nt ⟨t, h, ds⟩ a w → ∃ c2 m, (∀ w' : World, w'.heap = w.heap → (Builtin.lenOf (a.eval y)).run P w' = .ok m w') ∧ Nat.min m (hi - d) = ys.length ∧ (∀ w' : World, w'.heap = w.heap → (Builtin.firstCells sz ys.length (a.eval y)).run P w' = .ok c2 w') ∧ c2.size = ys.length * sz ∧
      (∀ i (hi : i < ys.length) j (hj : j < ys[i].length), ∃ u, c2[i * sz + j]? = some u ∧ Rel w (OO h X) ys[i][j] u) ∧ ∀ i (hi : i < ys.length), ys[i].length = sz)
    (hd : dok nt (some dt) = true) [hset : SetAt h i (.row s sz E (rows.take d ++ (ys ++ rows.drop (d + ys.length)))) h'] (hk : next ⟨(dt, .v (.int .i64 ys.length)) :: t, h', ds⟩) (hone : ∀ r ∈ ys, r.all AV.one = true) :
    OE P ro nt ⟨some dt, .call ⟨.builtin .copy, [x, y].toArray, [T, T2].toArray⟩, ty, pos, after, guard⟩ ⟨t, h, ds⟩ next := by
  intro X a w K Q hs hK
  have ex := (hs.env.rel x _ hx).v_eq
  have hx0 := hs.heap.holds _ (List.mem_of_getElem? hrow.h)
  obtain ⟨ax, cap, es, hcap, hsz, _⟩ := row_list hs.heap hrow.h
  obtain ⟨c2, m, l2, hmin, e2, s2, g2, hlx2⟩ := hsrc X a w hs
  have hcnt : d + ys.length ≤ hi := by have : ys.length ≤ hi - d := hmin ▸ Nat.min_le_right m (hi - d); omega
  have hrun : (execOp a.eval ⟨some dt, .call ⟨.builtin .copy, [x, y].toArray, [T, T2].toArray⟩, ty, pos, after, guard⟩).run P w = ((Builtin.copy_ [T, T2].toArray ty [partV s d hi sz, a.eval y].toArray).run P w).andThen fun v w => .ok (.value v) w := by
    simp only [execOp, resolve, List.map_toArray, List.map_cons, List.map_nil, Sem.run_bind, Sem.run_pure, Result.andThen_ok, invoke, builtin, ex]
  refine ⟨about_true, ?_⟩
  rw [semAt_nd rfl, hrun]
  have hsub : ∀ q c, (Builtin.copy_ [T, T2].toArray ty [.slice q (hi - d) c, a.eval y].toArray).run P w = (((match q with | some a => storeCells a c2.toList | none => pure ()) : Sem Unit).run P w).andThen fun _ w => .ok (goInt ys.length) w := by
    intro q c
    simp only [Builtin.copy_, List.getElem?_toArray, List.getElem?_cons_zero, List.getElem?_cons_succ, Sem.run_bind, run_underlying (d := TypeDesc.slice E), run_sizeOf (n := sz), Result.andThen_ok, Sem.run_pure, l2 w rfl, hmin, e2 w rfl]
    cases q with
    | none => rfl
    | some a2 => simp only [Sem.run_bind, Sem.run_pure]
  by_cases h0 : ys.length = 0
  · obtain rfl : ys = [] := List.eq_nil_of_length_eq_zero h0
    have hc0 : c2 = #[] := by simpa using s2
    have he : h' = h := by
      rw [← hset.h]
      obtain ⟨hlt, e⟩ := List.getElem?_eq_some_iff.1 hrow.h
      rw [List.nil_append, List.length_nil, Nat.add_zero, List.take_append_drop, ← e, List.set_getElem_self]
    rw [es]
    simp only [partV, sliced]
    rw [hsub, hc0]
    have : ∀ q : Option Addr, (((match q with | some a => storeCells a (#[] : Array Value).toList | none => pure ()) : Sem Unit).run P w) = .ok () w := fun q => by cases q <;> rfl
    rw [this]
    simp only [Result.andThen_ok, Oper.uponIn]
    refine hK _ _ _ hk ?_ (by rw [he]; exact .refl _ _)
    have hsim : Sim X nt ⟨t, h', ds⟩ a w := by rw [he]; exact hs
    exact hsim.put (av := .v _) hd (.v _)
  · cases ax with
    | none =>
      rw [es] at hx0
      obtain ⟨q0, _⟩ := hx0
      rw [q0] at hhi
      simp only [List.length_nil] at hhi
      omega
    | some addr =>
    rw [es] at hx0
    obtain ⟨m1, _, m3, m4, c0, m5, m6, m7⟩ := hx0
    obtain ⟨b, off, spot⟩ := addr
    simp only at m1 m5 m6 m7
    subst m1
    have ep : partV s d hi sz = .slice (some ⟨b, off + d * sz, none⟩) (hi - d) (cap - d) := by
      rw [es]; simp only [partV, sliced]; rw [if_neg (by omega)]; simp only [Option.map_some, add_none]
    have hcs : ∀ v ∈ c2.toList, v.oneCell' = true := by
      intro v hv
      obtain ⟨k, hk1, hk2⟩ := List.mem_iff_getElem.1 hv
      have hk3 : k < ys.length * sz := by rw [← s2]; simpa using hk1
      have hsz0 : 0 < sz := by
        rcases Nat.eq_zero_or_pos sz with h | h
        · subst h; simp at hk3
        · exact h
      have hi : k / sz < ys.length := (Nat.div_lt_iff_lt_mul hsz0).2 hk3
      have hj : k % sz < ys[k / sz].length := by rw [hlx2 _ hi]; exact Nat.mod_lt _ hsz0
      obtain ⟨u, e, r⟩ := g2 _ hi _ hj
      have ek : k / sz * sz + k % sz = k := by have := Nat.div_add_mod k sz; rw [Nat.mul_comm] at this; exact this
      rw [ek] at e
      have : u = v := by
        have h2 : c2[k]? = some v := by rw [← hk2]; simp [show k < c2.size by rw [s2]; exact hk3]
        exact Option.some.inj (e.symm.trans h2)
      subst this
      exact r.one (List.all_eq_true.1 (hone _ (List.getElem_mem hi)) _ (List.getElem_mem hj))
    have hmul : (d + ys.length) * sz ≤ cap * sz := Nat.mul_le_mul_right _ (by omega)
    rw [Nat.add_mul] at hmul
    obtain ⟨w', f1, f2, f3, c', f4, f5, f6, ev⟩ := run_storeCells (P := P) c2.toList (off + d * sz) 0 w c0 hcs m5 (by simp [s2]; omega)
    rw [ep, hsub]
    simp only
    rw [f1]
    simp only [Result.andThen_ok, Oper.uponIn]
    have hbown : b ∈ (Res.row s sz E rows).own := by rw [es]; simp [Res.own]
    have hkk : ∀ b', ¬ OO h X b' → b' < w.heap.size → w'.heap[b']? = w.heap[b']? ∧ ¬ OO h X b' := fun b' hb' _ => ⟨f3 b' (fun he => hb' (.inl (mem_owns.2 ⟨_, List.mem_of_getElem? hrow.h, he ▸ hbown⟩))), hb'⟩
    have hoth : ∀ b', b' < w.heap.size → b' ∉ (Res.row s sz E rows).own → w'.heap[b']? = w.heap[b']? := fun b' _ hne => f3 b' fun he => hne (he ▸ hbown)
    have hown : (Res.row s sz E (rows.take d ++ (ys ++ rows.drop (d + ys.length)))).own = (Res.row s sz E rows).own := by rw [es]; rfl
    have hlen : (rows.take d ++ (ys ++ rows.drop (d + ys.length))).length = rows.length := by simp; omega
    have hlow : ∀ k (hk : k < (rows.take d ++ (ys ++ rows.drop (d + ys.length))).length) (h : k < d ∨ d + ys.length ≤ k), (rows.take d ++ (ys ++ rows.drop (d + ys.length)))[k] = rows[k]'(by omega) := fun k hk h => by
      rcases h with h | h
      · rw [List.getElem_append_left (by simp; omega)]; simp
      · rw [List.getElem_append_right (by simp; omega), List.getElem_append_right (by simp; omega), List.getElem_drop]; congr 1; simp; omega
    have hmid : ∀ k (hk : k < (rows.take d ++ (ys ++ rows.drop (d + ys.length))).length) (h1 : d ≤ k) (h2 : k < d + ys.length), (rows.take d ++ (ys ++ rows.drop (d + ys.length)))[k] = ys[k - d]'(by omega) := fun k hk h1 h2 => by
      rw [List.getElem_append_right (by simp; omega), List.getElem_append_left (by simp; omega)]; congr 1; simp; omega
    have hholds : (Res.row s sz E (rows.take d ++ (ys ++ rows.drop (d + ys.length)))).holds w' (OO h X) := by
      rw [es]
      refine ⟨rfl, hlen.symm, hcap, fun k hk => ?_, c', f4, by rw [f5]; exact m6, fun k hk j hj => ?_⟩
      · by_cases h : d ≤ k ∧ k < d + ys.length
        · rw [hmid k hk h.1 h.2]; exact hlx2 _ (by omega)
        · rw [hlow k hk (by omega)]; exact hsz _ (by omega)
      · have hk' : k < rows.length := by rw [← hlen]; exact hk
        by_cases h : d ≤ k ∧ k < d + ys.length
        · simp only [hmid k hk h.1 h.2] at hj ⊢
          obtain ⟨u, e, r⟩ := g2 (k - d) (by omega) j hj
          have hj' : j < sz := by rw [← hlx2 (k - d) (by omega)]; exact hj
          have q1 : (k - d + 1) * sz ≤ ys.length * sz := Nat.mul_le_mul_right _ (by omega)
          rw [Nat.add_mul] at q1
          have q2 : k * sz = d * sz + (k - d) * sz := by rw [← Nat.add_mul]; congr 1; omega
          refine ⟨u, ?_, r.keep (by omega) hkk⟩
          show c'[off + k * sz + j]? = some u
          rw [f6, if_pos (by simp; omega), show off + k * sz + j - (off + d * sz + 0) = (k - d) * sz + j by omega]
          simpa using e
        · simp only [hlow k hk (by omega)] at hj ⊢
          obtain ⟨u, e, r⟩ := m7 k hk' j hj
          have hj' : j < sz := by rw [← hsz k hk']; exact hj
          refine ⟨u, ?_, r.keep (by omega) hkk⟩
          show c'[off + k * sz + j]? = some u
          rw [f6, if_neg ?_]
          · exact e
          · simp only [Array.length_toList, s2]
            rcases Nat.lt_or_ge k d with q | q
            · have : (k + 1) * sz ≤ d * sz := Nat.mul_le_mul_right _ q
              rw [Nat.add_mul] at this; omega
            · have : (d + ys.length) * sz ≤ k * sz := Nat.mul_le_mul_right _ (by omega)
              rw [Nat.add_mul] at this; omega
    refine hK _ _ _ hk ?_ (by rw [← hset.h]; exact Keep.set hrow.h hown (by omega) hoth ev)
    have hO : OO h' X = OO h X := by funext b'; rw [← hset.h]; simp only [OO, owns_set hrow.h hown]
    have hsim : Sim X nt ⟨t, h', ds⟩ a w' := ⟨by rw [← hset.h]; exact hs.heap.set hrow.h hown (by omega) hoth hholds, hs.size, by rw [hO]; exact hs.fr.keep (by omega) hkk, hs.defs⟩
    exact hsim.put (av := .v _) hd (.v _)
/-- Out of what is only read. -/
theorem oe_copy_pl {T T2 E sz i d hi n : Nat} {full : Bool} {s : Value} {rows zs : List (List AV)} {t : Fr} {h h' : List Res} {ds : List Nat} {dt : Tmp} {next : St → Prop} (hx : ev t x = some (.v (partV s d hi sz))) (hy : ev t y = some (.list full sz zs)) [hrow : HasRow h s i sz E rows]
    [Und P T (.slice E)] [Siz P E sz] (hdh : d ≤ hi) (hhi : hi ≤ rows.length) (hn : min zs.length (hi - d) = n)
    (hd : dok nt (some dt) = true) [hset : SetAt h i (.row s sz E (rows.take d ++ (zs.take n ++ rows.drop (d + (zs.take n).length)))) h'] (hk : next ⟨(dt, .v (.int .i64 (zs.take n).length)) :: t, h', ds⟩) (hone : ∀ r ∈ zs, r.all AV.one = true) :
    OE P ro nt ⟨some dt, .call ⟨.builtin .copy, [x, y].toArray, [T, T2].toArray⟩, ty, pos, after, guard⟩ ⟨t, h, ds⟩ next := by
  have hnl : n ≤ zs.length := by omega
  have hl : (zs.take n).length = n := by simp; omega
  refine oe_copy_core hx hdh hhi (fun X a w hs => ?_) hd hk (fun r hr => hone r (List.mem_of_mem_take hr))
  have ry := hs.env.rel y _ hy
  obtain ⟨c2, e2, s2, g2, l2⟩ := run_firstN (P := P) ry hnl
  obtain ⟨q, cap, e, _⟩ := list_slice ry
  refine ⟨c2, zs.length, fun w' _ => by rw [e]; rfl, by rw [hl]; exact hn, by rw [hl]; exact e2, by rw [hl]; exact s2, fun k hk j hj => ?_, fun k hk => ?_⟩
  · have hk' : k < n := by rw [hl] at hk; exact hk
    simp only [List.getElem_take] at hj ⊢
    exact g2 k hk' j hj
  · rw [List.getElem_take]; exact l2 k (by rw [hl] at hk; exact hk)
end
end Go.Ab
/- An array's variable as a row of one's own: x[:]; a row cut shorter. Conditions: none (rules over any program). -/
set_option linter.unusedVariables false
set_option linter.unusedSimpArgs false
namespace Go.Ab
open Go
def boxS (b n : Nat) : Value := .slice (some ⟨b, 0, none⟩) n n
theorem box_holds {w : World} {O : Nat → Prop} {b : Nat} {T : TypeId} {cells : List AV} (h : (Res.box b T cells).holds w O) : (Res.row (boxS b cells.length) 1 T (cells.map fun a => [a])).holds w O := by
  obtain ⟨c, h1, h2, h3⟩ := h
  refine ⟨rfl, by simp, Nat.le_refl _, fun i hi => by simp, c, h1, by simp only; omega, fun i hi j hj => ?_⟩
  simp only [List.getElem_map, List.length_singleton] at hj ⊢
  obtain rfl : j = 0 := by omega
  have hi' : i < cells.length := by simpa using hi
  refine ⟨c[i]'(by omega), ?_, ?_⟩
  · simp only [Nat.zero_add, Nat.mul_one, Nat.add_zero]
    exact Array.getElem?_eq_getElem (by omega)
  · exact h3 i hi' (by omega)
theorem HRel.setOwn {X : Nat → Prop} {w : World} {h : List Res} {i : Nat} {r r' : Res} (hh : HRel X w h) (hi : h[i]? = some r) (ho : r'.own = r.own) (hc : ∀ O, r.holds w O → r'.holds w O) : HRel X w (h.set i r') ∧ owns (h.set i r') = owns h := by
  have ho' : owns (h.set i r') = owns h := by
    unfold owns
    rw [List.flatMap_def, List.flatMap_def, List.map_set, ho]
    congr 1
    obtain ⟨hl, e⟩ := List.getElem?_eq_some_iff.1 hi
    refine List.ext_getElem (by simp) fun j h1 h2 => ?_
    rw [List.getElem_set]
    split
    · rename_i e2; subst e2; rw [List.getElem_map, e]
    · rfl
  have hO : OO (h.set i r') X = OO h X := by unfold OO; rw [ho']
  refine ⟨⟨by rw [ho']; exact hh.nodup, by rw [ho']; exact hh.lt, hh.xlt, fun r2 hr => ?_⟩, ho'⟩
  rw [hO]
  rcases List.mem_or_eq_of_mem_set hr with h1 | h1
  · exact hh.holds r2 h1
  · rw [h1]; exact hc _ (hh.holds _ (List.mem_of_getElem? hi))
section
variable {P : Program} {ro : Option Nat} {nt : Nat} {h : List Res} {f : Operand → Option AV} {dst : Option Tmp} {ty : TypeId} {pos : String} {after : Array Edge} {guard : Option (Nat × Bool)} {x y z : Operand}
theorem aops_same {ops : Array Oper} {l : List Oper} {Q : Exit → St → Prop} {t : Fr} {h h' : List Res} {ds : List Nat} {i : Nat} {r r' : Res} (hi : h[i]? = some r) (ho : r'.own = r.own) (hc : ∀ w O, r.holds w O → r'.holds w O) (hset : h.set i r' = h')
    (k : aops P ro nt ops l Q ⟨t, h', ds⟩) : aops P ro nt ops l Q ⟨t, h, ds⟩ := by
  refine aops_ent (s' := ⟨t, h', ds⟩) ?_ k
  refine ⟨fun b hb => ?_, fun X a w hs => ?_⟩
  · have : owns h' = owns h := by
      rw [← hset]
      unfold owns
      rw [List.flatMap_def, List.flatMap_def, List.map_set, ho]
      congr 1
      obtain ⟨hl, e⟩ := List.getElem?_eq_some_iff.1 hi
      refine List.ext_getElem (by simp) fun j h1 h2 => ?_
      rw [List.getElem_set]
      split
      · rename_i e2; subst e2; rw [List.getElem_map, e]
      · rfl
    rw [← this]; exact hb
  · obtain ⟨q1, q2⟩ := hs.heap.setOwn hi ho (hc w)
    rw [hset] at q1 q2
    refine ⟨q1, hs.size, ?_, hs.defs⟩
    have : OO h' X = OO h X := by unfold OO; rw [q2]
    show FrRel w (OO h' X) t a.tmps
    rw [this]; exact hs.fr
/-- The variable of an array, as a row. -/
theorem aops_arr {ops : Array Oper} {l : List Oper} {Q : Exit → St → Prop} {t : Fr} {h h' : List Res} {ds : List Nat} (b : Nat) {i : Nat} {T : TypeId} {cells : List AV} [hb : HasBox h b i T cells] [hset : SetAt h i (.row (boxS b cells.length) 1 T (cells.map fun a => [a])) h']
    (k : aops P ro nt ops l Q ⟨t, h', ds⟩) : aops P ro nt ops l Q ⟨t, h, ds⟩ := aops_same hb.h (by rfl) (fun _ _ q => box_holds q) hset.h k
theorem qr_slice_arr {T E : TypeId} {b n sz : Nat} (hx : f x = some (.v (.pointer (some ⟨b, 0, none⟩)))) [hu : Und P T (.array n E)] [Siz P E sz] :
    QR P h f ⟨dst, .slice T x none none none, ty, pos, after, guard⟩ (.v (boxS b n)) := fun X ρ w he => by
  refine ⟨boxS b n, run_v _ ?_, .v _⟩
  rw [(he.rel x _ hx).v_eq]
  simp only [Option.map_none, Instr.sliceAt, Sem.run_bind, run_underlying (d := TypeDesc.array n E), Result.andThen_ok, Instr.sureAddr, Sem.run_pure, Instr.sliceBounds, run_sizeOf (n := sz), Nat.sub_zero, Nat.zero_mul, add_none, Nat.add_zero, ite_self]
  rfl
/-- A row cut shorter: its room stays. -/
theorem part_0 (a : Addr) (n c k sz : Nat) : partV (.slice (some a) n c) 0 k sz = .slice (some a) k c := by
  unfold partV
  simp only [sliced]
  rw [cut_add]; simp
theorem short_own (s : Value) (k sz : Nat) (T : TypeId) (rows : List (List AV)) : (Res.row (partV s 0 k sz) sz T (rows.take k)).own = (Res.row s sz T rows).own := by
  cases s with
  | slice a n c =>
    cases a with
    | none => unfold partV; simp [sliced, Res.own]
    | some a => rw [part_0]; rfl
  | _ => rfl
theorem short_holds {w : World} {O : Nat → Prop} {s : Value} {k sz : Nat} {T : TypeId} {rows : List (List AV)} (hk : k ≤ rows.length) (h : (Res.row s sz T rows).holds w O) : (Res.row (partV s 0 k sz) sz T (rows.take k)).holds w O := by
  cases s with
  | slice a n c =>
    cases a with
    | none =>
      obtain ⟨rfl, rfl, rfl⟩ := h
      obtain rfl : k = 0 := by simpa using hk
      unfold partV; simp [sliced, Res.holds]
    | some a =>
      obtain ⟨h1, h2, h3, h4, cc, h5, h6, h7⟩ := h
      rw [part_0]
      refine ⟨h1, by simp; omega, by omega, fun i hi => by rw [List.getElem_take]; exact h4 i (by simp at hi; omega), cc, h5, h6, fun i hi j hj => ?_⟩
      simp only [List.getElem_take] at hj ⊢
      exact h7 i (by simp at hi; omega) j hj
  | _ => exact h
theorem aops_short {ops : Array Oper} {l : List Oper} {Q : Exit → St → Prop} {t : Fr} {h h' : List Res} {ds : List Nat} (s : Value) (k : Nat) {i sz : Nat} {T : TypeId} {rows : List (List AV)} [hr : HasRow h s i sz T rows] (hk : k ≤ rows.length) [hset : SetAt h i (.row (partV s 0 k sz) sz T (rows.take k)) h']
    (g : aops P ro nt ops l Q ⟨t, h', ds⟩) : aops P ro nt ops l Q ⟨t, h, ds⟩ := aops_same hr.h (short_own s k sz T rows) (fun _ _ q => short_holds hk q) hset.h g
end
end Go.Ab
/- copy into a whole row of one's own, as much as there is room for. Conditions: none (rules over any program). -/
set_option linter.unusedVariables false
set_option linter.unusedSimpArgs false
namespace Go.Ab
open Go
theorem part_all (a : Option Addr) (n c sz : Nat) : partV (.slice a n c) 0 n sz = .slice a n c := by
  cases a with
  | none => simp [partV, sliced]
  | some a => exact part_0 a n c n sz
section
variable {P : Program} {ro : Option Nat} {nt : Nat} {ty : TypeId} {pos : String} {after : Array Edge} {guard : Option (Nat × Bool)} {x y : Operand}
theorem oe_copy_ln {T T2 E sz i : Nat} (n : Nat) {full : Bool} {s : Value} {rows zs : List (List AV)} {t : Fr} {h h' : List Res} {ds : List Nat} {dt : Tmp} {next : St → Prop} (hx : ev t x = some (.v s)) (hy : ev t y = some (.list full sz zs)) [hrow : HasRow h s i sz E rows]
    [Und P T (.slice E)] [Siz P E sz] (hn : min zs.length rows.length = n)
    (hd : dok nt (some dt) = true) [hset : SetAt h i (.row s sz E (zs.take n ++ rows.drop n)) h'] (hk : next ⟨(dt, .v (.int .i64 n)) :: t, h', ds⟩) (hone : ∀ r ∈ zs, r.all AV.one = true) :
    OE P ro nt ⟨some dt, .call ⟨.builtin .copy, [x, y].toArray, [T, T2].toArray⟩, ty, pos, after, guard⟩ ⟨t, h, ds⟩ next := by
  intro X a w K Q hs hK
  obtain ⟨ax, cap, es, _⟩ := row_list hs.heap hrow.h
  have hp : partV s 0 rows.length sz = s := by rw [es]; exact part_all _ _ _ _
  have hl : (zs.take n).length = n := by simp; omega
  have hset' : SetAt h i (.row s sz E (rows.take 0 ++ (zs.take n ++ rows.drop (0 + (zs.take n).length)))) h' := by
    rw [hl, List.take_zero, List.nil_append, Nat.zero_add]; exact hset
  exact oe_copy_pl (P := P) (ro := ro) (nt := nt) (T := T) (T2 := T2) (E := E) (sz := sz) (i := i) (d := 0) (hi := rows.length) (n := n) (full := full) (s := s) (rows := rows) (zs := zs) (h' := h') (next := next) (by rw [hp]; exact hx) hy (Nat.zero_le _) (Nat.le_refl _) (by rw [Nat.sub_zero]; exact hn) hd (hset := hset') (by rw [hl]; exact hk) hone X a w K Q hs hK
end
end Go.Ab
/- Rows made with room to spare; append of zeros onto nil; slices with three bounds; clear. Conditions: none (rules over any program). -/
set_option linter.unusedVariables false
set_option linter.unusedSimpArgs false
namespace Go.Ab
open Go
theorem zero_at {zv : Array Value} {n i j sz : Nat} (hs : zv.size = sz) (hi : i < n) (hj : j < zv.size) : (Builtin.zeroCells zv n)[i * sz + j]? = some zv[j] := by
  subst hs
  have h1 : (i + 1) * zv.size ≤ n * zv.size := Nat.mul_le_mul_right _ hi
  rw [Nat.add_mul] at h1
  have hlt : i * zv.size + j < n * zv.size := by omega
  have hm : (i * zv.size + j) % zv.size = j := by rw [Nat.mul_comm, Nat.mul_add_mod, Nat.mod_eq_of_lt hj]
  simp [Builtin.zeroCells, hlt, hm, hj]
section
variable {P : Program} {ro : Option Nat} {nt : Nat} {h : List Res} {f : Operand → Option AV} {dst : Option Tmp} {ty : TypeId} {pos : String} {after : Array Edge} {guard : Option (Nat × Bool)} {x y z u : Operand} {t : Fr} {ds : List Nat} {next : St → Prop}
/-- A row made with room to spare. -/
theorem oe_makeG {d : Tmp} {T E bytes sz : Nat} {n c : Nat} {zv : Value} [hu : Und P T (.slice E)] [hz : ZerV P E zv] [Siz P E sz] [hby : Byt P E bytes] (hx : ev t x = some (.v (.int .i64 n))) (hy : ev t y = some (.v (.int .i64 c))) (hlt : dok nt (some d) = true)
    (hnc : n ≤ c) (hn : c ≤ 1099511627776) (hb : bytes ≤ 128 := by decide) (hzs : zv.cells.size = sz := by rfl) (hk : ∀ b, next ⟨(d, .v (.slice (some ⟨b, 0, none⟩) n c)) :: t, .row (.slice (some ⟨b, 0, none⟩) n c) sz E (List.replicate n (zv.cells.toList.map AV.v)) :: h, ds⟩) :
    OE P ro nt ⟨some d, .makeSlice T x y, ty, pos, after, guard⟩ ⟨t, h, ds⟩ next := by
  intro X a w K Q hs hK
  refine ⟨about_true, ?_⟩
  have hbi := hby.h
  cases hi : P.info? E with
  | none => simp [hi] at hbi
  | some inf =>
    simp [hi] at hbi
    have hwn : IntKind.i64.wrap (n : Int) = n := IntWalk.i64_in _ ⟨by omega, by omega⟩
    have hwc : IntKind.i64.wrap (c : Int) = c := IntWalk.i64_in _ ⟨by omega, by omega⟩
    let cells : Array Value := if c * sz = 0 then (#[] : Array Value) else Builtin.zeroCells zv.cells c
    have hmul : inf.bytes * c ≤ 128 * 1099511627776 := Nat.mul_le_mul (by omega) hn
    have hl2 : ¬ ((inf.bytes : Int) * (c : Int) > 2 ^ 48) := by
      rw [← Int.natCast_mul]
      generalize inf.bytes * c = m at hmul ⊢
      omega
    have hsize : cells.size = c * sz := by
      simp only [cells]; split
      · rename_i h0; rw [h0]; rfl
      · simp [Builtin.zeroCells, hzs]
    have e : (execOp a.eval (⟨some d, .makeSlice T x y, ty, pos, after, guard⟩ : Oper)).run P w = .ok (.value (.slice (some ⟨w.heap.size, 0, none⟩) n c)) { w with heap := w.heap.push (.cells cells E (0, 0)) } := by
      refine run_v _ ?_
      rw [(hs.env.rel x _ hx).v_eq, (hs.env.rel y _ hy).v_eq]
      have hai : ∀ (m : Nat) (w : World), (asInt (.int .i64 (m : Int))).run P w = .ok (m : Int) w := fun m w => rfl
      simp only [Instr.makeSlice, Sem.run_bind, run_underlying (h := hu), hai, Result.andThen_ok, run_typeInfo hi, hwn, hwc]
      rw [if_neg (by simp only [Bool.or_eq_true, decide_eq_true_eq, not_or]; exact ⟨⟨⟨by omega, hl2⟩, by omega⟩, by omega⟩)]
      simp only [Sem.run_bind, run_askRoom, Result.andThen_ok, run_sizeOf (n := sz), Int.toNat_natCast]
      by_cases h0 : c * sz = 0
      · have hr0 : Array.range 0 = #[] := by simp
        simp [h0, newRow, hr0, cells]
      · simp [h0, newRow, run_zeroValue hz.h, cells, Builtin.zeroCells, hzs]
    rw [semAt_nd rfl, e]
    have hx2 : Res.holds { w with heap := w.heap.push (.cells cells E (0, 0)) } (OO (.row (.slice (some ⟨w.heap.size, 0, none⟩) n c) sz E (List.replicate n (zv.cells.toList.map AV.v)) :: h) X) (.row (.slice (some ⟨w.heap.size, 0, none⟩) n c) sz E (List.replicate n (zv.cells.toList.map AV.v))) := by
      refine ⟨rfl, by simp, hnc, fun i hi => by simp [hzs], cells, by simp, by simp [hsize], fun i hi j hj => ?_⟩
      have hi' : i < n := by simpa using hi
      have hj' : j < sz := by simpa [hzs] using hj
      have h0 : ¬ c * sz = 0 := fun h0 => by rcases Nat.mul_eq_zero.1 h0 with h | h <;> omega
      have hz2 := zero_at (zv := zv.cells) (n := c) (i := i) (j := j) hzs (by omega) (by omega)
      refine ⟨zv.cells[j]'(by omega), ?_, ?_⟩
      · simp only [cells, h0, if_false, Nat.zero_add]; exact hz2
      · simp only [List.getElem_replicate, List.getElem_map, Array.getElem_toList]; exact .v _
    have hk2 : Keep (owns h) w (owns (.row (.slice (some ⟨w.heap.size, 0, none⟩) n c) sz E (List.replicate n (zv.cells.toList.map AV.v)) :: h)) { w with heap := w.heap.push (.cells cells E (0, 0)) } := Keep.alloc (h := h) (.cells cells E (0, 0)) (.row (.slice (some ⟨w.heap.size, 0, none⟩) n c) sz E (List.replicate n (zv.cells.toList.map AV.v))) rfl
    have hh2 := hs.heap.alloc (.cells cells E (0, 0)) (.row (.slice (some ⟨w.heap.size, 0, none⟩) n c) sz E (List.replicate n (zv.cells.toList.map AV.v))) rfl hx2
    exact hK _ _ _ (hk w.heap.size) (Sim.put (s := ⟨t, .row (.slice (some ⟨w.heap.size, 0, none⟩) n c) sz E (List.replicate n (zv.cells.toList.map AV.v)) :: h, ds⟩) ⟨hh2, hs.size, hs.fr.keep hk2.size (fun b hb hl => hk2.oo b hb hl), hs.defs⟩ hlt (.v _)) hk2
/-- The room of a nil slice. -/
theorem qr_cap_nil {T E : TypeId} (hx : f x = some (.v (.slice none 0 0))) [hu : Und P T (.slice E)] : QR P h f ⟨dst, .call ⟨.builtin .cap, [x].toArray, [T].toArray⟩, ty, pos, after, guard⟩ (.v (.int .i64 0)) := fun X ρ w he => by
  refine ⟨_, ?_, .v _⟩
  have hv := (he.rel x _ hx).v_eq
  simp only [execOp, resolve, List.map_toArray, List.map_cons, List.map_nil, Sem.run_bind, Sem.run_pure, Result.andThen_ok, invoke, builtin, Builtin.cap_, List.getElem?_toArray, List.getElem?_cons_zero, run_underlying (d := TypeDesc.slice E), hv]
  rfl
/-- A nil slice, none of it. -/
theorem qr_slice_nil {T E : TypeId} {sz : Nat} (hx : f x = some (.v (.slice none 0 0))) (hy : f y = some (.v (.int .i64 0))) [hu : Und P T (.slice E)] [Siz P E sz] : QR P h f ⟨dst, .slice T x none (some y) none, ty, pos, after, guard⟩ (.v (.slice none 0 0)) := fun X ρ w he => by
  obtain ⟨e1, e2⟩ := und_elem (P := P) (T := T) (E := E)
  refine ⟨.slice none 0 0, run_v _ ?_, .v _⟩
  simp only [Option.map_none, Option.map_some]
  rw [run_sliceAt_slice w T _ _ _ _ e2, (he.rel x _ hx).v_eq, (he.rel y _ hy).v_eq, run_slice_h w T none 0 0 e2 .i64 0 (by omega) (by omega), e1]
  simp only [run_sizeOf (n := sz), Result.andThen_ok, Int.toNat_natCast]
  rfl
/-- So many zeros behind a nil slice that is a row of ours. -/
theorem oe_append_zeros {T T2 E bytes sz i n : Nat} {zv : Value} {h' : Value → List Res} {d : Tmp} (hx : ev t x = some (.v (.slice none 0 0))) (hy : ev t y = some (.v (.int .i64 n))) [hrow : HasRow h (.slice none 0 0) i sz E []]
    [Und P T (.slice E)] [Und P T2 (.int .i64)] [Siz P E sz] [hby : Byt P E bytes] [hz : ZerV P E zv] (hn0 : 0 < n) (hn : n ≤ 549755813888) (hd : dok nt (some d) = true) [hset : ∀ s', SetAt h i (.row s' sz E (List.replicate n (zv.cells.toList.map AV.v))) (h' s')]
    (hk : ∀ s', next ⟨(d, .v s') :: t, h' s', ds⟩) (hb : bytes ≤ 128 := by decide) (hzs : zv.cells.size = sz := by rfl) :
    OE P ro nt ⟨some d, .call ⟨.builtin .append, [x, y].toArray, [T, T2].toArray⟩, ty, pos, after, guard⟩ ⟨t, h, ds⟩ next := by
  intro X a w K Q hs hK
  have ex := (hs.env.rel x _ hx).v_eq
  have ey := (hs.env.rel y _ hy).v_eq
  have hbi := hby.h
  cases hi : P.info? E with
  | none => simp [hi] at hbi
  | some inf =>
    simp [hi] at hbi
    have hwn : IntKind.i64.wrap (n : Int) = n := IntWalk.i64_in _ ⟨by omega, by omega⟩
    have hmul : n * inf.bytes ≤ 549755813888 * 128 := Nat.mul_le_mul hn (by omega)
    have hl2 : ¬ ((n : Int) * (inf.bytes : Int) > 2 ^ 48) := by
      rw [← Int.natCast_mul]
      generalize n * inf.bytes = m at hmul ⊢
      omega
    have hnext : ¬ (Builtin.nextslicecap (0 + n) 0 * inf.bytes > 2 ^ 48) := by
      have h1 := nextslicecap_le (need := 0 + n) (old := 0) (by omega)
      have h2 : Builtin.nextslicecap (0 + n) 0 * inf.bytes ≤ (2 * (0 + n)) * inf.bytes := Nat.mul_le_mul_right _ h1
      simp only [Nat.zero_add] at h2 ⊢
      rw [Nat.mul_assoc] at h2
      generalize n * inf.bytes = m at hmul h2
      omega
    obtain ⟨q, hq⟩ : ∃ q, q = Question.cut (.appendCap (0 + n) 0 E) (w.tape w.drawn (.appendCap (0 + n) 0 E)) := ⟨_, rfl⟩
    have hcut : n ≤ q := by rw [hq]; simp only [Question.cut]; omega
    let c2 : Array Value := if n * sz = 0 then #[] else Builtin.zeroCells zv.cells n
    have s2 : c2.size = n * sz := by
      simp only [c2]; split
      · rename_i h0; rw [h0]; rfl
      · simp [Builtin.zeroCells, hzs]
    let rest : Array Value := Builtin.zeroCells zv.cells (q - n)
    have hsub : (Builtin.append_ [T, T2].toArray ty [.slice none 0 0, .int .i64 (n : Int)].toArray).run P w = .ok (.slice (some ⟨w.heap.size, 0, none⟩) n q) { w with heap := w.heap.push (.cells (c2 ++ rest) E (0, 0)), drawn := w.drawn + 1 } := by
      have hai : ∀ (w : World), (asInt (.int .i64 (n : Int))).run P w = .ok (n : Int) w := fun w => rfl
      simp only [Builtin.append_, List.getElem?_toArray, List.getElem?_cons_zero, List.getElem?_cons_succ, Sem.run_bind, run_underlying (d := TypeDesc.slice E), run_underlying (d := TypeDesc.int .i64), run_sizeOf (n := sz), Result.andThen_ok, Sem.run_pure, if_true, hai, hwn]
      rw [if_neg (by omega)]
      simp only [Sem.run_bind, run_typeInfo hi, Result.andThen_ok]
      rw [if_neg hl2]
      simp only [Sem.run_bind, Sem.run_pure, Result.andThen_ok, Int.toNat_natCast]
      rw [if_neg (by omega)]
      simp only [Sem.run_bind, run_typeInfo hi, Result.andThen_ok]
      rw [if_neg (by simp [IntKind.max_i64]; omega)]
      simp only [Sem.run_bind, run_typeInfo hi, Result.andThen_ok]
      rw [if_neg hnext]
      simp only [Sem.run_bind, run_choose, Question.forced, Bool.false_eq_true, if_false, Result.andThen_ok, run_askRoom, run_typeInfo hi, ← hq]
      simp only [Builtin.firstCells, Sem.run_pure, Result.andThen_ok, Bool.not_true, Bool.false_eq_true, if_false]
      by_cases h0 : n * sz = 0
      · simp [h0, newRow, run_newObj, run_zeroValue hz.h, c2, rest]; rfl
      · simp [h0, newRow, run_newObj, run_zeroValue hz.h, c2, rest]; rfl
    have hrun : (execOp a.eval ⟨some d, .call ⟨.builtin .append, [x, y].toArray, [T, T2].toArray⟩, ty, pos, after, guard⟩).run P w = ((Builtin.append_ [T, T2].toArray ty [.slice none 0 0, .int .i64 (n : Int)].toArray).run P w).andThen fun v w => .ok (.value v) w := by
      simp only [execOp, resolve, List.map_toArray, List.map_cons, List.map_nil, Sem.run_bind, Sem.run_pure, Result.andThen_ok, invoke, builtin, ex, ey]
    refine ⟨about_true, ?_⟩
    rw [semAt_nd rfl, hrun, hsub]
    simp only [Result.andThen_ok, Oper.uponIn]
    have hy' := HRel.renew (o := .cells (c2 ++ rest) E (0, 0)) (dr := w.drawn + 1) (y := .row (.slice (some ⟨w.heap.size, 0, none⟩) n q) sz E (List.replicate n (zv.cells.toList.map AV.v))) hs.heap hrow.h rfl (fun hkk => by
      refine ⟨rfl, by simp, hcut, fun i hi => by simp [hzs], c2 ++ rest, by simp, ?_, fun i hi j hj => ?_⟩
      · simp only [Array.size_append, s2, rest, Builtin.zeroCells, Array.size_map, Array.size_range, hzs, Nat.zero_add]
        rw [← Nat.add_mul]; exact Nat.mul_le_mul_right _ (by omega)
      · have hi' : i < n := by simpa using hi
        have hj' : j < sz := by simpa [hzs] using hj
        have h0 : ¬ n * sz = 0 := fun h0 => by rcases Nat.mul_eq_zero.1 h0 with h | h <;> omega
        have hz2 := zero_at (zv := zv.cells) (n := n) (i := i) (j := j) hzs hi' (by omega)
        have hlt : i * sz + j < c2.size := by
          rw [s2]
          have : (i + 1) * sz ≤ n * sz := Nat.mul_le_mul_right _ hi'
          rw [Nat.add_mul] at this; omega
        refine ⟨zv.cells[j]'(by omega), ?_, ?_⟩
        · rw [Nat.zero_add, Array.getElem?_append_left hlt]
          simp only [c2, h0, if_false]; exact hz2
        · simp only [List.getElem_replicate, List.getElem_map, Array.getElem_toList]; exact .v _)
    obtain ⟨q1, q2, q3⟩ := hy'
    have hh' := (hset (.slice (some ⟨w.heap.size, 0, none⟩) n q)).h
    refine hK _ _ _ (hk (.slice (some ⟨w.heap.size, 0, none⟩) n q)) ?_ (by rw [← hh']; exact q2)
    have hsim : Sim X nt ⟨t, h' (.slice (some ⟨w.heap.size, 0, none⟩) n q), ds⟩ a _ := ⟨by rw [← hh']; exact q1, hs.size, by rw [← hh']; exact hs.fr.keep (by simp) q3, hs.defs⟩
    exact hsim.put (av := .v _) hd (.v _)
theorem qr_slice_lhm {T E : TypeId} {full : Bool} {sz l k : Nat} {rows : List (List AV)} (hx : f x = some (.list full sz rows)) (hy : f y = some (.v (.int .i64 l))) (hz : f z = some (.v (.int .i64 k))) (hu : f u = some (.v (.int .i64 k)))
    (hl : l ≤ k) (hk : k ≤ rows.length) [Und P T (.slice E)] [Siz P E sz] : QR P h f ⟨dst, .slice T x (some y) (some z) (some u), ty, pos, after, guard⟩ (.list true sz ((rows.take k).drop l)) := fun X ρ w he => by
  have hr := he.rel x _ hx
  obtain ⟨a, cap, e, hc⟩ := list_slice hr
  obtain ⟨e1, e2⟩ := und_elem (P := P) (T := T) (E := E)
  refine ⟨sliced a l k k sz, run_v _ ?_, ?_⟩
  · simp only [Option.map_some]
    rw [run_sliceAt_slice w T _ _ _ _ e2, e, (he.rel y _ hy).v_eq, (he.rel z _ hz).v_eq, (he.rel u _ hu).v_eq, run_slice_lhm w T a _ cap e2 .i64 .i64 .i64 l k k (by omega) (by omega) (by omega) (by omega), e1]
    simp only [run_sizeOf (n := sz), Result.andThen_ok, Int.toNat_natCast]
  · rw [e] at hr
    exact rel_sliced hr hl hk (Nat.le_refl _) (by omega) (fun _ => rfl)
/-- clear, of the end of a row of ours. -/
theorem oe_clear_part {T E bytes sz i d : Nat} {zv : Value} {s : Value} {rows : List (List AV)} {t : Fr} {h h' : List Res} {ds : List Nat} {next : St → Prop} (hx : ev t x = some (.v (partV s d rows.length sz))) [hrow : HasRow h s i sz E rows]
    [Und P T (.slice E)] [Siz P E sz] [hz : ZerV P E zv] (hdh : d ≤ rows.length) [hset : SetAt h i (.row s sz E (rows.take d ++ List.replicate (rows.length - d) (zv.cells.toList.map AV.v))) h'] (hk : next ⟨t, h', ds⟩) (hzs : zv.cells.size = sz := by rfl) (hzo : (zv.cells.toList.map AV.v).all AV.one = true := by rfl) :
    OE P ro nt ⟨none, .call ⟨.builtin .clear, [x].toArray, [T].toArray⟩, ty, pos, after, guard⟩ ⟨t, h, ds⟩ next := by
  obtain ⟨ys, hys⟩ : ∃ ys : List (List AV), ys = List.replicate (rows.length - d) (zv.cells.toList.map AV.v) := ⟨_, rfl⟩
  obtain ⟨hi, hhi0⟩ : ∃ hi, hi = rows.length := ⟨_, rfl⟩
  have hyl : ys.length = hi - d := by rw [hys, List.length_replicate, hhi0]
  have hset : SetAt h i (.row s sz E (rows.take d ++ (ys ++ rows.drop (d + ys.length)))) h' := by
    rw [hyl, List.drop_eq_nil_of_le (by omega), List.append_nil, hys]; exact hset
  rw [← hhi0] at hx
  have hhi : hi ≤ rows.length := by omega
  have hone : ∀ r ∈ ys, r.all AV.one = true := by rw [hys]; intro r hr; rw [(List.mem_replicate.1 hr).2]; exact hzo
  intro X a w K Q hs hK
  have ex := (hs.env.rel x _ hx).v_eq
  have hx0 := hs.heap.holds _ (List.mem_of_getElem? hrow.h)
  obtain ⟨ax, cap, es, hcap, hsz, _⟩ := row_list hs.heap hrow.h
  obtain ⟨c2, hc2⟩ : ∃ c2, c2 = Builtin.zeroCells zv.cells (hi - d) := ⟨_, rfl⟩
  have s2 : c2.size = ys.length * sz := by rw [hc2, hyl]; simp [Builtin.zeroCells, hzs]
  have hlx2 : ∀ i (hi : i < ys.length), ys[i].length = sz := fun i hi => by
    have hm := List.getElem_mem hi
    have : ∀ r ∈ ys, r.length = sz := by rw [hys]; intro r hr; rw [(List.mem_replicate.1 hr).2]; simpa using hzs
    exact this _ hm
  have g2 : ∀ i (hi : i < ys.length) j (hj : j < ys[i].length), ∃ u, c2[i * sz + j]? = some u ∧ Rel w (OO h X) ys[i][j] u := fun i hi j hj => by
    have hj' : j < sz := by rw [← hlx2 i hi]; exact hj
    have e1 : ys[i] = zv.cells.toList.map AV.v := by
      have hm := List.getElem_mem hi
      have : ∀ r ∈ ys, r = zv.cells.toList.map AV.v := by rw [hys]; intro r hr; exact (List.mem_replicate.1 hr).2
      exact this _ hm
    refine ⟨zv.cells[j]'(by omega), by rw [hc2]; exact zero_at hzs (by omega) (by omega), ?_⟩
    simp only [e1, List.getElem_map, Array.getElem_toList]; exact .v _
  have hcnt : d + ys.length ≤ hi := by omega
  have hrun : (execOp a.eval ⟨none, .call ⟨.builtin .clear, [x].toArray, [T].toArray⟩, ty, pos, after, guard⟩).run P w = ((Builtin.clear_ [T].toArray ty [partV s d hi sz].toArray).run P w).andThen fun v w => .ok (.value v) w := by
    simp only [execOp, resolve, List.map_toArray, List.map_cons, List.map_nil, Sem.run_bind, Sem.run_pure, Result.andThen_ok, invoke, builtin, ex]
  refine ⟨about_true, ?_⟩
  rw [semAt_nd rfl, hrun]
  have hsub0 : ∀ q c, (Builtin.clear_ [T].toArray ty [.slice q 0 c].toArray).run P w = .ok (.tuple #[]) w := by
    intro q c
    cases q <;> simp only [Builtin.clear_, List.getElem?_toArray, List.getElem?_cons_zero, Sem.run_bind, run_underlying (d := TypeDesc.slice E), Result.andThen_ok, Sem.run_pure]
  have hsub : ∀ (q : Addr) c, 0 < hi - d → (Builtin.clear_ [T].toArray ty [.slice (some q) (hi - d) c].toArray).run P w = ((storeCells q c2.toList).run P w).andThen fun _ w => .ok (.tuple #[]) w := by
    intro q c hpos
    obtain ⟨m, hm⟩ : ∃ m, hi - d = m + 1 := ⟨hi - d - 1, by omega⟩
    rw [hc2, hm]
    simp only [Builtin.clear_, List.getElem?_toArray, List.getElem?_cons_zero, Sem.run_bind, run_underlying (d := TypeDesc.slice E), Result.andThen_ok, Sem.run_pure, run_zeroValue hz.h]
  by_cases h0 : ys.length = 0
  · obtain rfl : ys = [] := List.eq_nil_of_length_eq_zero h0
    have he : h' = h := by
      rw [← hset.h]
      obtain ⟨hlt, e⟩ := List.getElem?_eq_some_iff.1 hrow.h
      rw [List.nil_append, List.length_nil, Nat.add_zero, List.take_append_drop, ← e, List.set_getElem_self]
    rw [es]
    simp only [partV, sliced]
    rw [show hi - d = 0 by omega, hsub0]
    simp only [Result.andThen_ok, Oper.uponIn]
    refine hK _ _ _ hk ?_ (by rw [he]; exact .refl _ _)
    have hsim : Sim X nt ⟨t, h', ds⟩ a w := by rw [he]; exact hs
    exact hsim
  · cases ax with
    | none =>
      rw [es] at hx0
      obtain ⟨q0, _⟩ := hx0
      rw [q0] at hhi
      simp only [List.length_nil] at hhi
      omega
    | some addr =>
    rw [es] at hx0
    obtain ⟨m1, _, m3, m4, c0, m5, m6, m7⟩ := hx0
    obtain ⟨b, off, spot⟩ := addr
    simp only at m1 m5 m6 m7
    subst m1
    have ep : partV s d hi sz = .slice (some ⟨b, off + d * sz, none⟩) (hi - d) (cap - d) := by
      rw [es]; simp only [partV, sliced]; rw [if_neg (by omega)]; simp only [Option.map_some, add_none]
    have hcs : ∀ v ∈ c2.toList, v.oneCell' = true := by
      intro v hv
      obtain ⟨k, hk1, hk2⟩ := List.mem_iff_getElem.1 hv
      have hk3 : k < ys.length * sz := by rw [← s2]; simpa using hk1
      have hsz0 : 0 < sz := by
        rcases Nat.eq_zero_or_pos sz with h | h
        · subst h; simp at hk3
        · exact h
      have hi : k / sz < ys.length := (Nat.div_lt_iff_lt_mul hsz0).2 hk3
      have hj : k % sz < ys[k / sz].length := by rw [hlx2 _ hi]; exact Nat.mod_lt _ hsz0
      obtain ⟨u, e, r⟩ := g2 _ hi _ hj
      have ek : k / sz * sz + k % sz = k := by have := Nat.div_add_mod k sz; rw [Nat.mul_comm] at this; exact this
      rw [ek] at e
      have : u = v := by
        have h2 : c2[k]? = some v := by rw [← hk2]; simp [show k < c2.size by rw [s2]; exact hk3]
        exact Option.some.inj (e.symm.trans h2)
      subst this
      exact r.one (List.all_eq_true.1 (hone _ (List.getElem_mem hi)) _ (List.getElem_mem hj))
    have hmul : (d + ys.length) * sz ≤ cap * sz := Nat.mul_le_mul_right _ (by omega)
    rw [Nat.add_mul] at hmul
    obtain ⟨w', f1, f2, f3, c', f4, f5, f6, ev⟩ := run_storeCells (P := P) c2.toList (off + d * sz) 0 w c0 hcs m5 (by simp [s2]; omega)
    rw [ep, hsub _ _ (by omega)]
    rw [f1]
    simp only [Result.andThen_ok, Oper.uponIn]
    have hbown : b ∈ (Res.row s sz E rows).own := by rw [es]; simp [Res.own]
    have hkk : ∀ b', ¬ OO h X b' → b' < w.heap.size → w'.heap[b']? = w.heap[b']? ∧ ¬ OO h X b' := fun b' hb' _ => ⟨f3 b' (fun he => hb' (.inl (mem_owns.2 ⟨_, List.mem_of_getElem? hrow.h, he ▸ hbown⟩))), hb'⟩
    have hoth : ∀ b', b' < w.heap.size → b' ∉ (Res.row s sz E rows).own → w'.heap[b']? = w.heap[b']? := fun b' _ hne => f3 b' fun he => hne (he ▸ hbown)
    have hown : (Res.row s sz E (rows.take d ++ (ys ++ rows.drop (d + ys.length)))).own = (Res.row s sz E rows).own := by rw [es]; rfl
    have hlen : (rows.take d ++ (ys ++ rows.drop (d + ys.length))).length = rows.length := by simp; omega
    have hlow : ∀ k (hk : k < (rows.take d ++ (ys ++ rows.drop (d + ys.length))).length) (h : k < d ∨ d + ys.length ≤ k), (rows.take d ++ (ys ++ rows.drop (d + ys.length)))[k] = rows[k]'(by omega) := fun k hk h => by
      rcases h with h | h
      · rw [List.getElem_append_left (by simp; omega)]; simp
      · rw [List.getElem_append_right (by simp; omega), List.getElem_append_right (by simp; omega), List.getElem_drop]; congr 1; simp; omega
    have hmid : ∀ k (hk : k < (rows.take d ++ (ys ++ rows.drop (d + ys.length))).length) (h1 : d ≤ k) (h2 : k < d + ys.length), (rows.take d ++ (ys ++ rows.drop (d + ys.length)))[k] = ys[k - d]'(by omega) := fun k hk h1 h2 => by
      rw [List.getElem_append_right (by simp; omega), List.getElem_append_left (by simp; omega)]; congr 1; simp; omega
    have hholds : (Res.row s sz E (rows.take d ++ (ys ++ rows.drop (d + ys.length)))).holds w' (OO h X) := by
      rw [es]
      refine ⟨rfl, hlen.symm, hcap, fun k hk => ?_, c', f4, by rw [f5]; exact m6, fun k hk j hj => ?_⟩
      · by_cases h : d ≤ k ∧ k < d + ys.length
        · rw [hmid k hk h.1 h.2]; exact hlx2 _ (by omega)
        · rw [hlow k hk (by omega)]; exact hsz _ (by omega)
      · have hk' : k < rows.length := by rw [← hlen]; exact hk
        by_cases h : d ≤ k ∧ k < d + ys.length
        · simp only [hmid k hk h.1 h.2] at hj ⊢
          obtain ⟨u, e, r⟩ := g2 (k - d) (by omega) j hj
          have hj' : j < sz := by rw [← hlx2 (k - d) (by omega)]; exact hj
          have q1 : (k - d + 1) * sz ≤ ys.length * sz := Nat.mul_le_mul_right _ (by omega)
          rw [Nat.add_mul] at q1
          have q2 : k * sz = d * sz + (k - d) * sz := by rw [← Nat.add_mul]; congr 1; omega
          refine ⟨u, ?_, r.keep (by omega) hkk⟩
          show c'[off + k * sz + j]? = some u
          rw [f6, if_pos (by simp; omega), show off + k * sz + j - (off + d * sz + 0) = (k - d) * sz + j by omega]
          simpa using e
        · simp only [hlow k hk (by omega)] at hj ⊢
          obtain ⟨u, e, r⟩ := m7 k hk' j hj
          have hj' : j < sz := by rw [← hsz k hk']; exact hj
          refine ⟨u, ?_, r.keep (by omega) hkk⟩
          show c'[off + k * sz + j]? = some u
          rw [f6, if_neg ?_]
          · exact e
          · simp only [Array.length_toList, s2]
            rcases Nat.lt_or_ge k d with q | q
            · have : (k + 1) * sz ≤ d * sz := Nat.mul_le_mul_right _ q
              rw [Nat.add_mul] at this; omega
            · have : (d + ys.length) * sz ≤ k * sz := Nat.mul_le_mul_right _ (by omega)
              rw [Nat.add_mul] at this; omega
    refine hK _ _ _ hk ?_ (by rw [← hset.h]; exact Keep.set hrow.h hown (by omega) hoth ev)
    have hO : OO h' X = OO h X := by funext b'; rw [← hset.h]; simp only [OO, owns_set hrow.h hown]
    have hsim : Sim X nt ⟨t, h', ds⟩ a w' := ⟨by rw [← hset.h]; exact hs.heap.set hrow.h hown (by omega) hoth hholds, hs.size, by rw [hO]; exact hs.fr.keep (by omega) hkk, hs.defs⟩
    exact hsim
theorem qr_quo {T T' : TypeId} {a b c : Int} (hx : f x = some (.v (.int .i64 a))) (hy : f y = some (.v (.int .i64 b))) (hb : b ≠ 0) (hc : a.tdiv b = c) (hr : -9223372036854775808 ≤ c ∧ c ≤ 9223372036854775807) :
    QR P h f ⟨dst, .binOp .quo T x y T', ty, pos, after, guard⟩ (.v (.int .i64 c)) := fun X ρ w he => by
  refine ⟨_, run_v _ ?_, .v _⟩
  rw [(he.rel x _ hx).v_eq, (he.rel y _ hy).v_eq, run_binop_int]
  simp [binOp, Op.intDiv, hb, hc, IntWalk.i64_in _ hr]
end
end Go.Ab
/- The negative of an int. Conditions: none (a rule over any program). -/
set_option linter.unusedVariables false
namespace Go.Ab
open Go
end Go.Ab
/- A call that is lent what it reads, and makes something new. Conditions: none (a rule over any program). -/
set_option linter.unusedVariables false
namespace Go.Ab
open Go
theorem FCall.lendG {P : Program} {fv fv' : AV} {args args' : List AV} {h : List Res} {R : AV → List Res → Prop} (hc : FCall P fv' args' [] R) (hR : ∀ r h', R r h' → Scal r ∧ ∀ x ∈ h', ScalR x)
    (hf : BLe h fv fv') (hle : BLes h args args') : FCall P fv args h (fun r h' => ∃ h'', h' = h'' ++ h ∧ R r h'') := by
  intro X w v vs hh hv ha
  refine (hc noX w v vs (hrel_none w) (by rw [OO_none]; exact hf X w v hh hv) (by rw [OO_none]; exact hle.rels hh ha)).mono ?_
  rintro e w' ⟨u, av, h', e1, hRr, hrel, hh', hk⟩
  obtain ⟨hs1, hs2⟩ := hR _ _ hRr
  have hold : ∀ b, b < w.heap.size → w'.heap[b]? = w.heap[b]? ∧ b ∉ owns h' := fun b hb => hk.same b hb (by simp [owns])
  have happ : owns (h' ++ h) = owns h' ++ owns h := by simp [owns, List.flatMap_append]
  have hkk : ∀ b, ¬ OO h X b → b < w.heap.size → w'.heap[b]? = w.heap[b]? ∧ ¬ OO (h' ++ h) X b := fun b hb hl => by
    refine ⟨(hold b hl).1, fun q => ?_⟩
    rcases q with q | q
    · rw [happ, List.mem_append] at q
      rcases q with q | q
      · exact (hold b hl).2 q
      · exact hb (.inl q)
    · exact hb (.inr q)
  have hh2 : HRel X w' (h' ++ h) := by
    refine ⟨?_, fun b hb => ?_, fun b hb => Nat.lt_of_lt_of_le (hh.xlt b hb) hk.size, fun r hr => ?_⟩
    · rw [happ, List.nodup_append]
      exact ⟨hh'.nodup, hh.nodup, fun x hx y hy q => (hold y (hh.lt y hy).1).2 (q ▸ hx)⟩
    · rw [happ, List.mem_append] at hb
      rcases hb with hb | hb
      · exact ⟨(hh'.lt b hb).1, fun hx => (hold b (hh.xlt b hx)).2 hb⟩
      · exact ⟨Nat.lt_of_lt_of_le (hh.lt b hb).1 hk.size, (hh.lt b hb).2⟩
    · rcases List.mem_append.1 hr with hr | hr
      · exact hs2 r hr (hh'.holds r hr)
      · exact Res.holds_keep hk.size hkk (fun b hb => (hold b (hh.lt b (mem_owns.2 ⟨r, hr, hb⟩)).1).1) (hh.holds r hr)
  refine ⟨u, av, _, e1, ⟨_, rfl, hRr⟩, hs1.rel hrel, hh2, ⟨hk.size, fun b hb ho => ⟨(hold b hb).1, fun q => ?_⟩, hk.env⟩⟩
  rw [happ, List.mem_append] at q
  exact q.elim (hold b hb).2 ho
end Go.Ab
/- Histories as plain data, and how they stand as abstract values. Conditions: none (definitions, and lemmas over lists). -/
set_option linter.unusedVariables false
namespace Go.H
open Go Go.Ab
abbrev iv (n : Int) : AV := .v (.int .i64 n)
abbrev bv (b : Bool) : AV := .v (.bool b)
abbrev sv (s : ByteArray) : AV := .v (.string s)
structure Ver where
  t : Int
  k : Int
  deriving DecidableEq
structure Seen where
  o : Int
  v : Ver
  deriving DecidableEq
structure Ev where
  kind : Int
  t : Int
  s : Int
  l : Int
  o : Int
  v : Ver
  p : Int
  scan : List Seen
  deriving DecidableEq
structure Ord where
  o : Int
  ts : List Int
  deriving DecidableEq
structure Mat where
  p : Int
  o : Int
  first : Bool
  ts : List Int
  deriving DecidableEq
structure Wan where
  s : Int
  bits : Int
  deriving DecidableEq
structure Hist where
  ts : List ByteArray
  ss : List ByteArray
  os : List ByteArray
  ps : List ByteArray
  evs : List Ev
  ords : List Ord
  mats : List Mat
  wants : List Wan
def intR (n : Int) : List AV := [iv n]
def strR (s : ByteArray) : List AV := [sv s]
def verR (v : Ver) : List AV := [iv v.t, iv v.k]
def seenR (s : Seen) : List AV := [iv s.o, iv s.v.t, iv s.v.k]
def intsA (l : List Int) : AV := .list false 1 (l.map intR)
def strsA (l : List ByteArray) : AV := .list false 1 (l.map strR)
def seensA (l : List Seen) : AV := .list false 3 (l.map seenR)
def evR (e : Ev) : List AV := [iv e.kind, iv e.t, iv e.s, iv e.l, iv e.o, iv e.v.t, iv e.v.k, iv e.p, seensA e.scan]
def ordR (o : Ord) : List AV := [iv o.o, intsA o.ts]
def matR (m : Mat) : List AV := [iv m.p, iv m.o, bv m.first, intsA m.ts]
def wanR (w : Wan) : List AV := [iv w.s, iv w.bits]
def evsA (l : List Ev) : AV := .list false 9 (l.map evR)
def ordsA (l : List Ord) : AV := .list false 2 (l.map ordR)
def matsA (l : List Mat) : AV := .list false 4 (l.map matR)
def wansA (l : List Wan) : AV := .list false 2 (l.map wanR)
def histC (h : Hist) : List AV := [strsA h.ts, strsA h.ss, strsA h.os, strsA h.ps, evsA h.evs, ordsA h.ords, matsA h.mats, wansA h.wants]
def namesC (h : Hist) : List AV := [strsA h.ts, strsA h.ss, strsA h.os, strsA h.ps]
def fidx {α : Type} (p : α → Bool) (i : Nat) : List α → Int
  | [] => -1
  | x :: r => if p x then i else fidx p (i + 1) r
theorem fidx_ge {α : Type} (p : α → Bool) : ∀ (l : List α) (i : Nat), decide (fidx p i l ≥ 0) = l.any p
  | [], i => by simp [fidx]
  | x :: r, i => by
    simp only [fidx, List.any_cons]
    split
    · rename_i h; simp [h]
    · rename_i h; simp [h, fidx_ge p r (i + 1)]
theorem any_not {α : Type} (p : α → Bool) : ∀ (l : List α), (!l.any fun a => !p a) = l.all p
  | [] => rfl
  | x :: r => by
    have := any_not p r
    simp only [List.any_cons, List.all_cons, Bool.not_or, Bool.not_not, this]
def zall {α β : Type} (p : α → β → Bool) : List α → List β → Bool
  | x :: xs, y :: ys => p x y && zall p xs ys
  | _, _ => true
theorem zall_nil {α β : Type} (p : α → β → Bool) (m : List β) : zall p [] m = true := by cases m <;> rfl
def eqF {α β : Type} (p : α → β → Bool) (l : List α) (m : List β) : Bool := l.length == m.length && zall p l m
def intEq (a b : Int) : Bool := a == b
def seenEq (a b : Seen) : Bool := [a.o, a.v.t, a.v.k] == [b.o, b.v.t, b.v.k]
theorem not_t {b : Bool} (h : (!b) = true) : b = false := by simpa using h
theorem not_f {b : Bool} (h : (!b) = false) : b = true := by simpa using h
theorem eqF_eq {α : Type} [DecidableEq α] {p : α → α → Bool} (hp : ∀ a b, p a b = decide (a = b)) : ∀ (l m : List α), eqF p l m = decide (l = m)
  | [], [] => by simp [eqF, zall]
  | x :: xs, [] => by simp [eqF]
  | [], y :: ys => by simp [eqF]
  | x :: xs, y :: ys => by
    have := eqF_eq hp xs ys
    simp only [eqF] at this
    simp only [eqF, zall, List.length_cons, hp]
    by_cases h : x = y
    · subst h
      simp only [decide_true, Bool.true_and, List.cons.injEq, true_and]
      rw [← this]
      congr 1
      simp
    · simp [h]
/-! What the package's small functions answer. -/
def numB (c : Int) : Bool := decide (c ≥ 48) && decide (c ≤ 57)
def letB (c : Int) : Bool := c == 95 || (decide (c ≥ 97) && decide (c ≤ 122)) || (decide (c ≥ 65) && decide (c ≤ 90)) || decide (c ≥ 128)
def toldB (l : List ByteArray) (n : Int) : Bool := decide (n ≥ 0) && decide (n < l.length)
def verB (ts : List ByteArray) (v : Ver) : Bool := if v.k == 0 then v.t == 0 else toldB ts v.t && decide (v.k > 0) && decide (v.k ≤ 999)
def levB (l : Int) : Int := if decide (l < 1) || decide (l > 4) then 190 else 0
def evEq (a b : Ev) : Bool := a.kind == b.kind && a.t == b.t && a.s == b.s && a.l == b.l && a.o == b.o && [a.v.t, a.v.k] == [b.v.t, b.v.k] && a.p == b.p && eqF seenEq a.scan b.scan
structure Lim (N : Nat) (h : Hist) : Prop where
  ts : h.ts.length ≤ N
  ss : h.ss.length ≤ N
  os : h.os.length ≤ N
  ps : h.ps.length ≤ N
  evs : h.evs.length ≤ N
  ords : h.ords.length ≤ N
  mats : h.mats.length ≤ N
  wants : h.wants.length ≤ N
  scans : ∀ e ∈ h.evs, e.scan.length ≤ N
  ordts : ∀ o ∈ h.ords, o.ts.length ≤ N
  matts : ∀ m ∈ h.mats, m.ts.length ≤ N
/-- No more bytes than a place has. -/
structure Big (h : Hist) : Prop where
  lim : Lim 4611686018427387904 h
  ts : h.ts.length ≤ 8796093022208
  ss : h.ss.length ≤ 8796093022208
  os : h.os.length ≤ 8796093022208
  ps : h.ps.length ≤ 8796093022208
  ords : h.ords.length ≤ 4398046511104
  mats : h.mats.length ≤ 2932031007402
  wants : h.wants.length ≤ 8796093022208
  scans : ∀ e ∈ h.evs, e.scan.length ≤ 5864062014805
  ordts : ∀ o ∈ h.ords, o.ts.length ≤ 17592186044416
  matts : ∀ m ∈ h.mats, m.ts.length ≤ 17592186044416
def nmK (h : Hist) : Nat → List ByteArray
  | 0 => h.ts
  | 1 => h.ss
  | 2 => h.os
  | _ => h.ps
theorem nmK_get (h : Hist) {k : Nat} (hk : k < 4) : (namesC h)[k]? = some (strsA (nmK h k)) := by
  match k, hk with
  | 0, _ => rfl
  | 1, _ => rfl
  | 2, _ => rfl
  | 3, _ => rfl
theorem Lim.nm {N : Nat} {h : Hist} (l : Lim N h) (k : Nat) : (nmK h k).length ≤ N := by
  match k with
  | 0 => exact l.ts
  | 1 => exact l.ss
  | 2 => exact l.os
  | k + 3 => exact l.ps
/-! May an event be? -/
def mayBegin (h : Hist) (e : Ev) : Bool := toldB h.ss e.s && levB e.l == 0
def mayWrite (h : Hist) (e : Ev) : Bool := toldB h.os e.o && verB h.ts e.v && e.v.t == e.t && decide (e.v.k > 0)
def mayRead (h : Hist) (e : Ev) : Bool := toldB h.os e.o && verB h.ts e.v
def seenB (h : Hist) (s : Seen) : Bool := toldB h.os s.o && verB h.ts s.v
def mayScan (h : Hist) (e : Ev) : Bool := toldB h.ps e.p && decide ((e.scan.length : Int) ≤ 40) && e.scan.all (seenB h)
def cand (h : Hist) (e : Ev) : Ev × Bool :=
  if e.kind = 1 then (⟨0, 0, e.s, e.l, 0, ⟨0, 0⟩, 0, []⟩, mayBegin h e) else
  if e.kind = 2 then (⟨0, 0, 0, 0, e.o, e.v, 0, []⟩, mayWrite h e) else
  if e.kind = 3 then (⟨0, 0, 0, 0, e.o, e.v, 0, []⟩, mayRead h e) else
  if e.kind = 4 then (⟨0, 0, 0, 0, 0, ⟨0, 0⟩, e.p, e.scan⟩, mayScan h e) else
  (⟨0, 0, 0, 0, 0, ⟨0, 0⟩, 0, []⟩, true)
def eventB (h : Hist) (e : Ev) : Bool :=
  !(decide (e.kind < 1) || decide (e.kind ≥ 7) || !toldB h.ts e.t) && ((cand h e).2 && evEq { (cand h e).1 with kind := e.kind, t := e.t } e)
theorem cand_scan (h : Hist) (e : Ev) {N : Nat} (he : e.scan.length ≤ N) : (cand h e).1.scan.length ≤ N := by
  unfold cand; repeat' split
  all_goals simp [he]
def tsB (h : Hist) (ts : List Int) : Bool := decide ((ts.length : Int) ≤ 300) && ts.all (toldB h.ts)
def ordB (h : Hist) (r : Ord) : Bool := toldB h.os r.o && tsB h r.ts
def matB (h : Hist) (r : Mat) : Bool := toldB h.ps r.p && toldB h.os r.o && tsB h r.ts
def wanB (h : Hist) (r : Wan) : Bool := toldB h.ss r.s && decide (r.bits ≥ 0) && decide (r.bits ≤ 15)
end Go.H
/- What package lex, and the decoding of runes, answer. Conditions: none (definitions). -/
set_option linter.unusedVariables false
namespace Go.H
open Go Go.Ab
def bt (s : ByteArray) (i : Nat) : Int := if h : i < s.size then ((s[i]'h).toNat : Int) else 0
def firstV (i : Nat) : Int :=
  if i < 128 then 240 else if i < 194 then 241 else if i < 224 then 2 else if i = 224 then 19 else if i < 237 then 3 else if i = 237 then 35 else
  if i < 240 then 3 else if i = 240 then 52 else if i < 244 then 4 else if i = 244 then 68 else 241
def firstC : List AV := (List.range 256).map fun i => .v (.int .u8 (firstV i))
def accLo : Nat → Int
  | 1 => 160
  | 3 => 144
  | _ => 128
def accHi : Nat → Int
  | 2 => 159
  | 4 => 143
  | _ => 191
def acceptC : List AV := [.v (.int .u8 128), .v (.int .u8 191), .v (.int .u8 160), .v (.int .u8 191), .v (.int .u8 128), .v (.int .u8 159), .v (.int .u8 144), .v (.int .u8 191), .v (.int .u8 128), .v (.int .u8 143)] ++ List.replicate 22 (.v (.int .u8 0))
def limitsC : List AV := [iv 300, iv 60, iv 300, iv 60]
def bI (op : BinOp) (k : IntKind) (x y : Int) : Int := (bitsI op k x y).getD 0
def sI (op : BinOp) (k : IntKind) (x y : Int) : Int := (shiftI op k x y).getD 0
/-- Some bits of a byte, as a rune, moved. -/
def rbits (b m sh : Int) : Int := if sh = 0 then IntKind.i32.wrap (bI .and .u8 b m) else sI .shl .i32 (IntKind.i32.wrap (bI .and .u8 b m)) sh
def decMask (x : Int) : Int := sI .shr .i32 (sI .shl .i32 (IntKind.i32.wrap x) 31) 31
def decSlow (s : ByteArray) : Int × Int :=
  if s.size < 1 then (65533, 0) else
  let x := firstV (bt s 0).toNat
  if x ≥ 240 then (bI .or .i32 (bI .andNot .i32 (IntKind.i32.wrap (bt s 0)) (decMask x)) (bI .and .i32 65533 (decMask x)), 1) else
  let sz := x % 8
  let acc := (x / 16).toNat
  if (s.size : Int) < sz then (65533, 1) else
  if bt s 1 < accLo acc ∨ accHi acc < bt s 1 then (65533, 1) else
  if sz ≤ 2 then (bI .or .i32 (rbits (bt s 0) 31 6) (rbits (bt s 1) 63 0), 2) else
  if bt s 2 < 128 ∨ 191 < bt s 2 then (65533, 1) else
  if sz ≤ 3 then (bI .or .i32 (bI .or .i32 (rbits (bt s 0) 15 12) (rbits (bt s 1) 63 6)) (rbits (bt s 2) 63 0), 3) else
  if bt s 3 < 128 ∨ 191 < bt s 3 then (65533, 1) else
  (bI .or .i32 (bI .or .i32 (bI .or .i32 (rbits (bt s 0) 7 18) (rbits (bt s 1) 63 12)) (rbits (bt s 2) 63 6)) (rbits (bt s 3) 63 0), 4)
def decStr (s : ByteArray) : Int × Int := if 0 < s.size ∧ bt s 0 < 128 then (bt s 0, 1) else decSlow s
theorem bt_ge (s : ByteArray) (i : Nat) : 0 ≤ bt s i := by unfold bt; split <;> omega
theorem bt_lt (s : ByteArray) (i : Nat) : bt s i < 256 := by
  unfold bt; split
  · rename_i h; have := (s[i]'h).toNat_lt; omega
  · omega
section
variable {P : Program} {dst : Option Tmp} {ty : TypeId} {pos : String} {after : Array Edge} {guard : Option (Nat × Bool)} {x y : Operand} {h : List Res} {f : Operand → Option AV}
theorem qr_index_bt {T : TypeId} (i : Nat) {s : ByteArray} (hx : f x = some (.v (.string s))) (hy : f y = some (.v (.int .i64 i))) [Und P T .string] (hi : i < s.size) :
    QR P h f ⟨dst, .index T x y, ty, pos, after, guard⟩ (.v (.int .u8 (bt s i))) := by
  have := qr_index_str (P := P) (h := h) (T := T) (dst := dst) (ty := ty) (pos := pos) (after := after) (guard := guard) hx hy hi
  have e : bt s i = ((s[i]'hi).toNat : Int) := by simp [bt, hi]
  rw [e]; exact this
theorem qr_indexAddr_int {T E : TypeId} {n b o sz : Nat} {i : Int} {kk : IntKind} (hx : f x = some (.v (.pointer (some ⟨b, o, none⟩)))) (hy : f y = some (.v (.int kk i))) [Und P T (.array n E)] [Siz P E sz] (h0 : 0 ≤ i) (hi : i < n) :
    QR P h f ⟨dst, .indexAddr T x y, ty, pos, after, guard⟩ (.v (.pointer (some ⟨b, o + i.toNat * sz, none⟩))) :=
  qr_indexAddr_arr (i := i.toNat) hx (by rw [Int.toNat_of_nonneg h0]; exact hy) (by omega)
end
theorem firstC_get {i : Int} (h0 : 0 ≤ i) (h1 : i < 256) : firstC[0 + i.toNat * 1]? = some (.v (.int .u8 (firstV i.toNat))) := by
  simp [firstC, show i.toNat < 256 by omega]
def limK : Nat → Nat
  | 0 => 300
  | 1 => 60
  | 2 => 300
  | _ => 60
theorem limitsC_get {k : Nat} (hk : k < 4) : limitsC[0 + k * 1]? = some (iv (limK k)) := by
  match k, hk with
  | 0, _ => rfl
  | 1, _ => rfl
  | 2, _ => rfl
  | 3, _ => rfl
theorem firstV_cases (i : Nat) : firstV i = 240 ∨ firstV i = 241 ∨ firstV i = 2 ∨ firstV i = 19 ∨ firstV i = 3 ∨ firstV i = 35 ∨ firstV i = 52 ∨ firstV i = 4 ∨ firstV i = 68 := by
  unfold firstV; repeat' split
  all_goals simp
theorem bt_wrap (s : ByteArray) (i : Nat) : IntKind.i32.wrap (bt s i) = bt s i := by
  have h0 := bt_ge s i; have h1 := bt_lt s i
  have e : bt s i % (2 ^ IntKind.i32.bits : Int) = bt s i := Int.emod_eq_of_lt h0 (show bt s i < 4294967296 by omega)
  unfold IntKind.wrap
  simp only [e]
  rw [if_neg]
  intro q
  have q2 : bt s i ≥ (2 ^ (IntKind.i32.bits - 1) : Int) := by simpa using (Bool.and_eq_true_iff.1 q).2
  have : (2 ^ (IntKind.i32.bits - 1) : Int) = 2147483648 := by decide
  omega
theorem str_ne {s : ByteArray} (h : (s.toList != (ByteArray.mk #[]).toList) = true) : 0 < s.size := by
  refine Nat.pos_of_ne_zero fun q => ?_
  have e : s = ⟨#[]⟩ := by cases s; congr 1; exact Array.eq_empty_of_size_eq_zero q
  rw [e] at h; simp at h
theorem str_eq {s : ByteArray} (h : (s.toList != (ByteArray.mk #[]).toList) = false) : ¬ 0 < s.size := by
  intro q
  have e : s.toList = (ByteArray.mk #[]).toList := by simpa using h
  rw [ByteArray.toList_eq, ByteArray.toList_eq] at e
  have : s.size = 0 := by
    have h2 := congrArg List.length e
    simpa using h2
  omega
/-- Is the rune one that stands there as such? -/
def toldF (s : ByteArray) (i : Nat) (c : Int) : Bool := c != 65533 || decide ((decStr (s.extract i s.size)).2 > 1)
theorem width_pos (s : ByteArray) (i : Nat) : 0 < (Utf8.decode s i).2 := by
  simp only [Utf8.decode]
  repeat' split
  all_goals simp
/-- Where the first rune stands that p does not take, from pos on. -/
def whileF (s : ByteArray) (p : Nat → Int → Bool) (pos : Nat) : Nat :=
  if h : pos < s.size then
    if p pos (Utf8.decode s pos).1 then whileF s p (pos + (Utf8.decode s pos).2) else pos
  else s.size
  termination_by s.size - pos
  decreasing_by have := width_pos s pos; omega
theorem whileF_go {s : ByteArray} {p : Nat → Int → Bool} {k : Nat} (h : k < s.size) (hp : p k (Utf8.decode s k).1 = true) : whileF s p k = whileF s p (k + (Utf8.decode s k).2) := by
  rw [whileF, dif_pos h, if_pos hp]
theorem whileF_stop {s : ByteArray} {p : Nat → Int → Bool} {k : Nat} (h : k < s.size) (hp : p k (Utf8.decode s k).1 = false) : whileF s p k = k := by
  rw [whileF, dif_pos h, if_neg (by simp [hp])]
theorem whileF_end {s : ByteArray} {p : Nat → Int → Bool} {k : Nat} (h : ¬ k < s.size) : whileF s p k = s.size := by
  rw [whileF, dif_neg h]
end Go.H
/- What package history answers, as plain functions: what is spoken of, whether a history may be, numbered anew, completed, a transaction's events. Conditions: none (definitions, and lemmas over lists). -/
set_option linter.unusedVariables false
namespace Go.H
open Go Go.Ab
/-! Words. -/
def okRune (s : ByteArray) (goes : Int → Bool) (i : Nat) (c : Int) : Bool := toldF s i c && goes c
def eitherB (c : Int) : Bool := letB c || numB c
def wordB (s : ByteArray) : Bool := (!(s.toList == [])) && decide ((s.size : Int) ≤ 24) && (!numB (bt s 0)) && ((whileF s (okRune s eitherB) 0 : Int) == s.size)
/-! May a history be, but for how its names are numbered? -/
def freshB : List ByteArray → List ByteArray → Bool
  | _, [] => true
  | met, s :: r => wordB s && (!memB s met) && freshB (met ++ [s]) r
def namesB (most : Nat) (l : List ByteArray) : Bool := decide ((l.length : Int) ≤ most) && freshB [] l
def sizesB (h : Hist) : Bool := decide ((h.evs.length : Int) ≤ 3000) && decide (max (max (h.ords.length : Int) h.mats.length) h.wants.length ≤ 3000)
def okK (h : Hist) : Nat → Bool
  | 0 => sizesB h
  | k + 1 => okK h k && namesB (limK k) (nmK h k)
def shapedB (h : Hist) : Bool :=
  okK h 4 && h.evs.all (eventB h) && h.ords.all (ordB h) && h.mats.all (matB h) && h.wants.all (wanB h)
theorem sizes_eq (h : Hist) : okK h 0 = (decide (((h.evs.map evR).length : Int) ≤ 3000) && decide (max (max ((h.ords.map ordR).length : Int) (h.mats.map matR).length) (h.wants.map wanR).length ≤ 3000)) := by
  simp [okK, sizesB]
theorem okK_false {h : Hist} {k : Nat} (hk : okK h k = false) : ∀ n, okK h (k + n) = false
  | 0 => hk
  | n + 1 => by
    have ih := okK_false hk n
    show (okK h (k + n) && _) = false
    rw [ih, Bool.false_and]
def okj (h : Hist) (k j : Nat) : Bool := okK h k && decide (((nmK h k).length : Int) ≤ limK k)
theorem okj_eq (h : Hist) (k : Nat) : okj h k 0 = (okK h k && decide ((((nmK h k).map strR).length : Int) ≤ limK k)) := by simp [okj]
theorem ok_or {o : Bool} {l m r : List ByteArray} {x : ByteArray} (hf : freshB [] l = freshB m (x :: r)) (h : (o && wordB x && !memB x m) = false) : o = false ∨ freshB [] l = false := by
  cases o with
  | false => exact .inl rfl
  | true => rw [Bool.true_and] at h; rw [hf, freshB, h, Bool.false_and]; exact .inr rfl
theorem ok_and {o a b : Bool} (h : (o && a && !b) = true) : o = true ∧ a = true ∧ b = false := by
  cases o <;> cases a <;> cases b <;> simp_all
theorem ok_end {h : Hist} {k : Nat} (h0 : freshB [] (nmK h k) = true) : okj h k 0 = okK h (k + 1) := by
  simp [okj, okK, namesB, h0]
theorem ok_bad {h : Hist} {k : Nat} (hk : k < 4) (h0 : okj h k 0 = false ∨ freshB [] (nmK h k) = false) : okK h 4 = false := by
  have h1 : okK h (k + 1) = false := by
    rcases h0 with h0 | h0
    · simp only [okK, namesB]; simp only [okj] at h0; rw [← Bool.and_assoc, h0, Bool.false_and]
    · simp [okK, namesB, h0]
  have := okK_false h1 (3 - k)
  rwa [show k + 1 + (3 - k) = 4 by omega] at this
/-! What is spoken of. -/
def madeL (v : Ver) : List (Nat × Int) := if decide (v.k > 0) then [(0, v.t)] else []
def seenL (s : Seen) : List (Nat × Int) := (2, s.o) :: madeL s.v
def kindL (e : Ev) : List (Nat × Int) := if e.kind = 1 then [(1, e.s)] else if e.kind = 2 ∨ e.kind = 3 then (2, e.o) :: madeL e.v else if e.kind = 4 then [(3, e.p)] else []
theorem kindL_1 {e : Ev} (h : e.kind = 1) : kindL e = [(1, e.s)] := by rw [kindL, if_pos h]
theorem kindL_2 {e : Ev} (h : e.kind = 2 ∨ e.kind = 3) : kindL e = (2, e.o) :: madeL e.v := by rw [kindL, if_neg (by omega), if_pos h]
theorem kindL_4 {e : Ev} (h : e.kind = 4) : kindL e = [(3, e.p)] := by rw [kindL, if_neg (by omega), if_neg (by omega), if_pos h]
theorem kindL_0 {e : Ev} (h1 : e.kind ≠ 1) (h2 : e.kind ≠ 2) (h3 : e.kind ≠ 3) (h4 : e.kind ≠ 4) : kindL e = [] := by rw [kindL, if_neg h1, if_neg (by omega), if_neg h4]
def evL (e : Ev) : List (Nat × Int) := (0, e.t) :: (kindL e ++ e.scan.flatMap seenL)
def tsL (l : List Int) : List (Nat × Int) := l.map fun t => (0, t)
def ordL (r : Ord) : List (Nat × Int) := (2, r.o) :: tsL r.ts
def matL (r : Mat) : List (Nat × Int) := (3, r.p) :: (2, r.o) :: tsL r.ts
def wanL (r : Wan) : List (Nat × Int) := [(1, r.s)]
def spokenL (h : Hist) : List (Nat × Int) := h.evs.flatMap evL ++ (h.ords.flatMap ordL ++ (h.mats.flatMap matL ++ h.wants.flatMap wanL))
/-- Going over a row, as long as it goes on. -/
def goes {σ α : Type} (step : σ → α → Option σ) : Option σ → List α → Option σ
  | st, [] => st
  | st, x :: r => goes step (st.bind fun s => step s x) r
theorem goes_append {σ α : Type} (step : σ → α → Option σ) : ∀ (l m : List α) (st : Option σ), goes step st (l ++ m) = goes step (goes step st l) m
  | [], m, st => rfl
  | x :: l, m, st => goes_append step l m _
/-- What is still to be gone over, and what it comes to; each of it is all right. -/
def Rem {σ α : Type} (step : σ → α → Option σ) (ok : α → Prop) (st : Option σ) (l : List α) (F : Option σ) : Prop := goes step st l = F ∧ ∀ x ∈ l, ok x
section
variable {σ α : Type} {step : σ → α → Option σ} {ok : α → Prop} {st F : Option σ} {l m : List α} {x : α}
theorem Rem.cons (h : Rem step ok st (x :: l) F) : ok x ∧ Rem step ok (goes step st [x]) l F := ⟨h.2 x (by simp), h.1, fun y hy => h.2 y (by simp [hy])⟩
theorem Rem.app (h : Rem step ok st (l ++ m) F) : (∀ x ∈ l, ok x) ∧ Rem step ok (goes step st l) m F := ⟨fun y hy => h.2 y (by simp [hy]), by rw [← goes_append]; exact h.1, fun y hy => h.2 y (by simp [hy])⟩
theorem Rem.fin (h : Rem step ok st [] F) : st = F := h.1
end
/-- How many of each sort have been told, each as it comes first. -/
def manyStep (m : List Int) (x : Nat × Int) : Option (List Int) :=
  let a := m.getD x.1 0
  if x.2 > a then none else some (m.set x.1 (max a (x.2 + 1)))
def manyL (h : Hist) : Option (List Int) := goes manyStep (some [0, 0, 0, 0]) (spokenL h)
def lensL (h : Hist) : List Int := [h.ts.length, h.ss.length, h.os.length, h.ps.length]
/-- May a history be? -/
def mayB (h : Hist) : Bool := shapedB h && (manyL h == some (lensL h))
def checkE (h : Hist) : Int := if mayB h then 0 else 210
def hist0 : Hist := ⟨[], [], [], [], [], [], [], []⟩
/-! A transaction's events. -/
def ofL (t : Int) : Nat → List Ev → List Int
  | _, [] => []
  | i, e :: r => if e.t = t then (i : Int) :: ofL t (i + 1) r else ofL t (i + 1) r
/-! Completed. -/
def begunL (l : List Ev) (t : Int) : Bool := l.any fun e => e.t == t && e.kind == 1
def overL (l : List Ev) (t : Int) : Bool := l.any fun e => e.t == t && (e.kind == 5 || e.kind == 6)
def abortE (t : Nat) : Ev := ⟨6, t, 0, 0, 0, ⟨0, 0⟩, 0, []⟩
def openL (h : Hist) : List Nat := (List.range h.ts.length).filter fun t => begunL h.evs t && !overL h.evs t
def complH (h : Hist) : Hist := { h with evs := h.evs ++ (openL h).map abortE }
def complE (h : Hist) : Int := if mayB h then (if h.evs.length + (openL h).length ≤ 3000 then 0 else 6) else 210
def complR (h : Hist) : Hist := if complE h = 0 then complH h else hist0
def ofR (h : Hist) (t : Int) : List Int := if mayB h then ofL t 0 h.evs else []
/-! Numbered anew. -/
def travL {σ α : Type} (f : σ → α → α × σ) : σ → List α → List α × σ
  | s, [] => ([], s)
  | s, x :: r => ((f s x).1 :: (travL f (f s x).2 r).1, (travL f (f s x).2 r).2)
section
variable {σ : Type} (f : σ → Nat → Int → Int × σ)
def travVer (s : σ) (v : Ver) : Ver × σ := if decide (v.k > 0) then (⟨(f s 0 v.t).1, v.k⟩, (f s 0 v.t).2) else (v, s)
def travSeen (s : σ) (x : Seen) : Seen × σ :=
  let a := f s 2 x.o
  let b := travVer f a.2 x.v
  (⟨a.1, b.1⟩, b.2)
def travKind (s : σ) (e : Ev) : Ev × σ :=
  if e.kind = 1 then let a := f s 1 e.s; ({ e with s := a.1 }, a.2) else
  if e.kind = 2 ∨ e.kind = 3 then let a := f s 2 e.o; let b := travVer f a.2 e.v; ({ e with o := a.1, v := b.1 }, b.2) else
  if e.kind = 4 then let a := f s 3 e.p; ({ e with p := a.1 }, a.2) else (e, s)
def travEv (s : σ) (e : Ev) : Ev × σ :=
  let a := f s 0 e.t
  let b := travKind f a.2 { e with t := a.1 }
  let c := travL (travSeen f) b.2 e.scan
  ({ b.1 with scan := c.1 }, c.2)
def travTs (s : σ) (l : List Int) : List Int × σ := travL (fun s n => f s 0 n) s l
def travOrd (s : σ) (r : Ord) : Ord × σ :=
  let a := f s 2 r.o
  let b := travTs f a.2 r.ts
  (⟨a.1, b.1⟩, b.2)
def travMat (s : σ) (r : Mat) : Mat × σ :=
  let a := f s 3 r.p
  let b := f a.2 2 r.o
  let c := travTs f b.2 r.ts
  (⟨a.1, b.1, r.first, c.1⟩, c.2)
def travWan (s : σ) (r : Wan) : Wan × σ := let a := f s 1 r.s; (⟨a.1, r.bits⟩, a.2)
def travH (s : σ) (h : Hist) : Hist × σ :=
  let a := travL (travEv f) s h.evs
  let b := travL (travOrd f) a.2 h.ords
  let c := travL (travMat f) b.2 h.mats
  let d := travL (travWan f) c.2 h.wants
  ({ h with evs := a.1, ords := b.1, mats := c.1, wants := d.1 }, d.2)
end
/-- Where a number stands in a row, from a place on. -/
def posOf (n : Int) : Nat → List Int → Option Nat
  | _, [] => none
  | i, x :: r => if x = n then some i else posOf n (i + 1) r
/-- What is known as one numbers anew: the old numbers of each sort, each as it came first. -/
abbrev Olds := List (List Int)
def numStep (k : Olds) (sort : Nat) (n : Int) : Int × Olds :=
  match posOf n 0 (k.getD sort []) with
  | some i => ((i : Int), k)
  | none => (((k.getD sort []).length : Int), k.set sort (k.getD sort [] ++ [n]))
def olds0 : Olds := [[], [], [], []]
def nameAt (l : List ByteArray) (n : Int) : ByteArray := l.getD n.toNat ⟨#[]⟩
def numberH (h : Hist) : Hist :=
  let r := travH numStep olds0 h
  { r.1 with ts := (r.2.getD 0 []).map (nameAt h.ts), ss := (r.2.getD 1 []).map (nameAt h.ss), os := (r.2.getD 2 []).map (nameAt h.os), ps := (r.2.getD 3 []).map (nameAt h.ps) }
def numR (h : Hist) : Hist := if shapedB h then numberH h else hist0
def numE (h : Hist) : Int := if shapedB h then 0 else 210
end Go.H
/- Plain laws on histories: what a shaped one says of what is spoken of; when a history may be. Conditions: as each lemma states. -/
set_option linter.unusedVariables false
namespace Go.H
open Go Go.Ab
theorem seenEq_eq (a b : Seen) : seenEq a b = decide (a = b) := by
  obtain ⟨ao, at_, ak⟩ := a; obtain ⟨bo, bt_, bk⟩ := b
  simp only [seenEq, Seen.mk.injEq, Ver.mk.injEq]
  by_cases h1 : ao = bo <;> by_cases h2 : at_ = bt_ <;> by_cases h3 : ak = bk <;> simp [h1, h2, h3]
theorem evEq_eq (a b : Ev) : evEq a b = decide (a = b) := by
  obtain ⟨a1, a2, a3, a4, a5, ⟨a6, a7⟩, a8, a9⟩ := a; obtain ⟨b1, b2, b3, b4, b5, ⟨b6, b7⟩, b8, b9⟩ := b
  simp only [evEq, eqF_eq seenEq_eq, Ev.mk.injEq, Ver.mk.injEq]
  rw [Bool.eq_iff_iff]
  simp [and_assoc]
/-- One of so many. -/
def OkN (h : Hist) (x : Nat × Int) : Prop := x.1 < 4 ∧ 0 ≤ x.2 ∧ x.2 < (nmK h x.1).length
theorem toldB_iff (l : List ByteArray) (n : Int) : toldB l n = true ↔ 0 ≤ n ∧ n < l.length := by simp [toldB]
theorem made_ok {h : Hist} {v : Ver} (hv : verB h.ts v = true) : ∀ x ∈ madeL v, OkN h x := by
  intro x hx
  unfold madeL at hx
  split at hx
  · rename_i hk
    have hk' : v.k > 0 := of_decide_eq_true hk
    simp only [List.mem_singleton] at hx
    subst hx
    unfold verB at hv
    rw [if_neg (by simp; omega)] at hv
    simp only [Bool.and_eq_true, toldB_iff] at hv
    exact ⟨by simp, hv.1.1.1, hv.1.1.2⟩
  · simp at hx
theorem seen_ok {h : Hist} {s : Seen} (hs : seenB h s = true) : ∀ x ∈ seenL s, OkN h x := by
  simp only [seenB, Bool.and_eq_true, toldB_iff] at hs
  intro x hx
  simp only [seenL, List.mem_cons] at hx
  rcases hx with rfl | hx
  · exact ⟨by simp, hs.1.1, hs.1.2⟩
  · exact made_ok hs.2 x hx
theorem event_parts {h : Hist} {e : Ev} (he : eventB h e = true) : 1 ≤ e.kind ∧ e.kind < 7 ∧ toldB h.ts e.t = true ∧ (cand h e).2 = true ∧ { (cand h e).1 with kind := e.kind, t := e.t } = e := by
  simp only [eventB, evEq_eq, Bool.and_eq_true, Bool.not_eq_true', Bool.or_eq_false_iff, decide_eq_true_eq, decide_eq_false_iff_not, Bool.not_eq_false'] at he
  exact ⟨by omega, by omega, he.1.2, he.2.1, he.2.2⟩
theorem ev_ok {h : Hist} {e : Ev} (he : eventB h e = true) : ∀ x ∈ evL e, OkN h x := by
  obtain ⟨h1, h7, ht, hc, hq⟩ := event_parts he
  have ht' := (toldB_iff _ _).1 ht
  intro x hx
  simp only [evL, List.mem_cons, List.mem_append] at hx
  rcases hx with rfl | hx
  · exact ⟨by simp, ht'.1, ht'.2⟩
  unfold cand at hc hq
  by_cases k1 : e.kind = 1
  · rw [if_pos k1] at hc hq
    simp only [mayBegin, Bool.and_eq_true, toldB_iff] at hc
    have hs : e.scan = [] := by rw [← hq]
    rw [hs, kindL_1 k1] at hx
    simp only [List.mem_singleton, List.flatMap_nil, List.not_mem_nil, or_false] at hx
    subst hx; exact ⟨by simp, hc.1.1, hc.1.2⟩
  rw [if_neg k1] at hc hq
  by_cases k2 : e.kind = 2
  · rw [if_pos k2] at hc hq
    simp only [mayWrite, Bool.and_eq_true, toldB_iff] at hc
    have hs : e.scan = [] := by rw [← hq]
    rw [hs, kindL_2 (.inl k2)] at hx
    simp only [List.mem_cons, List.flatMap_nil, List.not_mem_nil, or_false] at hx
    rcases hx with rfl | hx
    · exact ⟨by simp, hc.1.1.1.1, hc.1.1.1.2⟩
    · exact made_ok hc.1.1.2 x hx
  rw [if_neg k2] at hc hq
  by_cases k3 : e.kind = 3
  · rw [if_pos k3] at hc hq
    simp only [mayRead, Bool.and_eq_true, toldB_iff] at hc
    have hs : e.scan = [] := by rw [← hq]
    rw [hs, kindL_2 (.inr k3)] at hx
    simp only [List.mem_cons, List.flatMap_nil, List.not_mem_nil, or_false] at hx
    rcases hx with rfl | hx
    · exact ⟨by simp, hc.1.1, hc.1.2⟩
    · exact made_ok hc.2 x hx
  rw [if_neg k3] at hc hq
  by_cases k4 : e.kind = 4
  · rw [if_pos k4] at hc hq
    simp only [mayScan, Bool.and_eq_true, toldB_iff, List.all_eq_true] at hc
    rw [kindL_4 k4] at hx
    simp only [List.mem_singleton, List.mem_flatMap] at hx
    rcases hx with rfl | ⟨s, hs, hx⟩
    · exact ⟨by simp, hc.1.1.1, hc.1.1.2⟩
    · exact seen_ok (hc.2 s hs) x hx
  rw [if_neg k4] at hc hq
  have hs : e.scan = [] := by rw [← hq]
  rw [hs, kindL_0 k1 k2 k3 k4] at hx
  simp at hx
theorem ts_ok {h : Hist} {ts : List Int} (ht : tsB h ts = true) : ∀ x ∈ tsL ts, OkN h x := by
  simp only [tsB, Bool.and_eq_true, List.all_eq_true, toldB_iff] at ht
  intro x hx
  simp only [tsL, List.mem_map] at hx
  obtain ⟨t, h1, rfl⟩ := hx
  exact ⟨by simp, (ht.2 t h1).1, (ht.2 t h1).2⟩
theorem shaped_parts {h : Hist} (hs : shapedB h = true) : okK h 4 = true ∧ (∀ e ∈ h.evs, eventB h e = true) ∧ (∀ r ∈ h.ords, ordB h r = true) ∧ (∀ r ∈ h.mats, matB h r = true) ∧ ∀ r ∈ h.wants, wanB h r = true := by
  simp only [shapedB, Bool.and_eq_true, List.all_eq_true] at hs
  exact ⟨hs.1.1.1.1, hs.1.1.1.2, hs.1.1.2, hs.1.2, hs.2⟩
theorem shaped_ok {h : Hist} (hs : shapedB h = true) : ∀ x ∈ spokenL h, OkN h x := by
  obtain ⟨_, h1, h2, h3, h4⟩ := shaped_parts hs
  intro x hx
  simp only [spokenL, List.mem_append, List.mem_flatMap] at hx
  rcases hx with ⟨e, he, hx⟩ | ⟨r, hr, hx⟩ | ⟨r, hr, hx⟩ | ⟨r, hr, hx⟩
  · exact ev_ok (h1 e he) x hx
  · have := h2 r hr
    simp only [ordB, Bool.and_eq_true, toldB_iff] at this
    simp only [ordL, List.mem_cons] at hx
    rcases hx with rfl | hx
    · exact ⟨by simp, this.1.1, this.1.2⟩
    · exact ts_ok this.2 x hx
  · have := h3 r hr
    simp only [matB, Bool.and_eq_true, toldB_iff] at this
    simp only [matL, List.mem_cons] at hx
    rcases hx with rfl | rfl | hx
    · exact ⟨by simp, this.1.1.1, this.1.1.2⟩
    · exact ⟨by simp, this.1.2.1, this.1.2.2⟩
    · exact ts_ok this.2 x hx
  · have := h4 r hr
    simp only [wanB, Bool.and_eq_true, toldB_iff] at this
    simp only [wanL, List.mem_singleton] at hx
    subst hx
    exact ⟨by simp, this.1.1.1, this.1.1.2⟩
/-! When a history may be. -/
theorem get4 {m : List Int} (hl : m.length = 4) {k : Nat} (hk : k < 4) : (m.map iv)[0 + k * 1]? = some (iv (m.getD k 0)) := by
  have h : k < m.length := by omega
  simp [h]
theorem set4 {m : List Int} (hl : m.length = 4) {k : Nat} (hk : k < 4) (v : Int) : (m.map iv).take (0 + k * 1) ++ [iv v] ++ (m.map iv).drop (0 + k * 1 + 1) = (m.set k v).map iv := by
  match m, hl with
  | [a, b, c, d], _ =>
    match k, hk with
    | 0, _ => rfl
    | 1, _ => rfl
    | 2, _ => rfl
    | 3, _ => rfl
theorem check_no {h : Hist} (hs : shapedB h = false) : checkE h = 210 := by simp [checkE, mayB, hs]
theorem check_none {h : Hist} (hm : manyL h = none) : checkE h = 210 := by
  have e : (manyL h == some (lensL h)) = false := by rw [hm]; rfl
  rw [checkE, mayB, e, Bool.and_false]; rfl
theorem lens_get (h : Hist) {k : Nat} (hk : k < 4) : (lensL h).getD k 0 = (nmK h k).length := by
  match k, hk with
  | 0, _ => rfl
  | 1, _ => rfl
  | 2, _ => rfl
  | 3, _ => rfl
theorem check_ne {h : Hist} {m : List Int} (hm : manyL h = some m) {k : Nat} (hk : k < 4) (hne : m.getD k 0 ≠ (nmK h k).length) : checkE h = 210 := by
  have e : (manyL h == some (lensL h)) = false := by
    rw [hm]
    simp only [Option.some_beq_some, beq_eq_false_iff_ne]
    rintro rfl
    exact hne (lens_get h hk)
  rw [checkE, mayB, e, Bool.and_false]; rfl
theorem check_eq {h : Hist} (hs : shapedB h = true) {m : List Int} (hm : manyL h = some m) (hl : m.length = 4) (he : ∀ k, k < 4 → m.getD k 0 = (nmK h k).length) : checkE h = 0 := by
  have e : m = lensL h := by
    match m, hl with
    | [a, b, c, d], _ =>
      have h0 := he 0 (by omega); have h1 := he 1 (by omega); have h2 := he 2 (by omega); have h3 := he 3 (by omega)
      simp [nmK] at h0 h1 h2 h3
      simp [lensL, h0, h1, h2, h3]
  rw [checkE, mayB, hs, hm, e]; simp
theorem check_0 {h : Hist} : checkE h = 0 ↔ mayB h = true := by unfold checkE; split <;> simp_all
end Go.H
/- Histories in memory of their own: how they stand. Conditions: none (definitions, and lemmas over lists). -/
set_option linter.unusedVariables false
namespace Go.H
open Go Go.Ab
structure NV where
  vT : SV
  vS : SV
  vO : SV
  vP : SV
structure OH where
  vE : SV
  vR : SV
  vM : SV
  vW : SV
  ts : List ByteArray
  ss : List ByteArray
  os : List ByteArray
  ps : List ByteArray
  evs : List (SV × Ev)
  ords : List (SV × Ord)
  mats : List (SV × Mat)
  wants : List Wan
def nilA : AV := .v (.slice none 0 0)
def histZ : List AV := [nilA, nilA, nilA, nilA, nilA, nilA, nilA, nilA]
theorem one_map {α : Type} {R : α → List AV} (h : ∀ a, (R a).all AV.one = true) (l : List α) : ∀ r ∈ l.map R, r.all AV.one = true := by
  intro r hr; obtain ⟨a, _, rfl⟩ := List.mem_map.1 hr; exact h a
theorem one_int (l : List Int) : ∀ r ∈ l.map intR, r.all AV.one = true := one_map (fun a => rfl) l
section
variable {α β : Type} {f : α → List AV} {g : β → List AV} {xs : List α} {l : List β} {k : Nat} {b : β} {a : α} {r : List AV}
end
theorem shaped_lim {h : Hist} (hs : shapedB h = true) : Lim 3000 h := by
  obtain ⟨h0, h1, h2, h3, h4⟩ := shaped_parts hs
  have hk : ∀ k, k < 4 → okK h (k + 1) = true := fun k hk => by
    cases hq : okK h (k + 1) with
    | true => rfl
    | false =>
      have := okK_false hq (3 - k)
      rw [show k + 1 + (3 - k) = 4 by omega, h0] at this; cases this
  have hn : ∀ k, k < 4 → (nmK h k).length ≤ 300 := fun k hk4 => by
    have := hk k hk4
    simp only [okK, namesB, Bool.and_eq_true, decide_eq_true_eq] at this
    have h5 : limK k ≤ 300 := by
      match k, hk4 with
      | 0, _ => decide
      | 1, _ => decide
      | 2, _ => decide
      | 3, _ => decide
    omega
  have hz : okK h 0 = true := by
    cases hq : okK h 0 with
    | true => rfl
    | false => have := okK_false hq 4; rw [h0] at this; cases this
  simp only [okK, sizesB, Bool.and_eq_true, decide_eq_true_eq] at hz
  refine ⟨by have := hn 0 (by omega); simp [nmK] at this; omega, by have := hn 1 (by omega); simp [nmK] at this; omega, by have := hn 2 (by omega); simp [nmK] at this; omega, by have := hn 3 (by omega); simp [nmK] at this; omega, by omega, by omega, by omega, by omega, fun e he => ?_, fun o ho => ?_, fun m hm => ?_⟩
  · obtain ⟨_, _, _, hc, hq⟩ := event_parts (h1 e he)
    rw [← hq]
    show (cand h e).1.scan.length ≤ 3000
    unfold cand at hc ⊢
    repeat' split
    all_goals first | (simp only [List.length_nil]; omega) | skip
    rename_i g1 g2 g3 g4
    rw [if_neg g1, if_neg g2, if_neg g3, if_pos g4] at hc
    simp only [mayScan, Bool.and_eq_true, decide_eq_true_eq] at hc
    show e.scan.length ≤ 3000
    omega
  · have := h2 o ho
    simp only [ordB, tsB, Bool.and_eq_true, decide_eq_true_eq] at this
    omega
  · have := h3 m hm
    simp only [matB, tsB, Bool.and_eq_true, decide_eq_true_eq] at this
    omega
end Go.H
/- Going through a history and writing: plain laws of travH. Conditions: none (lemmas over lists). -/
set_option linter.unusedVariables false
namespace Go.H
open Go Go.Ab
section
variable {σ α : Type} (f : σ → Nat → Int → Int × σ)
end
section
variable {α : Type} {f : α → List AV} {A B : List α} {k : Nat} {b a : α} {r : List AV}
end
end Go.H
/- Completed: plain laws of what is open. Conditions: as each lemma states. -/
set_option linter.unusedVariables false
namespace Go.H
open Go Go.Ab
end Go.H
/- Numbered anew: what is known on the way, and how it stands in memory. Conditions: as each lemma states. -/
set_option linter.unusedVariables false
namespace Go.H
open Go Go.Ab
/-- All is in order with what is known. -/
structure KOk (h : Hist) (k : Olds) : Prop where
  four : k.length = 4
  nd : ∀ s, (k.getD s []).Nodup
  lt : ∀ s, ∀ n ∈ k.getD s [], 0 ≤ n ∧ n < (nmK h s).length
/-! How it stands in memory. -/
end Go.H
/- A history in memory of its own, given up, reads as plain lists. Conditions: none. -/
set_option linter.unusedVariables false
namespace Go.H
open Go Go.Ab
section
variable {w : World} {O O' : Nat → Prop}
theorem sc (x : Value) : ∀ u, Rel w O (.v x) u → Rel w O' (.v x) u := fun u r => (Scal.v x).rel r
theorem sn {x : Value} {b : AV} (h : Rel w O' b x) : ∀ u, Rel w O (.v x) u → Rel w O' b u := fun u r => by rw [r.v_eq]; exact h
end
end Go.H
/- The laws' own histories. Conditions: none (definitions). -/
set_option linter.unusedVariables false
namespace Go.H
open Go Go.Ab
def bT : ByteArray := ⟨#[116]⟩
def bS : ByteArray := ⟨#[115]⟩
def bX : ByteArray := ⟨#[120]⟩
def bY : ByteArray := ⟨#[121]⟩
def smallH : Hist := ⟨[bT], [bS], [bX], [], [⟨1, 0, 0, 1, 0, ⟨0, 0⟩, 0, []⟩, ⟨2, 0, 0, 0, 0, ⟨0, 1⟩, 0, []⟩, ⟨5, 0, 0, 0, 0, ⟨0, 0⟩, 0, []⟩], [], [], []⟩
/-! A history that can be gone through. -/
end Go.H
/- When two histories are the same; the law's small history is answered as it should be. Conditions: as each lemma states. -/
set_option linter.unusedVariables false
namespace Go.H
open Go Go.Ab
theorem intEq_eq (a b : Int) : intEq a b = decide (a = b) := rfl
theorem word_one {s : ByteArray} {c : Nat} (h1 : s.size = 1) (hc : c < 128) (hl : letB c = true) (hd : Utf8.decode s 0 = (c, 1)) (hne : (s.toList == []) = false) (hb : bt s 0 = c) (hn : numB c = false) : wordB s = true := by
  have hp : okRune s eitherB 0 ((Utf8.decode s 0).1 : Nat) = true := by
    rw [hd]
    have h2 : (((c : Nat) : Int) != 65533) = true := by simp; omega
    simp only [okRune, toldF, eitherB, hl, h2, Bool.true_or, Bool.and_true]
  have hw : whileF s (okRune s eitherB) 0 = s.size := by
    rw [whileF_go (by omega) hp, hd]
    exact whileF_end (by simp; omega)
  simp only [wordB, hne, hb, hn, hw, h1]; decide
theorem word_T : wordB bT = true := word_one (c := 116) rfl (by decide) (by decide) (by decide) (by rw [ByteArray.toList_eq]; rfl) (by decide) (by decide)
theorem word_S : wordB bS = true := word_one (c := 115) rfl (by decide) (by decide) (by decide) (by rw [ByteArray.toList_eq]; rfl) (by decide) (by decide)
theorem word_X : wordB bX = true := word_one (c := 120) rfl (by decide) (by decide) (by decide) (by rw [ByteArray.toList_eq]; rfl) (by decide) (by decide)
theorem word_Y : wordB bY = true := word_one (c := 121) rfl (by decide) (by decide) (by decide) (by rw [ByteArray.toList_eq]; rfl) (by decide) (by decide)
def openH : Hist := { smallH with evs := smallH.evs.take 2 }
def otherH : Hist := { smallH with os := [bY, bX], evs := [⟨1, 0, 0, 1, 0, ⟨0, 0⟩, 0, []⟩, ⟨2, 0, 0, 0, 1, ⟨0, 1⟩, 0, []⟩, ⟨5, 0, 0, 0, 0, ⟨0, 0⟩, 0, []⟩] }
theorem xy : memB bX [bY] = false := by decide
theorem shaped_small : shapedB smallH = true := by
  have h : okK smallH 4 = true := by
    simp only [okK, nmK, namesB, smallH, freshB, word_T, word_S, word_X, List.length_singleton, List.length_nil]; decide
  rw [shapedB, h]; decide
theorem shaped_open : shapedB openH = true := by
  have h : okK openH 4 = true := by
    simp only [okK, nmK, namesB, openH, smallH, freshB, word_T, word_S, word_X, List.length_singleton, List.length_nil]; decide
  rw [shapedB, h]; decide
theorem shaped_other : shapedB otherH = true := by
  have h : okK otherH 4 = true := by
    simp only [okK, nmK, namesB, otherH, smallH, freshB, word_T, word_S, word_X, word_Y, List.length_cons, List.length_nil, List.nil_append, xy]; decide
  rw [shapedB, h]; decide
theorem may_small : mayB smallH = true := by rw [mayB, shaped_small]; decide
theorem may_open : mayB openH = true := by rw [mayB, shaped_open]; decide
theorem w1 : complE openH = 0 := by rw [complE, may_open]; decide
theorem w2 : ofR smallH 0 = [0, 1, 2] := by rw [ofR, may_small]; decide
theorem w3 : numE otherH = 0 := by rw [numE, shaped_other]; rfl
theorem w4 : checkE otherH = 210 := by
  have : mayB otherH = false := by rw [mayB, shaped_other]; decide
  rw [checkE, this]; rfl
theorem w5 : complR openH = complH openH := by rw [complR, if_pos w1]
end Go.H
/- Plain laws for completed histories. Conditions: as each lemma states. -/
set_option linter.unusedVariables false
namespace Go.H
open Go Go.Ab
/-! Maps of marks. -/
end Go.H
/- A history whose events and orders are its own, given up, reads as plain lists. Conditions: none. -/
set_option linter.unusedVariables false
namespace Go.H
open Go Go.Ab
end Go.H
/- What the references of layer 11 answer. Conditions: none (definitions). -/
set_option linter.unusedVariables false
namespace Go.H
open Go Go.Ab
/-- Where a number stands in a row; -1: it is not there. -/
def atI (n : Int) : Nat → List Int → Int
  | _, [] => -1
  | i, x :: r => if x = n then (i : Int) else atI n (i + 1) r
end Go.H
/- The references' tests are the program's own. Conditions: none. -/
set_option linter.unusedVariables false
namespace Go.H
open Go Go.Ab
end Go.H
/- Runes: how many bytes one has. Conditions: as each lemma states. -/
set_option linter.unusedVariables false
set_option maxRecDepth 20000
namespace Go.H
open Go Go.Ab
end Go.H
/- A rune further on. Conditions: none. -/
set_option linter.unusedVariables false
set_option maxRecDepth 20000
namespace Go.H
open Go Go.Ab
end Go.H
/- The rune 65533: wrong bytes, or the three that are its own. Conditions: as each lemma states. -/
set_option linter.unusedVariables false
set_option maxRecDepth 20000
namespace Go.H
open Go Go.Ab
end Go.H
/- Words, by the reference: the same. Conditions: as each lemma states. -/
set_option linter.unusedVariables false
set_option maxRecDepth 20000
namespace Go.H
open Go Go.Ab
end Go.H
/- Steps of the reference's word; names that are words, each once. Conditions: as each lemma states. -/
set_option linter.unusedVariables false
namespace Go.H
open Go Go.Ab
end Go.H
/- The reference's rows of what is spoken of; a shaped history, by parts. Conditions: as each lemma states. -/
set_option linter.unusedVariables false
namespace Go.H
open Go Go.Ab
/-! What is spoken of, as the reference gathers it: rows by sorts. -/
abbrev Rw := Nat → List Int
def addF (l : List Int) (n : Int) : List Int := if atI n 0 l ≥ 0 then l else l ++ [n]
def addV (l : List Int) (v : Ver) : List Int := if v.k = 0 then l else addF l v.t
def stepF (L : Rw) (x : Nat × Int) : Rw := fun i => match Nat.beq i x.1 with
  | true => addF (L i) x.2
  | false => L i
def stepV (L : Rw) (v : Ver) : Rw := fun i => match Nat.beq i 0 with
  | true => addV (L i) v
  | false => L i
def stepS (L : Rw) (s : Seen) : Rw := stepV (stepF L (2, s.o)) s.v
def stepK (L : Rw) (e : Ev) : Rw :=
  if e.kind = 1 then stepF L (1, e.s) else if e.kind = 2 ∨ e.kind = 3 then stepV (stepF L (2, e.o)) e.v else if e.kind = 4 then stepF L (3, e.p) else L
def stepE (L : Rw) (e : Ev) : Rw := e.scan.foldl stepS (stepK (stepF L (0, e.t)) e)
end Go.H
/- The reference's Right is the program's test. Conditions: as each lemma states. -/
set_option linter.unusedVariables false
namespace Go.H
open Go Go.Ab
def upR (n : Nat) : List Int := (List.range n).map fun i : Nat => (i : Int)
theorem atI_iff (n : Int) : ∀ (l : List Int) (i : Nat), atI n i l ≥ 0 ↔ n ∈ l
  | [], i => by simp [atI]
  | x :: r, i => by
    unfold atI
    split
    · rename_i h; simp [h]
    · rename_i h
      rw [atI_iff n r (i + 1), List.mem_cons]
      constructor
      · intro k; exact .inr k
      · rintro (k | k)
        · exact absurd k.symm h
        · exact k
theorem addF_mem (l : List Int) (n : Int) : addF l n = if n ∈ l then l else l ++ [n] := by
  unfold addF
  by_cases h : n ∈ l
  · rw [if_pos ((atI_iff n l 0).2 h), if_pos h]
  · rw [if_neg (fun q => h ((atI_iff n l 0).1 q)), if_neg h]
theorem stepF_at (L : Rw) (x : Nat × Int) : stepF L x x.1 = addF (L x.1) x.2 := by
  unfold stepF; rw [Nat.beq_refl]
theorem stepF_ne (L : Rw) (x : Nat × Int) {i : Nat} (h : i ≠ x.1) : stepF L x i = L i := by
  unfold stepF
  rw [show Nat.beq i x.1 = false from by
    cases q : Nat.beq i x.1 with
    | false => rfl
    | true => exact absurd (Nat.eq_of_beq_eq_true q) h]
/-- Rows only grow. -/
theorem grow (xs : List (Nat × Int)) : ∀ (L : Rw) (s : Nat), ∃ m, xs.foldl stepF L s = L s ++ m := by
  induction xs with
  | nil => intro L s; exact ⟨[], by simp⟩
  | cons x xs ih =>
    intro L s
    obtain ⟨m, hm⟩ := ih (stepF L x) s
    rw [List.foldl_cons, hm]
    by_cases h : s = x.1
    · subst h
      rw [stepF_at, addF_mem]
      split
      · exact ⟨m, rfl⟩
      · exact ⟨x.2 :: m, by simp⟩
    · rw [stepF_ne _ _ h]; exact ⟨m, rfl⟩
def InvM (L : Rw) (m : List Int) : Prop := m.length = 4 ∧ ∀ s, s < 4 → 0 ≤ m.getD s 0 ∧ L s = upR (m.getD s 0).toNat
/-! The reference's steps are steps over what is spoken of. -/
end Go.H
/- The events of all transactions are the events. Conditions: as each lemma states. -/
set_option linter.unusedVariables false
namespace Go.H
open Go Go.Ab
theorem may_t {h : Hist} (hm : mayB h = true) : ∀ e ∈ h.evs, 0 ≤ e.t ∧ e.t < h.ts.length := by
  intro e he
  have hs : shapedB h = true := by unfold mayB at hm; simp only [Bool.and_eq_true] at hm; exact hm.1
  have := (shaped_parts hs).2.1 e he
  obtain ⟨_, _, ht, _⟩ := event_parts this
  exact (toldB_iff _ _).1 ht
end Go.H
/- The reference's Has, and who is open. Conditions: none. -/
set_option linter.unusedVariables false
namespace Go.H
open Go Go.Ab
def hasB (l : List Ev) (t c : Int) : Bool := !(l.all fun e => !(e.t == t && e.kind == c))
theorem hasB_any (l : List Ev) (t c : Int) : hasB l t c = l.any fun e => e.t == t && e.kind == c := by
  induction l with
  | nil => rfl
  | cons e l ih =>
    rw [List.any_cons, ← ih, hasB, List.all_cons, Bool.not_and, Bool.not_not]; rfl
end Go.H
namespace Go.H
open Go Go.Ab
end Go.H
/- What is wrong with histories: the program's rules and the reference's, as plain functions, and that they agree on shaped histories. Conditions: as each lemma states. -/
set_option linter.unusedVariables false
set_option linter.unusedSimpArgs false
namespace Go.H
open Go Go.Ab
/-- A transaction has begun, and is over, ahead; its writes of an object. -/
def begunB (l : List Ev) (t : Int) : Bool := hasB l t 1
def overB (l : List Ev) (t : Int) : Bool := l.any fun y => y.t == t && (y.kind == 5 || y.kind == 6)
def wroteL (l : List Ev) (t x : Int) : List Ev := l.filter fun y => y.kind == 2 && y.t == t && y.o == x
def lastV (l : List Ev) (t x : Int) : Option Ver := ((wroteL l t x).getLast?).map Ev.v
def thereB (l : List Ev) (x : Int) (v : Ver) : Bool := l.any fun y => y.kind == 2 && y.o == x && y.v == v
def seenOf (e : Ev) : List Seen := if e.kind = 3 then [⟨e.o, e.v⟩] else e.scan
/-- The program's rules of events. -/
def wrongP (rule : Nat) (e : Ev) (l : List Ev) : Bool :=
  match rule with
  | 1 => begunB l e.t == (e.kind == 1)
  | 2 => overB l e.t
  | 3 => e.kind == 2 && e.v.k != ((wroteL l e.t e.o).length : Int) + 1
  | 4 => (seenOf e).any fun s => decide (s.v.k > 0) && !thereB l s.o s.v
  | 5 => (seenOf e).any fun s => match lastV l e.t s.o with | some v => v != s.v | none => false
  | 6 => !decide ((e.scan.map Seen.o).Nodup)
  | _ => false
/-- The reference's. -/
def wrongR (rule : Nat) (e : Ev) (l : List Ev) : Bool :=
  match rule with
  | 1 => begunB l e.t && e.kind == 1 || !begunB l e.t && e.kind != 1
  | 2 => overB l e.t
  | 3 => e.kind == 2 && e.v.k != ((wroteL l e.t e.o).length : Int) + 1
  | 4 => (seenOf e).any fun s => !(s.v.k == 0 || thereB l s.o s.v)
  | 5 => (seenOf e).any fun s => match (wroteL l e.t s.o).getLast? with | some y => y.v != s.v | none => false
  | 6 => (List.range (seenOf e).length).any fun i => ((seenOf e).take i).any fun p => some p.o == ((seenOf e)[i]?).map Seen.o
  | _ => false
theorem wrong_1 (e : Ev) (l : List Ev) : wrongP 1 e l = wrongR 1 e l := by
  simp only [wrongP, wrongR]
  cases begunB l e.t <;> cases h : (e.kind == 1) <;> simp_all
theorem ver_le {ts : List ByteArray} {v : Ver} (h : verB ts v = true) : 0 ≤ v.k := by
  unfold verB at h
  split at h
  · rename_i h0; simp at h0; omega
  · simp only [Bool.and_eq_true, decide_eq_true_eq] at h; omega
theorem wrong_4 {e : Ev} {l : List Ev} (h : ∀ s ∈ seenOf e, 0 ≤ s.v.k) : wrongP 4 e l = wrongR 4 e l := by
  simp only [wrongP, wrongR]
  rw [Bool.eq_iff_iff]
  simp only [List.any_eq_true, Bool.and_eq_true, decide_eq_true_eq, Bool.not_eq_true', Bool.or_eq_false_iff, beq_eq_false_iff_ne]
  constructor
  · rintro ⟨s, hs, h0, h1⟩; exact ⟨s, hs, by omega, h1⟩
  · rintro ⟨s, hs, h0, h1⟩; exact ⟨s, hs, by have := h s hs; omega, h1⟩
theorem wrong_5 (e : Ev) (l : List Ev) : wrongP 5 e l = wrongR 5 e l := by
  simp only [wrongP, wrongR, lastV]
  congr 1; funext s
  cases (wroteL l e.t s.o).getLast? <;> rfl
theorem dup_any (l : List Seen) : ((List.range l.length).any fun i => (l.take i).any fun p => some p.o == (l[i]?).map Seen.o) = !decide ((l.map Seen.o).Nodup) := by
  rw [Bool.eq_iff_iff]
  simp only [List.any_eq_true, List.mem_range, Bool.not_eq_true', decide_eq_false_iff_not, beq_iff_eq]
  rw [show (l.map Seen.o).Nodup ↔ _ from List.pairwise_iff_getElem]
  constructor
  · rintro ⟨i, hi, p, hp, he⟩ hn
    obtain ⟨j, hj, rfl⟩ := List.mem_iff_getElem.1 hp
    rw [List.length_take] at hj
    refine hn j i (by simp; omega) (by simpa using hi) (by omega) ?_
    rw [List.getElem?_eq_getElem hi, List.getElem_take] at he
    rw [List.getElem_map, List.getElem_map]
    exact Option.some.inj he
  · intro hn
    simp only [Classical.not_forall] at hn
    obtain ⟨i, j, hi, hj, hij, he⟩ := hn
    have hi' := hi; have hj' := hj
    rw [List.length_map] at hi' hj'
    have he := Classical.not_not.1 he
    rw [List.getElem_map, List.getElem_map] at he
    refine ⟨j, hj', l[i], ?_, ?_⟩
    · rw [List.mem_take_iff_getElem]; exact ⟨i, by omega, rfl⟩
    · rw [List.getElem?_eq_getElem hj', Option.map_some, he]
theorem wrong_6 {e : Ev} {l : List Ev} (h : e.kind = 3 → e.scan = []) : wrongP 6 e l = wrongR 6 e l := by
  simp only [wrongP, wrongR]
  rw [dup_any]
  unfold seenOf
  split
  · rename_i h2; rw [h h2]; rfl
  · rfl
theorem ev_seen {h : Hist} {e : Ev} (he : eventB h e = true) : (∀ s ∈ seenOf e, 0 ≤ s.v.k) ∧ (e.kind = 3 → e.scan = []) := by
  obtain ⟨h1, h7, ht, hc, hq⟩ := event_parts he
  refine ⟨fun s hs => ?_, fun h3 => ?_⟩
  · unfold seenOf at hs
    split at hs
    · rename_i h3
      rw [List.mem_singleton] at hs; subst hs
      rw [cand, if_neg (by omega), if_neg (by omega), if_pos h3] at hc
      simp only [mayRead, Bool.and_eq_true] at hc
      exact ver_le hc.2
    · rename_i h3
      by_cases h4 : e.kind = 4
      · rw [cand, if_neg (by omega), if_neg (by omega), if_neg h3, if_pos h4] at hc
        simp only [mayScan, Bool.and_eq_true, List.all_eq_true] at hc
        have := hc.2 s hs
        simp only [seenB, Bool.and_eq_true] at this
        exact ver_le this.2
      · have : e.scan = [] := by
          rw [← hq]; simp only [cand]
          repeat' split
          all_goals first | rfl | omega
        rw [this] at hs; cases hs
  · rw [← hq]; simp only [cand, if_neg (show ¬ e.kind = 1 by omega), if_neg (show ¬ e.kind = 2 by omega), if_pos h3]
end Go.H
/- Writers, orders, matches, wants: the program's rules and the reference's agree. Conditions: as each lemma states. -/
set_option linter.unusedVariables false
set_option linter.unusedSimpArgs false
namespace Go.H
open Go Go.Ab
def srt (l : List Int) : List Int := l.mergeSort (fun x y => decide (x ≤ y))
/-- A row without what follows its like. -/
def cmpct : List Int → List Int
  | [] => []
  | [x] => [x]
  | x :: y :: r => if x = y then cmpct (y :: r) else x :: cmpct (y :: r)
theorem cmpct_mem (z : Int) : ∀ l : List Int, z ∈ cmpct l ↔ z ∈ l
  | [] => Iff.rfl
  | [x] => Iff.rfl
  | x :: y :: r => by
    rw [cmpct]
    split
    · rename_i h; subst h; rw [cmpct_mem z (x :: r)]; simp
    · rw [List.mem_cons, cmpct_mem z (y :: r), List.mem_cons (a := z) (b := x)]
theorem cmpct_lt : ∀ l : List Int, l.Pairwise (· ≤ ·) → (cmpct l).Pairwise (· < ·)
  | [], _ => .nil
  | [x], _ => by simp [cmpct]
  | x :: y :: r, h => by
    rw [cmpct]
    obtain ⟨h1, h2⟩ := List.pairwise_cons.1 h
    split
    · exact cmpct_lt _ h2
    · rename_i hne
      refine List.pairwise_cons.2 ⟨fun z hz => ?_, cmpct_lt _ h2⟩
      rw [cmpct_mem] at hz
      obtain ⟨h3, h4⟩ := List.pairwise_cons.1 h2
      have hxy := h1 y (by simp)
      rcases List.mem_cons.1 hz with rfl | hz
      · omega
      · have := h3 z hz; omega
theorem cmpct_len : ∀ l : List Int, (cmpct l).length ≤ l.length
  | [] => by simp [cmpct]
  | [x] => by simp [cmpct]
  | x :: y :: r => by
    rw [cmpct]; have := cmpct_len (y :: r)
    split <;> simp only [List.length_cons] at * <;> omega
theorem cmpct_full : ∀ l : List Int, (cmpct l).length = l.length → cmpct l = l
  | [], _ => rfl
  | [x], _ => rfl
  | x :: y :: r, h => by
    rw [cmpct] at h ⊢
    have hl := cmpct_len (y :: r)
    split at h
    · simp only [List.length_cons] at h hl; omega
    · rename_i hne
      rw [if_neg hne, cmpct_full (y :: r) (by simpa using h)]
theorem srt_perm (l : List Int) : (srt l).Perm l := List.mergeSort_perm _ _
theorem srt_le (l : List Int) : (srt l).Pairwise (· ≤ ·) := by
  have := List.pairwise_mergeSort (le := fun x y : Int => decide (x ≤ y)) (by intro a b c; simp; omega) (by intro a b; simp; omega) l
  exact this.imp (by simp)
theorem lt_nodup {l : List Int} (h : l.Pairwise (· < ·)) : l.Nodup := h.imp (fun h e => by omega)
theorem cmpct_nodup : ∀ l : List Int, l.Nodup → cmpct l = l
  | [], _ => rfl
  | [x], _ => rfl
  | x :: y :: r, h => by
    obtain ⟨h1, h2⟩ := List.nodup_cons.1 h
    rw [cmpct, if_neg (by rintro rfl; exact h1 (by simp)), cmpct_nodup _ h2]
/-- Each once: sorted and without repetition it is as long. -/
theorem once_nodup (l : List Int) : (cmpct (srt l)).length = l.length ↔ l.Nodup := by
  have hl : (srt l).length = l.length := (srt_perm l).length_eq
  constructor
  · intro h
    have e := cmpct_full (srt l) (by rw [h, hl])
    have := lt_nodup (cmpct_lt _ (srt_le l))
    rw [e] at this
    exact (srt_perm l).nodup_iff.1 this
  · intro h
    rw [cmpct_nodup _ ((srt_perm l).nodup_iff.2 h), hl]
/-- Two rising rows of the same are one. -/
theorem lt_ext : ∀ (l m : List Int), l.Pairwise (· < ·) → m.Pairwise (· < ·) → (∀ z, z ∈ l ↔ z ∈ m) → l = m := by
  intro l m hl hm h
  refine List.Perm.eq_of_pairwise (le := (· ≤ ·)) (fun a b _ _ h1 h2 => by omega) (hl.imp (fun h => by omega)) (hm.imp (fun h => by omega)) ?_
  exact (List.perm_ext_iff_of_nodup (lt_nodup hl) (lt_nodup hm)).2 h
/-- The program's writers of an object, and the reference's. -/
def writersP (l : List Ev) (x : Int) : List Int := cmpct (srt ((l.filter fun e => e.kind == 2 && e.o == x && l.any fun y => y.t == e.t && y.kind == 5).map Ev.t))
def writersR (h : Hist) (x : Int) : List Int := ((upR h.ts.length).filter fun t => (h.evs.any fun e => e.kind == 2 && e.t == t && e.o == x) && hasB h.evs t 5)
theorem writers_eq {h : Hist} (ht : ∀ e ∈ h.evs, 0 ≤ e.t ∧ e.t < h.ts.length) (x : Int) (hu : (upR h.ts.length).Pairwise (· < ·)) (hm : ∀ z, z ∈ upR h.ts.length ↔ 0 ≤ z ∧ z < h.ts.length) : writersP h.evs x = writersR h x := by
  refine lt_ext _ _ (cmpct_lt _ (srt_le _)) (hu.filter _) fun z => ?_
  rw [writersP, cmpct_mem, (srt_perm _).mem_iff]
  simp only [writersR, hasB_any, List.mem_map, List.mem_filter, hm, Bool.and_eq_true, List.any_eq_true, beq_iff_eq]
  constructor
  · rintro ⟨e, ⟨he, ⟨h2, h3⟩, y, hy, h4, h5⟩, rfl⟩
    exact ⟨ht e he, ⟨e, he, ⟨h2, rfl⟩, h3⟩, y, hy, h4, h5⟩
  · rintro ⟨_, ⟨e, he, ⟨h2, rfl⟩, h3⟩, y, hy, h4, h5⟩
    exact ⟨e, ⟨he, ⟨h2, h3⟩, y, hy, h4, h5⟩, rfl⟩
/-- Some of others, each once. -/
def onceP (ts f : List Int) : Bool := decide ((cmpct (srt ts)).length = ts.length) && !ts.any fun t => !f.contains t
def someR (ts f : List Int) : Bool := decide ts.Nodup && ts.all fun t => f.contains t
theorem once_some (ts f : List Int) : onceP ts f = someR ts f := by
  unfold onceP someR
  rw [Bool.eq_iff_iff]
  simp only [Bool.and_eq_true, decide_eq_true_eq, once_nodup, List.all_eq_true, Bool.not_eq_true', List.any_eq_false, Bool.not_eq_true, Bool.not_eq_false', Bool.not_eq_false]
theorem nodup_le : ∀ (ts f : List Int), ts.Nodup → (∀ t ∈ ts, t ∈ f) → ts.length ≤ f.length
  | [], f, _, _ => by simp
  | t :: r, f, hn, hs => by
    obtain ⟨h1, h2⟩ := List.nodup_cons.1 hn
    have ht := hs t (by simp)
    have := nodup_le r (f.erase t) h2 (fun z hz => (List.mem_erase_of_ne (by rintro rfl; exact h1 hz)).2 (hs z (by simp [hz])))
    rw [List.length_erase_of_mem ht] at this
    have := List.length_pos_of_mem ht
    rw [List.length_cons]; omega
/-- All, each once: the same length is enough. -/
theorem some_len {ts f : List Int} (hf : f.Nodup) (h : someR ts f = true) : decide (ts.length = f.length) = someR f ts := by
  simp only [someR, Bool.and_eq_true, decide_eq_true_eq, List.all_eq_true, List.contains_iff_mem] at h
  rw [Bool.eq_iff_iff]
  simp only [someR, Bool.and_eq_true, decide_eq_true_eq, List.all_eq_true, List.contains_iff_mem]
  constructor
  · intro e
    refine ⟨hf, fun t ht => Classical.byContradiction fun hn => ?_⟩
    have := nodup_le (t :: ts) f (List.nodup_cons.2 ⟨hn, h.1⟩) (fun z hz => by rcases List.mem_cons.1 hz with rfl | hz; exact ht; exact h.2 z hz)
    rw [List.length_cons] at this; omega
  · rintro ⟨_, hs⟩
    exact Nat.le_antisymm (nodup_le _ _ h.1 h.2) (nodup_le _ _ hf hs)
end Go.H
/- The rules of rows, the first place and the first rule: the program's and the reference's agree on histories that may be. Conditions: as each lemma states. -/
set_option linter.unusedVariables false
set_option linter.unusedSimpArgs false
namespace Go.H
open Go Go.Ab
theorem upR_mem (n : Nat) (z : Int) : z ∈ upR n ↔ 0 ≤ z ∧ z < n := by
  simp only [upR, List.mem_map, List.mem_range]
  constructor
  · rintro ⟨i, hi, rfl⟩; omega
  · rintro ⟨h0, h1⟩; exact ⟨z.toNat, by omega, by omega⟩
theorem upR_lt (n : Nat) : (upR n).Pairwise (· < ·) := by
  rw [upR, List.pairwise_map]
  exact List.pairwise_lt_range.imp (fun h => by omega)
theorem writers_may {h : Hist} (hm : mayB h = true) (x : Int) : writersP h.evs x = writersR h x :=
  writers_eq (may_t hm) x (upR_lt _) (upR_mem _)
theorem writers_nodup (l : List Ev) (x : Int) : (writersP l x).Nodup := lt_nodup (cmpct_lt _ (srt_le _))
def orderP (h : Hist) (i : Nat) (r : Ord) : Bool := ((h.ords.take i).any fun p => p.o == r.o) || !onceP r.ts (writersP h.evs r.o) || !decide (r.ts.length = (writersP h.evs r.o).length)
def orderR (h : Hist) (i : Nat) (r : Ord) : Bool := ((h.ords.take i).any fun p => p.o == r.o) || !someR r.ts (writersR h r.o) || !someR (writersR h r.o) r.ts
theorem order_eq {h : Hist} (hm : mayB h = true) (i : Nat) (r : Ord) : orderP h i r = orderR h i r := by
  unfold orderP orderR
  rw [once_some, ← writers_may hm]
  cases hs : someR r.ts (writersP h.evs r.o) with
  | false => simp
  | true => rw [some_len (writers_nodup _ _) hs]
def missP (h : Hist) (x : Int) : Bool := decide (1 < (writersP h.evs x).length) && !h.ords.any fun r => r.o == x
def missR (h : Hist) (x : Int) : Bool := !(h.ords.any fun r => r.o == x) && decide (2 ≤ (writersR h x).length)
theorem miss_eq {h : Hist} (hm : mayB h = true) (x : Int) : missP h x = missR h x := by
  unfold missP missR
  rw [← writers_may hm, Bool.and_comm]
  rfl
def matchP (h : Hist) (i : Nat) (r : Mat) : Bool := ((h.mats.take i).any fun p => p.p == r.p && p.o == r.o) || !onceP r.ts (writersP h.evs r.o)
def matchR (h : Hist) (i : Nat) (r : Mat) : Bool := ((h.mats.take i).any fun p => p.p == r.p && p.o == r.o) || !someR r.ts (writersR h r.o)
theorem match_eq {h : Hist} (hm : mayB h = true) (i : Nat) (r : Mat) : matchP h i r = matchR h i r := by
  unfold matchP matchR; rw [once_some, ← writers_may hm]
def wantW (h : Hist) (i : Nat) (r : Wan) : Bool := ((h.wants.take i).any fun p => p.s == r.s) || !h.evs.any fun e => e.kind == 1 && e.s == r.s
/-- The first place of a row at which something is wrong. -/
def rowF {α : Type} (w : Nat → α → Bool) : Nat → List α → Option Nat
  | _, [] => none
  | i, x :: r => if w i x then some i else rowF w (i + 1) r
theorem rowF_congr {α : Type} {w v : Nat → α → Bool} : ∀ (l : List α) (i : Nat), (∀ x ∈ l, ∀ i, w i x = v i x) → rowF w i l = rowF v i l
  | [], _, _ => rfl
  | x :: r, i, h => by rw [rowF, rowF, h x (by simp), rowF_congr r (i + 1) (fun y hy => h y (by simp [hy]))]
def placeP (h : Hist) (rule : Nat) : Option Nat :=
  match rule with
  | 7 => rowF (orderP h) 0 h.ords
  | 8 => rowF (fun x _ => missP h (x : Int)) 0 h.os
  | 9 => rowF (matchP h) 0 h.mats
  | 10 => rowF (wantW h) 0 h.wants
  | r => rowF (fun i e => wrongP r e (h.evs.take i)) 0 h.evs
def placeR (h : Hist) (rule : Nat) : Option Nat :=
  match rule with
  | 7 => rowF (orderR h) 0 h.ords
  | 8 => rowF (fun x _ => missR h (x : Int)) 0 h.os
  | 9 => rowF (matchR h) 0 h.mats
  | 10 => rowF (wantW h) 0 h.wants
  | r => rowF (fun i e => wrongR r e (h.evs.take i)) 0 h.evs
theorem wrong_eq {h : Hist} {e : Ev} (he : eventB h e = true) (l : List Ev) : ∀ r, wrongP r e l = wrongR r e l
  | 0 => rfl
  | 1 => wrong_1 e l
  | 2 => rfl
  | 3 => rfl
  | 4 => wrong_4 (ev_seen he).1
  | 5 => wrong_5 e l
  | 6 => wrong_6 (ev_seen he).2
  | _ + 7 => rfl
theorem place_eq {h : Hist} (hm : mayB h = true) (rule : Nat) : placeP h rule = placeR h rule := by
  have hs : shapedB h = true := by unfold mayB at hm; simp only [Bool.and_eq_true] at hm; exact hm.1
  have hE := (shaped_parts hs).2.1
  unfold placeP placeR
  split
  · exact rowF_congr _ _ fun r _ i => order_eq hm i r
  · exact rowF_congr _ _ fun r _ i => miss_eq hm _
  · exact rowF_congr _ _ fun r _ i => match_eq hm i r
  · rfl
  · exact rowF_congr _ _ fun e he i => wrong_eq (hE e he) _ _
/-- The first rule that is broken, and where. -/
def firstIn (p : Nat → Option Nat) : List Nat → Option (Nat × Nat)
  | [] => none
  | r :: l => match p r with | some i => some (r, i) | none => firstIn p l
def rules10 : List Nat := [1, 2, 3, 4, 5, 6, 7, 8, 9, 10]
theorem first_eq {h : Hist} (hm : mayB h = true) : firstIn (placeP h) rules10 = firstIn (placeR h) rules10 := by
  rw [show placeP h = placeR h from funext (place_eq hm)]
theorem first_none {p : Nat → Option Nat} : ∀ {l : List Nat}, firstIn p l = none → ∀ q ∈ l, p q = none
  | [], _, q, hq => by cases hq
  | a :: l, h, q, hq => by
    rw [firstIn] at h
    cases ha : p a with
    | some j => rw [ha] at h; cases h
    | none => rw [ha] at h; rcases List.mem_cons.1 hq with rfl | hq; exact ha; exact first_none h q hq
end Go.H
/- A well-formed history, completed, is well-formed, and has the same writers. Conditions: as each lemma states. -/
set_option linter.unusedVariables false
set_option linter.unusedSimpArgs false
namespace Go.H
open Go Go.Ab
theorem rowF_none {α : Type} {w : Nat → α → Bool} : ∀ (l : List α) (i : Nat), rowF w i l = none ↔ ∀ j, (h : j < l.length) → w (i + j) l[j] = false
  | [], i => by simp [rowF]
  | x :: r, i => by
    rw [rowF]
    constructor
    · intro h j hj
      split at h
      · cases h
      · rename_i h0
        cases j with
        | zero => simpa using h0
        | succ j =>
          have := (rowF_none r (i + 1)).1 h j (by simpa using hj)
          rw [show i + (j + 1) = i + 1 + j by omega]; exact this
    · intro h
      have h0 : w i x = false := h 0 (Nat.zero_lt_succ _)
      rw [if_neg (by rw [h0]; decide)]
      refine (rowF_none r (i + 1)).2 fun j hj => ?_
      have := h (j + 1) (by simpa using hj)
      rw [show i + 1 + j = i + (j + 1) by omega]; exact this
end Go.H
/- The first rule that is broken, as an answer. Conditions: as each lemma states. -/
set_option linter.unusedVariables false
namespace Go.H
open Go Go.Ab
theorem rules10_at {k : Nat} (h1 : 1 ≤ k) (h2 : k ≤ 10) : rules10.drop (k - 1) = k :: rules10.drop k := by
  have : ∀ k, k < 11 → 1 ≤ k → rules10.drop (k - 1) = k :: rules10.drop k := by decide
  exact this k (by omega) h1
theorem first_step {p : Nat → Option Nat} {k : Nat} (h1 : 1 ≤ k) (h2 : k ≤ 10) (hz : firstIn p rules10 = firstIn p (rules10.drop (k - 1))) (hp : p k = none) : firstIn p rules10 = firstIn p (rules10.drop (k + 1 - 1)) := by
  rw [hz, rules10_at h1 h2, firstIn, hp]; rfl
theorem first_hit {p : Nat → Option Nat} {k i : Nat} (h1 : 1 ≤ k) (h2 : k ≤ 10) (hz : firstIn p rules10 = firstIn p (rules10.drop (k - 1))) (hp : p k = some i) : firstIn p rules10 = some (k, i) := by
  rw [hz, rules10_at h1 h2, firstIn, hp]
theorem first_over {p : Nat → Option Nat} {k : Nat} (h1 : 11 ≤ k) (h2 : k ≤ 11) (hz : firstIn p rules10 = firstIn p (rules10.drop (k - 1))) : firstIn p rules10 = none := by
  obtain rfl : k = 11 := by omega
  rw [hz]; rfl
/-- What is wrong with a history. -/
def firstH (h : Hist) : Option (Nat × Nat) := firstIn (placeP h) rules10
def brkC : Option (Nat × Nat) → List AV
  | some (r, i) => [iv r, iv i]
  | none => [iv 0, iv 0]
def soundB (h : Hist) : Bool := mayB h && (firstH h).isNone
def firstAns (h : Hist) : AV := if mayB h = true then .tup [.agg (brkC (firstH h)), bv (firstH h).isSome, iv 0] else .tup [.agg [iv 0, iv 0], bv false, iv 210]
def natI : Option Nat → Int
  | some n => n
  | none => 0
theorem brk_two (o : Option (Nat × Nat)) : ∃ i j, brkC o = [iv i, iv j] := by
  cases o with
  | none => exact ⟨_, _, rfl⟩
  | some p => exact ⟨_, _, rfl⟩
theorem firstAns_tup (h : Hist) : ∃ i j b e, firstAns h = .tup [.agg [iv i, iv j], bv b, iv e] ∧ soundB h = ((e == 0) && !b) := by
  unfold firstAns soundB
  obtain ⟨i, j, hb⟩ := brk_two (firstH h)
  by_cases hm : mayB h = true
  · rw [if_pos hm, hm, hb]; refine ⟨_, _, _, _, rfl, ?_⟩; cases firstH h <;> rfl
  · rw [if_neg hm, Bool.eq_false_iff.2 hm]; exact ⟨_, _, _, _, rfl, rfl⟩
end Go.H
/- The law's small histories of layer 15, and what is wrong with them. Conditions: none. -/
set_option linter.unusedVariables false
namespace Go.H
open Go Go.Ab
end Go.H
/- RulesEnds, as the law asks it. Conditions: as each lemma states. -/
set_option linter.unusedVariables false
namespace Go.H
open Go Go.Ab
theorem sound_may {h : Hist} (hs : soundB h = true) : mayB h = true ∧ firstIn (placeP h) rules10 = none := by
  unfold soundB at hs
  simp only [Bool.and_eq_true, Option.isNone_iff_eq_none] at hs
  exact hs
end Go.H
/- Numbered anew: what is told by a plain function of the old numbers; numbered once more it is the same. Conditions: as each lemma states. -/
set_option linter.unusedVariables false
namespace Go.H
open Go Go.Ab
section
variable (ρ : Nat → Int → Int)
end
section
variable {σ : Type} {f : σ → Nat → Int → Int × σ} {ρ : Nat → Int → Int}
variable (f) in
def after : σ → List (Nat × Int) → σ
  | s, [] => s
  | s, x :: l => after (f s x.1 x.2).2 l
end
/-! What is spoken of, renumbered. -/
section
variable (ρ : Nat → Int → Int)
end
/-! Renumbered by nothing. -/
end Go.H
/- Numbered once more it is the same. Conditions: as each lemma states. -/
set_option linter.unusedVariables false
namespace Go.H
open Go Go.Ab
/-- As many are told as are known. -/
structure Cnt (k : Olds) (m : List Int) : Prop where
  k4 : k.length = 4
  m4 : m.length = 4
  eq : ∀ s, s < 4 → m.getD s 0 = (k.getD s []).length
/-! One that may be is numbered as it is. -/
def rangeI (m : Nat) : List Int := (List.range m).map Int.ofNat
structure Rng (k : Olds) (m : List Int) : Prop where
  cnt : Cnt k m
  rg : ∀ s, s < 4 → k.getD s [] = rangeI (k.getD s []).length
end Go.H
/- Numbered anew a history may be; by names it tells the same. Conditions: as each lemma states. -/
set_option linter.unusedVariables false
namespace Go.H
open Go Go.Ab
section
variable {h : Hist} (hs : shapedB h = true)
include hs
end
section
variable {h n : Hist} {ρ : Nat → Int → Int}
end
end Go.H
/- The reference numbers anew as the program does. Conditions: as each lemma states. -/
set_option linter.unusedVariables false
namespace Go.H
open Go Go.Ab
/-! The reference's rows. -/
end Go.H
/- The reference's small questions on rows. Conditions: as each lemma states. -/
set_option linter.unusedVariables false
set_option linter.unusedSimpArgs false
namespace Go.H
open Go Go.Ab
/-- Writers, up to a place. -/
def wroteQ (t x : Int) (e : Ev) : Bool := e.kind == 2 && e.t == t && e.o == x
theorem upR_s (k : Nat) : upR (k + 1) = upR k ++ [(k : Int)] := by simp [upR, List.range_succ]
section
variable {h : Hist} {i : Nat}
end
section
variable {l : List Ev} {t x : Int} {k : Nat}
end
end Go.H
/- The reference's question on an event. Conditions: as each lemma states. -/
set_option linter.unusedVariables false
set_option linter.unusedSimpArgs false
namespace Go.H
open Go Go.Ab
end Go.H
/- The reference's Place, by a question on one place. Conditions: as each lemma states. -/
set_option linter.unusedVariables false
set_option linter.unusedSimpArgs false
namespace Go.H
open Go Go.Ab
end Go.H
