/- A history in memory of its own, given up, reads as plain lists. Conditions: none. -/
import Derived.Test.YtcooiollckhdlaaGreatDoorPWyD
set_option linter.unusedSectionVars false
set_option linter.unusedSimpArgs false
set_option linter.unusedVariables false
set_option linter.unusedVariables false
namespace Go.H
open Go Go.Ab
section
variable {w : World} {O O' : Nat → Prop}
/-- Cells that say aS much elsewhere. -/
def CT (w : World) (O O' : Nat → Prop) : List AV → List AV → Prop
  | [], [] => True
  | a :: xs, b :: bs => (∀ u, Rel w O a u → Rel w O' b u) ∧ CT w O O' xs bs
  | _, _ => False
theorem CT.len : ∀ {xs bs : List AV}, CT w O O' xs bs → bs.length = xs.length
  | [], [], _ => rfl
  | _ :: _, _ :: _, h => by simp [CT.len h.2]
  | [], _ :: _, h => h.elim
  | _ :: _, [], h => h.elim
theorem CT.get : ∀ {xs bs : List AV}, CT w O O' xs bs → ∀ j (k : j < xs.length) (k' : j < bs.length) u, Rel w O xs[j] u → Rel w O' bs[j] u
  | _ :: _, _ :: _, h, 0, _, _, u, r => h.1 u r
  | _ :: _, _ :: _, h, j + 1, k, k', u, r => CT.get h.2 j (by simpa using k) (by simpa using k') u r
theorem sc (x : Value) : ∀ u, Rel w O (.v x) u → Rel w O' (.v x) u := fun u r => (Scal.v x).rel r
theorem sn {x : Value} {b : AV} (h : Rel w O' b x) : ∀ u, Rel w O (.v x) u → Rel w O' b u := fun u r => by rw [r.v_eq]; exact h
theorem to_list {X : Nat → Prop} {H : List Res} (hh : HRel X w H) {s : Value} {sz : Nat} {T : TypeId} {α : Type} {f g : α → List AV} {l : List α} (hm : .row s sz T (l.map f) ∈ H) (hO : ∀ b ∈ (Res.row s sz T (l.map f)).own, ¬ O' b)
    (hc : ∀ a ∈ l, CT w (OO H X) O' (f a) (g a)) : Rel w O' (.list false sz (l.map g)) s := by
  refine row_list_of hh hm hO (by simp) (fun i h h' => ?_) (fun i h h' j k k' u r => ?_)
  · simp only [List.getElem_map]; exact (hc _ (List.getElem_mem _)).len
  · simp only [List.getElem_map] at k k' r ⊢
    exact (hc _ (List.getElem_mem _)).get j k k' u r
end
end Go.H
/- A row of rows of numbers of one's own, each of them changed in its place. Conditions: aS each lemma states. -/
set_option linter.unusedVariables false
set_option linter.unusedSimpArgs false
namespace Go.H
open Go Go.Ab
def nilV : SV := ⟨none, 0, 0⟩
def innR (T : TypeId) (n : Nat) (σ : Nat → SV) (F : Nat → List Nat) : List Res := (List.range n).map fun i => .row (σ i).v 1 T ((F i).map natR)
def innX (T : TypeId) (n : Nat) (σ : Nat → SV) (F : Nat → List Nat) (a : Nat) : List Res := ((List.range n).filter fun i => i != a).map fun i => .row (σ i).v 1 T ((F i).map natR)
theorem range_perm {n a : Nat} (ha : a < n) : (List.range n).Perm (a :: (List.range n).filter fun i => i != a) := by
  rw [List.perm_ext_iff_of_nodup List.nodup_range (List.nodup_cons.2 ⟨by simp, List.nodup_range.filter _⟩)]
  intro x
  simp only [List.mem_range, List.mem_cons, List.mem_filter, bne_iff_ne, ne_eq]
  by_cases e : x = a
  · subst e; simp [ha]
  · simp [e]
theorem inn_perm {T : TypeId} {n : Nat} {σ : Nat → SV} {F : Nat → List Nat} {a : Nat} (ha : a < n) : (innR T n σ F).Perm (.row (σ a).v 1 T ((F a).map natR) :: innX T n σ F a) := (range_perm ha).map _
theorem innX_upd {T : TypeId} {n : Nat} {σ : Nat → SV} {F : Nat → List Nat} {a : Nat} (s : SV) (l : List Nat) : innX T n (updI σ a s) (updI F a l) a = innX T n σ F a := by
  unfold innX
  refine List.map_congr_left fun i hi => ?_
  have : i ≠ a := by simpa using (List.mem_filter.1 hi).2
  rw [updI_ne _ _ this, updI_ne _ _ this]
theorem inn_back {T : TypeId} {n : Nat} {σ : Nat → SV} {F : Nat → List Nat} {a : Nat} (ha : a < n) (s : SV) (l : List Nat) : (.row s.v 1 T (l.map natR) :: innX T n σ F a).Perm (innR T n (updI σ a s) (updI F a l)) := by
  have h := (inn_perm (T := T) (σ := updI σ a s) (F := updI F a l) ha).symm
  rw [innX_upd, updI_same, updI_same] at h
  exact h
def cellsO (n : Nat) (σ : Nat → SV) : List (List AV) := (List.range n).map fun i => [.v (σ i).v]
theorem cellsO_len (n : Nat) (σ : Nat → SV) : (cellsO n σ).length = n := by simp [cellsO]
theorem cellsO_at {n k : Nat} (σ : Nat → SV) (hk : k < n) : (cellsO n σ)[k]? = some [.v (σ k).v] := by simp [cellsO, hk]
theorem cellsO_set (n : Nat) (σ : Nat → SV) (k : Nat) (s : SV) : (cellsO n σ).set k [.v s.v] = cellsO n (updI σ k s) := rng_set (fun s : SV => [AV.v s.v]) n σ k s
theorem cellsO_zero (n : Nat) : List.replicate n [AV.v (.slice none 0 0)] = cellsO n fun _ => nilV := by
  apply List.ext_getElem (by simp [cellsO])
  intro i h1 h2; simp [cellsO, nilV, SV.v]
theorem ent_nilrows {nt : Nat} {t : Fr} {h : List Res} {ds : List Nat} (T : TypeId) (n : Nat) : Ent nt ⟨t, h, ds⟩ ⟨t, innR T n (fun _ => nilV) (fun _ => []) ++ h, ds⟩ := by
  unfold innR
  generalize List.range n = L
  induction L with
  | nil => exact ent_perm (.refl _)
  | cons a r ih => exact ent_trans ih (ent_nilrow 1 T)
/-- The lines of each node, given up: lists that nobody writes. -/
def linesA (n : Nat) (F : Nat → List Nat) : List (List AV) := (List.range n).map fun i => [.list false 1 ((F i).map natR)]
theorem linesA_len (n : Nat) (F : Nat → List Nat) : (linesA n F).length = n := by simp [linesA]
theorem linesA_at {n k : Nat} (F : Nat → List Nat) (hk : k < n) : (linesA n F)[k]? = some [.list false 1 ((F k).map natR)] := by simp [linesA, hk]
theorem vent_lines {T TS : TypeId} {n : Nat} {σ : Nat → SV} {F : Nat → List Nat} {so : SV} {G : List Res} : VEnt (G ++ (.row so.v 1 TS (cellsO n σ) :: innR T n σ F)) (.v so.v) G (.list false 1 (linesA n F)) := by
  refine ⟨fun x hx => by rw [owns_append]; exact List.mem_append_left _ hx, fun X w v hh hr => ?_⟩
  have hG : HRel X w G := HRel.drop (h := .row so.v 1 TS (cellsO n σ) :: innR T n σ F) (hh.perm List.perm_append_comm)
  refine ⟨hG, ?_⟩
  have hout : ∀ r ∈ (.row so.v 1 TS (cellsO n σ) :: innR T n σ F : List Res), ∀ x ∈ r.own, ¬ OO G X x := fun r hr x hx q => by
    have hxH : x ∈ owns (.row so.v 1 TS (cellsO n σ) :: innR T n σ F) := mem_owns.2 ⟨r, hr, hx⟩
    have hn := hh.nodup
    rw [owns_append, List.nodup_append] at hn
    rcases q with q | q
    · exact hn.2.2 x q x hxH rfl
    · exact (hh.lt x (by rw [owns_append]; exact List.mem_append_right _ hxH)).2 q
  rw [hr.v_eq]
  have hm : ∀ r ∈ (.row so.v 1 TS (cellsO n σ) :: innR T n σ F : List Res), r ∈ G ++ (.row so.v 1 TS (cellsO n σ) :: innR T n σ F) := fun r hr => List.mem_append_right _ hr
  refine to_list (T := TS) (f := fun i : Nat => [AV.v (σ i).v]) (g := fun i : Nat => [AV.list false 1 ((F i).map natR)]) (l := List.range n) hh (hm _ List.mem_cons_self) (hout _ List.mem_cons_self) fun i hi => ⟨sn ?_, trivial⟩
  have hi2 : (.row (σ i).v 1 T ((F i).map natR) : Res) ∈ innR T n σ F := List.mem_map.2 ⟨i, hi, rfl⟩
  exact to_list (f := natR) (g := natR) hh (hm _ (List.mem_cons_of_mem _ hi2)) (hout _ (List.mem_cons_of_mem _ hi2)) fun a _ => ⟨sc _, trivial⟩
end Go.H
/- Comparisons of structs of numbers. Conditions: none. -/
set_option linter.unusedVariables false
set_option linter.unusedSimpArgs false
set_option maxRecDepth 10000
namespace Go.Proofs
open Go Go.Ab
instance : EqInts Tryz.prog 53 3 := ⟨by kernel_rfl, fun w xs ys h1 h2 => match xs, ys, h1, h2 with
  | [a0, a1, a2], [c0, c1, c2], _, _ => by
    rw [run_equalIn_struct w 9999 53 _ _ (by kernel_rfl) (by kernel_rfl)]
    simp only [Program.fieldsOf, Tryz.underlying53]
    simp [Op.eqFields, part, run_equalIn_int _ 9998 3 .i64 .i64 _ _ Tryz.underlying3]
    by_cases h0 : a0 = c0
    case neg => simp [h0]
    subst h0
    by_cases h1 : a1 = c1
    case neg => simp [h1]
    subst h1
    by_cases h2 : a2 = c2
    case neg => simp [h2]
    subst h2
    simp⟩
end Go.Proofs
/- A loop over so many places, with what it reckons. Conditions: none. -/
set_option linter.unusedVariables false
namespace Go.Ab
open Go
section
variable {P : Program} {ro : Option Nat} {nt : Nat} {c : Code} {Q : Exit → St → Prop} {t : Fr} {h : List Res} {ds : List Nat}
end
end Go.Ab
/- The abstract logic, part 29: regions that draw their order, with operations that change memory among them. Conditions: the program draws freely ('mixedOrders'). -/
set_option linter.unusedVariables false
set_option linter.unusedSimpArgs false
namespace Go.Ab
open Go
def mem? (i : Nat) (l : List Nat) : Bool := l.any (Nat.beq i)
theorem mem?_iff {i : Nat} {l : List Nat} : mem? i l = true ↔ i ∈ l := by
  rw [mem?, List.any_eq_true]
  constructor
  · rintro ⟨x, hx, e⟩; rw [Nat.eq_of_beq_eq_true e]; exact hx
  · intro h; exact ⟨i, h, by simp⟩
def nodupB : List Nat → Bool
  | [] => true
  | i :: r => !mem? i r && nodupB r
theorem nodupB_of : ∀ {l : List Nat}, nodupB l = true → l.Nodup
  | [], _ => .nil
  | i :: r, h => by
    simp only [nodupB, Bool.and_eq_true, Bool.not_eq_true'] at h
    exact List.nodup_cons.2 ⟨fun hm => (by rw [mem?_iff.2 hm] at h; cases h.1), nodupB_of h.2⟩
def soupJ (l : List Oper) (n : Nat) (eff late : List Nat) : Bool :=
  (late.all fun i => !mem? i eff && Nat.blt i n && eff.all fun j => (clos l i (predsOf l i)).any (Nat.beq j)) && nodupB late &&
  Nat.ble n l.length &&
  ((List.range l.length).all fun i => (predsOf l i).all fun j => Nat.blt j i) &&
  ((List.range n).all fun i => match l[i]? with
    | some o => (match o.dst with
      | some d => ((List.range n).all fun j => Nat.beq j i || match dstOf l j with
        | some d' => !Nat.beq d d'
        | none => true)
      | none => mem? i eff) && (!mem? i eff || (match o.guard with
        | none => true
        | some _ => false))
    | none => false) &&
  ((List.range l.length).all fun t => Nat.blt t n || (List.range t).all fun j => (clos l t (predsOf l t)).any (Nat.beq j))
structure SoupD (l : List Oper) (n : Nat) (eff late : List Nat) : Prop extends SoupT l n where
  lat : ∀ i ∈ late, i ∉ eff ∧ i < n ∧ ∀ j ∈ eff, j ∈ clos l i (predsOf l i)
  lnd : late.Nodup
  dst : ∀ i, i < n → ∃ o, l[i]? = some o ∧ (i ∉ eff → ∃ d, o.dst = some d) ∧ (i ∈ eff → o.guard = none) ∧ ∀ d, o.dst = some d → ∀ j, j < n → j ≠ i → ∀ d', dstOf l j = some d' → d ≠ d'
theorem soupD_of {l : List Oper} {n : Nat} {eff late : List Nat} (hc : soupJ l n eff late = true) : SoupD l n eff late := by
  simp only [soupJ, Bool.and_eq_true, List.all_eq_true, List.mem_range] at hc
  obtain ⟨⟨⟨⟨⟨h5, h6⟩, h1⟩, h2⟩, h3⟩, h4⟩ := hc
  refine ⟨⟨Nat.le_of_ble_eq_true h1, fun i hi j hj => Nat.le_of_ble_eq_true (h2 i hi j hj), fun t ht htl j hj => ?_⟩, fun i hi => ?_, nodupB_of h6, fun i hi => ?_⟩
  rotate_left
  · obtain ⟨⟨g1, g2⟩, g3⟩ := h5 i hi
    refine ⟨fun hm => (by rw [mem?_iff.2 hm] at g1; cases g1), Nat.le_of_ble_eq_true g2, fun j hj => ?_⟩
    obtain ⟨x, hx, e⟩ := List.any_eq_true.1 (g3 j hj)
    rw [Nat.eq_of_beq_eq_true e]; exact hx
  rotate_left
  · have := h4 t htl
    simp only [Bool.or_eq_true] at this
    rcases this with e | e
    · exact absurd (Nat.le_of_ble_eq_true e) (by omega)
    · have := List.all_eq_true.1 e j (List.mem_range.2 hj)
      obtain ⟨x, hx, e2⟩ := List.any_eq_true.1 this
      rw [Nat.eq_of_beq_eq_true e2]; exact hx
  · have := h3 i hi
    split at this
    · rename_i o ho
      simp only [Bool.and_eq_true] at this
      obtain ⟨g1, g2⟩ := this
      refine ⟨o, ho, fun hne => ?_, fun he => ?_, fun d hd j hj hji d' hd' => ?_⟩
      · cases hd : o.dst with
        | some d => exact ⟨d, rfl⟩
        | none => simp only [hd] at g1; exact absurd (mem?_iff.1 g1) hne
      · rw [mem?_iff.2 he] at g2
        simp only [Bool.not_true, Bool.false_or] at g2
        split at g2
        · assumption
        · cases g2
      · simp only [hd] at g1
        have := List.all_eq_true.1 g1 j (List.mem_range.2 hj)
        simp only [hd', Bool.or_eq_true, Bool.not_eq_true'] at this
        rcases this with e | e
        · exact absurd (Nat.eq_of_beq_eq_true e) hji
        · exact Nat.ne_of_beq_eq_false e
    · cases this
/-- What stands ahead of an operation that changes memory: what it waits for. -/
def fltP (ds : List Tmp) (f : Fr) : Fr := f.filter fun p => ds.any (Nat.beq p.1)
def fltN (ds : List Tmp) (f : Fr) : Fr := f.filter fun p => !ds.any (Nat.beq p.1)
def stF (o : Oper) (av : AV) (f : Fr) : Fr := match o.dst with
  | some d => (d, av) :: f
  | none => f
theorem lk_flt {q : Nat → Bool} : ∀ {f : Fr} {d : Nat}, q d = true → lk (f.filter fun p => q p.1) d = lk f d
  | [], _, _ => rfl
  | (j, a) :: f, d, hq => by
    have ih := lk_flt (f := f) hq
    simp only [List.filter_cons, lk]
    split
    · simp only [lk, ih]
    · rename_i hj
      have : Nat.beq j d = false := by
        cases h : Nat.beq j d with
        | false => rfl
        | true => rw [Nat.eq_of_beq_eq_true h] at hj; exact absurd hq hj
      rw [this]; exact ih
theorem lk_fltN {q : Nat → Bool} : ∀ {f : Fr} {d : Nat}, q d = false → lk (f.filter fun p => q p.1) d = none
  | [], _, _ => rfl
  | (j, a) :: f, d, hq => by
    have ih := lk_fltN (f := f) hq
    simp only [List.filter_cons]
    split
    · rename_i hj
      simp only [lk]
      have : Nat.beq j d = false := by
        cases h : Nat.beq j d with
        | false => rfl
        | true => rw [Nat.eq_of_beq_eq_true h] at hj; rw [hq] at hj; cases hj
      rw [this]; exact ih
    · exact ih
section
variable {P : Program} {ro : Option Nat} {nt : Nat} {l : List Oper} {eff : List Nat} {sd : Nat → List Tmp} {t0 : Fr} {C : Nat → List Res → Prop}
def QJ (P : Program) (ro : Option Nat) (nt : Nat) (C : List Res → Prop) (l : List Oper) (sd : List Tmp) (t0 : Fr) (o : Oper) (d : Tmp) (av : AV) (e : Fr) : Prop :=
  o.dst = some d ∧ Nat.blt d nt = true ∧ ((gdS l (lkS sd (pdst l o) e t0) o = some true ∧ ∀ h, C h → QV P ro h (evS sd (pdst l o) e t0) o av) ∨ (gdS l (lkS sd (pdst l o) e t0) o = some false ∧ av = .v undef))
/-- The operations that leave memory aS it is, in the text's order. -/
def jsoup (P : Program) (ro : Option Nat) (nt : Nat) (C : Nat → List Res → Prop) (l : List Oper) (eff : List Nat) (sd : Nat → List Tmp) (t0 : Fr) : List Oper → Nat → Fr → (Fr → Prop) → Prop
  | [], _, e, K => K e
  | o :: rest, i, e, K => (mem? i eff = true ∧ jsoup P ro nt C l eff sd t0 rest (i + 1) e K) ∨ (mem? i eff = false ∧ ∃ d av, QJ P ro nt (C i) l (sd i) t0 o d av e ∧ jsoup P ro nt C l eff sd t0 rest (i + 1) ((d, av) :: e) K)
theorem jnil {i : Nat} {e : Fr} {K : Fr → Prop} (hk : K e) : jsoup P ro nt C l eff sd t0 [] i e K := hk
theorem je {o : Oper} {rest : List Oper} {i : Nat} {e : Fr} {K : Fr → Prop} (hi : mem? i eff = true) (hk : jsoup P ro nt C l eff sd t0 rest (i + 1) e K) : jsoup P ro nt C l eff sd t0 (o :: rest) i e K := .inl ⟨hi, hk⟩
theorem jq {d : Tmp} {op : Op} {ty : TypeId} {pos : String} {after : Array Edge} {g : Option (Nat × Bool)} {av : AV} {rest : List Oper} {i : Nat} {e : Fr} {K : Fr → Prop}
    (hg : gdS l (lkS (sd i) (pdst l ⟨some d, op, ty, pos, after, g⟩) e t0) ⟨some d, op, ty, pos, after, g⟩ = some true)
    (hq : ∀ h, C i h → QR P h (evS (sd i) (pdst l ⟨some d, op, ty, pos, after, g⟩) e t0) ⟨some d, op, ty, pos, after, g⟩ av) (hk : jsoup P ro nt C l eff sd t0 rest (i + 1) ((d, av) :: e) K)
    (hi : mem? i eff = false := by rfl) (hd : Nat.blt d nt = true := by rfl) (hn : notDefer ⟨some d, op, ty, pos, after, g⟩ = true := by rfl) : jsoup P ro nt C l eff sd t0 (⟨some d, op, ty, pos, after, g⟩ :: rest) i e K :=
  .inr ⟨hi, d, av, ⟨rfl, hd, .inl ⟨hg, fun h hc => qv_of_qr (hq h hc) hn⟩⟩, hk⟩
/-- The facts, one by one, over the whole. -/
theorem jfacts {n : Nat} {ef la : List Nat} (hC : SoupD l n ef la) (hsk : ∀ i, i ∉ eff → i ∉ ef) {K : Fr → Prop} : ∀ {os : List Oper} {i : Nat} {e : Fr}, i + os.length = n → os = (l.take n).drop i → (∀ d a, lk e d = some a → ∃ j, j < i ∧ j ∉ eff ∧ dstOf l j = some d) → (∀ j, j < i → j ∉ eff → ∀ d, dstOf l j = some d → lk e d ≠ none) → jsoup P ro nt C l eff sd t0 os i e K →
    ∃ E, K E ∧ (∀ d a, lk e d = some a → lk E d = some a) ∧ (∀ d a, lk E d = some a → ∃ j, j < n ∧ j ∉ eff ∧ dstOf l j = some d) ∧ (∀ j, j < n → j ∉ eff → ∀ d, dstOf l j = some d → lk E d ≠ none) ∧
      ∀ j o, i ≤ j → j < n → j ∉ eff → l[j]? = some o → ∃ d av e', lk E d = some av ∧ (∀ d a, lk e' d = some a → lk E d = some a) ∧ QJ P ro nt (C j) l (sd j) t0 o d av e'
  | [], i, e, hn, ho, he, hf, hk => ⟨e, hk, fun _ _ h => h, fun d a h => let ⟨j, h1, h2⟩ := he d a h; ⟨j, by simp at hn; omega, h2⟩, fun j hj => hf j (by simp at hn; omega), fun j o h1 h2 => by simp at hn; omega⟩
  | o :: os, i, e, hn, ho, he, hf, hk => by
    have hin : i < n := by simp at hn; omega
    have hoi : l[i]? = some o := by
      have : (l.take n)[i]? = some o := by
        have := congrArg List.head? ho
        rw [List.head?_cons, List.head?_drop] at this; exact this.symm
      rwa [List.getElem?_take_of_lt hin] at this
    have ho' : os = (l.take n).drop (i + 1) := by
      have := congrArg List.tail ho
      rwa [List.tail_cons, List.tail_drop] at this
    rcases hk with ⟨hi, hk⟩ | ⟨hi, d, av, hq, hk⟩
    · have hie := mem?_iff.1 hi
      obtain ⟨E, h1, h2, h3, h4, h5⟩ := jfacts hC hsk (by simp at hn; omega) ho' (fun d a h => let ⟨j, g1, g2⟩ := he d a h; ⟨j, by omega, g2⟩) (fun j hj hje d hd => by
        rcases Nat.lt_or_ge j i with h | h
        · exact hf j h hje d hd
        · have : j = i := by omega
          subst this; exact absurd hie hje) hk
      refine ⟨E, h1, h2, h3, h4, fun j oj hj1 hj2 hje hoj => ?_⟩
      rcases Nat.lt_or_ge i j with h | h
      · exact h5 j oj h hj2 hje hoj
      · have : j = i := by omega
        subst this; exact absurd hie hje
    · have hie : i ∉ eff := fun h => by rw [mem?_iff.2 h] at hi; cases hi
      obtain ⟨o2, g1, _, _, g4⟩ := hC.dst i hin
      have : o2 = o := Option.some.inj (g1.symm.trans hoi)
      subst this
      have hdd : dstOf l i = some d := by simp [dstOf, hoi, hq.1]
      have hnew : lk e d = none := by
        cases hl : lk e d with
        | none => rfl
        | some a =>
          obtain ⟨j, k1, k2, k3⟩ := he d a hl
          exact absurd rfl (g4 d hq.1 j (by omega) (by omega) d k3)
      have hmono : ∀ d' a, lk e d' = some a → lk ((d, av) :: e) d' = some a := fun d' a h => by
        simp only [lk]
        split
        · rename_i hb
          rw [← Nat.eq_of_beq_eq_true hb, hnew] at h; cases h
        · exact h
      obtain ⟨E, h1, h2, h3, h4, h5⟩ := jfacts hC hsk (by simp at hn; omega) ho' (fun d' a h => by
        simp only [lk] at h
        split at h
        · rename_i hb
          rw [← Nat.eq_of_beq_eq_true hb]; exact ⟨i, by omega, hie, hdd⟩
        · obtain ⟨j, k1, k2⟩ := he d' a h; exact ⟨j, by omega, k2⟩) (fun j hj hje d' hd' => by
        simp only [lk]
        split
        · simp
        · rename_i hb
          rcases Nat.lt_or_ge j i with h | h
          · exact hf j h hje d' hd'
          · have : j = i := by omega
            subst this
            rw [hdd] at hd'; cases hd'
            simp at hb) hk
      refine ⟨E, h1, fun d' a h => h2 d' a (hmono d' a h), h3, h4, fun j oj hj1 hj2 hje hoj => ?_⟩
      rcases Nat.lt_or_ge i j with h | h
      · exact h5 j oj h hj2 hje hoj
      · have : j = i := by omega
        subst this
        have : oj = o2 := Option.some.inj (hoj.symm.trans hoi)
        subst this
        exact ⟨d, av, e, h2 d av (by simp [lk]), fun d' a h => h2 d' a (hmono d' a h), hq⟩
end
/-- Those that wait for all that changes memory. -/
def lsoup (P : Program) (ro : Option Nat) (nt : Nat) (he : List Res) (l : List Oper) (sd : Nat → List Tmp) (t0 : Fr) : List Nat → Fr → (Fr → Prop) → Prop
  | [], e, K => K e
  | i :: r, e, K => ∃ o d av, l[i]? = some o ∧ QJ P ro nt (fun h => h = he) l (sd i) t0 o d av e ∧ lsoup P ro nt he l sd t0 r ((d, av) :: e) K
section
variable {P : Program} {ro : Option Nat} {nt : Nat} {l : List Oper} {sd : Nat → List Tmp} {t0 : Fr} {he : List Res}
theorem ln {e : Fr} {K : Fr → Prop} (hk : K e) : lsoup P ro nt he l sd t0 [] e K := hk
theorem lfacts {n : Nat} {ef la : List Nat} (hC : SoupD l n ef la) {K : Fr → Prop} : ∀ {r : List Nat} {e : Fr}, (∀ i ∈ r, i ∈ la) → r.Nodup → (∀ i ∈ r, ∀ d, dstOf l i = some d → lk e d = none) → lsoup P ro nt he l sd t0 r e K →
    ∃ F, K F ∧ (∀ d a, lk e d = some a → lk F d = some a) ∧ (∀ d a, lk F d = some a → lk e d = some a ∨ ∃ i ∈ r, dstOf l i = some d) ∧ (∀ i ∈ r, ∀ d, dstOf l i = some d → lk F d ≠ none) ∧
      ∀ i ∈ r, ∀ o, l[i]? = some o → ∃ d av e', lk F d = some av ∧ (∀ d a, lk e' d = some a → lk F d = some a) ∧ QJ P ro nt (fun h => h = he) l (sd i) t0 o d av e'
  | [], e, _, _, _, hk => ⟨e, hk, fun _ _ h => h, fun _ _ h => .inl h, fun i h => (by cases h), fun i h => (by cases h)⟩
  | i :: r, e, hr, hnd, hdis, ⟨o, d, av, ho, hq, hk⟩ => by
    obtain ⟨hir, hnd'⟩ := List.nodup_cons.1 hnd
    have hdd : dstOf l i = some d := by simp [dstOf, ho, hq.1]
    have hnew := hdis i (by simp) d hdd
    have hin := (hC.lat i (hr i (by simp))).2.1
    have hmono : ∀ d' a, lk e d' = some a → lk ((d, av) :: e) d' = some a := fun d' a h => by
      simp only [lk]
      split
      · rename_i hb
        rw [← Nat.eq_of_beq_eq_true hb, hnew] at h; cases h
      · exact h
    obtain ⟨F, h1, h2, h3, h4, h5⟩ := lfacts hC (r := r) (fun j hj => hr j (by simp [hj])) hnd' (fun j hj d' hd' => by
      simp only [lk]
      split
      · rename_i hb
        have := Nat.eq_of_beq_eq_true hb
        subst this
        obtain ⟨oi, g1, _, _, g4⟩ := hC.dst i hin
        have : oi = o := Option.some.inj (g1.symm.trans ho)
        subst this
        exact absurd rfl (g4 d hq.1 j (hC.lat j (hr j (by simp [hj]))).2.1 (fun e => hir (e ▸ hj)) d hd')
      · exact hdis j (by simp [hj]) d' hd') hk
    refine ⟨F, h1, fun d' a h => h2 d' a (hmono d' a h), fun d' a h => ?_, fun j hj d' hd' => ?_, fun j hj oj hoj => ?_⟩
    · rcases h3 d' a h with h | ⟨j, hj, h⟩
      · simp only [lk] at h
        split at h
        · rename_i hb
          exact .inr ⟨i, by simp, by rw [← Nat.eq_of_beq_eq_true hb]; exact hdd⟩
        · exact .inl h
      · exact .inr ⟨j, by simp [hj], h⟩
    · rcases List.mem_cons.1 hj with rfl | hj
      · rw [hdd] at hd'; cases hd'
        rw [h2 d av (by simp [lk])]; simp
      · exact h4 j hj d' hd'
    · rcases List.mem_cons.1 hj with rfl | hj
      · have : oj = o := Option.some.inj (hoj.symm.trans ho)
        subst this
        exact ⟨d, av, e, h2 d av (by simp [lk]), fun d' a h => h2 d' a (hmono d' a h), hq⟩
      · exact h5 j hj oj hoj
end
structure InvJ (P : Program) (X : Nat → Prop) (nt : Nat) (h : List Res) (l : List Oper) (n : Nat) (eff late : List Nat) (t : Fr) (dsl : List Nat) (E : Fr) (J : List Nat → Fr → List Res → Prop) (w0 : World) (L : List Nat) (ee : Fr) (he : List Res) (F : Fr) (listed : Array Bool) (a : Act) (w : World) : Prop where
  size : listed.size = l.length
  closed : ∀ i, listed.getD i false = true → ∀ j ∈ predsOf l i, listed.getD j false = true
  tail : ∀ i, n ≤ i → listed.getD i false = false
  tsz : a.tmps.size = nt
  defs : a.defers = dsl.map markOf
  J : J L ee he
  heap : HRel X w he
  lst : ∀ i, i ∈ L ↔ i ∈ eff ∧ i < n ∧ listed.getD i false = true
  lvals : ∀ i d av, i ∈ late → dstOf l i = some d → lk F d = some av → listed.getD i false = true → ∃ v, a.tmps[d]? = some v ∧ Rel w (OO he X) av v
  vals : ∀ i d av, i < n → i ∉ eff ++ late → dstOf l i = some d → lk E d = some av → listed.getD i false = true → ∃ v, a.tmps[d]? = some v ∧ Rel w (OO he X) av v
  evals : ∀ d av, lk ee d = some av → ∃ v, a.tmps[d]? = some v ∧ Rel w (OO he X) av v
  edom : ∀ d, lk ee d ≠ none ↔ ∃ i, i ∈ L ∧ dstOf l i = some d
  base : ∀ d av, (∀ j, j < n → dstOf l j = some d → listed.getD j false = false) → lk t d = some av → ∃ v, a.tmps[d]? = some v ∧ Rel w (OO he X) av v
  keep : Keep (owns h) w0 (owns he) w
structure GoodF (P : Program) (ro : Option Nat) (nt : Nat) (Q : Exit → St → Prop) (l : List Oper) (n : Nat) (late : List Nat) (sd : Nat → List Tmp) (t : Fr) (dsl : List Nat) (E ee : Fr) (he : List Res) (F : Fr) : Prop where
  fin : aops P ro nt l.toArray (l.drop n) Q ⟨F ++ t, he, dsl⟩
  up : ∀ d a, lk (E ++ ee) d = some a → lk F d = some a
  dn : ∀ d a, lk F d = some a → lk (E ++ ee) d = some a ∨ ∃ i ∈ late, dstOf l i = some d
  nn : ∀ i ∈ late, ∀ d, dstOf l i = some d → lk F d ≠ none
  facts : ∀ i ∈ late, ∀ o, l[i]? = some o → ∃ d av e', lk F d = some av ∧ (∀ d a, lk e' d = some a → lk F d = some a) ∧ QJ P ro nt (fun h => h = he) l (sd i) t o d av e'
theorem sdst_no {l : List Oper} {n : Nat} {d : Nat} (hf : (sdst l n).any (Nat.beq d) = false) {j : Nat} (hj : j < n) (hd : dstOf l j = some d) : False := by
  have : d ∈ sdst l n := by
    simp only [sdst, List.mem_filterMap]
    simp only [dstOf] at hd
    cases hlj : l[j]? with
    | none => simp [hlj] at hd
    | some oj =>
      simp only [hlj, Option.bind_some] at hd
      exact ⟨oj, List.mem_of_getElem? (i := j) (by rw [List.getElem?_take_of_lt hj]; exact hlj), hd⟩
  have : (sdst l n).any (Nat.beq d) = true := List.any_eq_true.2 ⟨d, this, by simp⟩
  rw [hf] at this; cases this
/-- A region that draws its order, each operation with what may not have been written yet. -/
theorem aw_drawG {P : Program} {ro : Option Nat} {nt rid : Nat} {Q : Exit → St → Prop} {l : List Oper} {t : Fr} {h : List Res} {dsl : List Nat} (n : Nat) (eff late : List Nat) (sd : Nat → List Tmp) (hS : ∀ i, i < n → ∀ d, (sd i).any (Nat.beq d) = false → ∀ j, j < n → dstOf l j = some d → i ∈ clos l j (predsOf l j)) (C : Nat → List Res → Prop) [hm : Mixed P] (hc : soupJ l n eff late = true)
    (hk : jsoup P ro nt C l (eff ++ late) sd t (l.take n) 0 [] (fun E => ∃ J : List Nat → Fr → List Res → Prop, J [] [] h ∧ (∀ L ee he, J L ee he → ∀ i, i < n → i ∉ eff → (∀ j ∈ L, i ∉ clos l j (predsOf l j)) → C i he) ∧
      (∀ L ee he, J L ee he → ∀ i o, i ∈ eff → i ∉ L → l[i]? = some o → (∀ j, j ∈ clos l i (predsOf l i) → j ∈ eff → j ∈ L) → ∀ u, OE P ro nt o ⟨fltP (pdst l o) E ++ (fltP (pdst l o) ee ++ (fltN (sdst l n) t ++ u)), he, dsl⟩
        (fun s' => ∃ av he', s' = ⟨stF o av (fltP (pdst l o) E ++ (fltP (pdst l o) ee ++ (fltN (sdst l n) t ++ u))), he', dsl⟩ ∧ J (i :: L) (stF o av ee) he')) ∧
      (∀ L ee he, J L ee he → (∀ i, i ∈ eff → i < n → i ∈ L) → lsoup P ro nt he l sd t late (E ++ ee) (fun F => aops P ro nt l.toArray (l.drop n) Q ⟨F ++ t, he, dsl⟩)))) : aw P ro nt (.region rid l.toArray true) Q ⟨t, h, dsl⟩ := by
  intro X a0 w0 hs
  have hC := soupD_of hc
  obtain ⟨E, ⟨J, h0, hJC, hstep, hfin⟩, _, hE1, hE2, hfact⟩ := jfacts (os := l.take n) (i := 0) (n := n) (K := fun E => _) hC (fun i hi he => hi (List.mem_append_left _ he)) (by have := hC.le; simp; omega) rfl (fun d a h => by simp [lk] at h) (fun j hj => by omega) hk
  refine wpIn_region_any hm.h ?_
  have hsome_dst : ∀ j o, l[j]? = some o → dstOf l j = o.dst := fun j o ho => by simp [dstOf, ho]
  have hE1' : ∀ d a, lk E d = some a → ∃ j, j < n ∧ j ∉ eff ∧ j ∉ late ∧ dstOf l j = some d := fun d a h => by
    obtain ⟨j, h1, h2, h3⟩ := hE1 d a h
    exact ⟨j, h1, fun he => h2 (List.mem_append_left _ he), fun he => h2 (List.mem_append_right _ he), h3⟩
  have main : ∀ (fuel : Nat) (U L : List Nat) (ee : Fr) (he : List Res) (F : Fr) (listed : Array Bool) (a : Act) (w : World), InvJ P X nt h l n eff late t dsl E J w0 L ee he F listed a w → ((∀ i, i ∈ eff → i < n → i ∈ L) → GoodF P ro nt Q l n late sd t dsl E ee he F) → (∀ i, i < l.length → listed.getD i false = false → i ∈ U) → U.length ≤ fuel →
      wpAnyIn (FW ro) 0 P .any l.toArray (AOut X nt ⟨t, h, dsl⟩ w0 Q) fuel listed a w := by
    have done : ∀ (fuel : Nat) (U L : List Nat) (ee : Fr) (he : List Res) (F : Fr) (listed : Array Bool) (a : Act) (w : World), InvJ P X nt h l n eff late t dsl E J w0 L ee he F listed a w → ((∀ i, i ∈ eff → i < n → i ∈ L) → GoodF P ro nt Q l n late sd t dsl E ee he F) → (∀ i, i < l.length → listed.getD i false = false → i ∈ U) → U.length ≤ fuel →
        (∀ i, i < n → listed.getD i false = true) → wpAnyIn (FW ro) 0 P .any l.toArray (AOut X nt ⟨t, h, dsl⟩ w0 Q) fuel listed a w := by
      intro fuel U L ee he F listed a w hi hG hU hf hall
      have hg := hG (fun i h1 h2 => (hi.lst i).2 ⟨h1, h2, hall i h2⟩)
      refine tail_seq hC.toSoupT fuel U n listed a w (Nat.le_refl _) hC.le hi.size (fun j hj => ⟨fun hl => ?_, fun hl => hall j hl⟩) (fun i h1 h2 => hU i h2 (hi.tail i h1)) hf ?_
      · rcases Nat.lt_or_ge j n with h | h
        · exact h
        · rw [hi.tail j h] at hl; cases hl
      · have hsim : Sim X nt ⟨F ++ t, he, dsl⟩ a w := by
          refine ⟨hi.heap, hi.tsz, fun d av hl => ?_, hi.defs⟩
          have hl' : lk (F ++ t) d = some av := hl
          rw [lk_append] at hl'
          cases hF : lk F d with
          | some av' =>
            simp only [hF, Option.some.injEq] at hl'; subst hl'
            rcases hg.dn d _ hF with hE | ⟨j, g1, g2⟩
            · rw [lk_append] at hE
              cases hE2 : lk E d with
              | some av2 =>
                simp only [hE2, Option.some.injEq] at hE; subst hE
                obtain ⟨j, g1, g2, g3⟩ := hE1 d _ hE2
                exact hi.vals j d _ g1 g2 g3 hE2 (hall j g1)
              | none => simp only [hE2] at hE; exact hi.evals d _ hE
            · exact hi.lvals j d _ g1 g2 hF (hall j (hC.lat j g1).2.1)
          | none =>
            simp only [hF] at hl'
            have hEe : lk (E ++ ee) d = none := by
              cases hx : lk (E ++ ee) d with
              | none => rfl
              | some y => rw [hg.up d y hx] at hF; cases hF
            rw [lk_append] at hEe
            refine hi.base d av (fun j hj hd => ?_) hl'
            exfalso
            by_cases hje : j ∈ eff
            · have := (hi.edom d).2 ⟨j, (hi.lst j).2 ⟨hje, hj, hall j hj⟩, hd⟩
              cases hE : lk E d with
              | some y => simp [hE] at hEe
              | none => simp only [hE] at hEe; exact this hEe
            · by_cases hjl : j ∈ late
              · exact hg.nn j hjl d hd hF
              · refine hE2 j hj (fun hm => (List.mem_append.1 hm).elim hje hjl) d hd ?_
                cases hE : lk E d with
                | some y => simp [hE] at hEe
                | none => rfl
        have := hg.fin X a w hsim
        exact wpListIn_aout_mono (s := ⟨t, h, dsl⟩) (s' := ⟨F ++ t, he, dsl⟩) hi.keep this
    intro fuel
    induction fuel with
    | zero =>
      intro U L ee he F listed a w hi hG hU hf
      refine done 0 U L ee he F listed a w hi hG hU hf fun i hin => ?_
      have hU0 : U = [] := List.eq_nil_of_length_eq_zero (by omega)
      cases hl : listed.getD i false with
      | true => rfl
      | false => have := hU i (by have := hC.le; omega) hl; simp [hU0] at this
    | succ fuel ih =>
      intro U L ee he F listed a w hi hG hU hf
      by_cases hall : ∀ i, i < n → listed.getD i false = true
      · exact done _ U L ee he F listed a w hi hG hU hf hall
      · have hready : ∀ i, i ∈ Region.ready .any l.toArray listed → i < n ∧ listed.getD i false = false ∧ i < l.length ∧ ∀ j ∈ predsOf l i, listed.getD j false = true := by
          intro i hir
          obtain ⟨h1, h2, h3⟩ := ready_iff.1 hir
          have hun : listed.getD i false = false := by rw [getD_tf (by rw [hi.size]; exact h2) false true]; exact h1
          refine ⟨?_, hun, h2, h3⟩
          rcases Nat.lt_or_ge i n with h | h
          · exact h
          · exfalso
            apply hall
            intro j hj
            exact clos_listed hi.closed i _ h3 j (hC.tail i h h2 j (by omega))
        have hsome : ∀ m, (∃ i, i < n ∧ i < m ∧ listed.getD i false = false) → Region.ready .any l.toArray listed ≠ [] := by
          intro m
          induction m with
          | zero => rintro ⟨i, _, h, _⟩; omega
          | succ m ihm =>
            rintro ⟨i, hin, him, hun⟩
            by_cases hp : ∀ j ∈ predsOf l i, listed.getD j false = true
            · intro h0
              have hin' : i < l.length := by have := hC.le; omega
              have : i ∈ Region.ready .any l.toArray listed := ready_iff.2 ⟨by rw [getD_tf (by rw [hi.size]; exact hin') true false]; exact hun, hin', hp⟩
              rw [h0] at this; exact absurd this (by simp)
            · have : ∃ j, j ∈ predsOf l i ∧ listed.getD j false = false := by
                refine Classical.byContradiction fun hne => hp fun j hj => ?_
                cases hl : listed.getD j false with
                | true => rfl
                | false => exact absurd ⟨j, hj, hl⟩ hne
              obtain ⟨j, hj, hjun⟩ := this
              have := hC.back i (by have := hC.le; omega) j hj
              exact ihm ⟨j, by omega, by omega, hjun⟩
        refine ⟨fun h0 => ?_, fun i hir => ?_⟩
        · exfalso
          have : ∃ i, i < n ∧ listed.getD i false = false := by
            refine Classical.byContradiction fun hne => hall fun i hin => ?_
            cases hl : listed.getD i false with
            | true => rfl
            | false => exact absurd ⟨i, hin, hl⟩ hne
          obtain ⟨i, hin, hun⟩ := this
          exact hsome (i + 1) ⟨i, hin, by omega, hun⟩ h0
        · obtain ⟨hin, hun, hil, hp⟩ := hready i hir
          obtain ⟨o, ho, hq1, hq2, hq3⟩ := hC.dst i hin
          have hU' : ∀ k, k < l.length → (listed.setIfInBounds i true).getD k false = false → k ∈ U.erase i := fun k hkl hk => by
            have hki : i ≠ k := fun e => by subst e; rw [getD_set_self (by rw [hi.size]; exact hil)] at hk; cases hk
            rw [getD_set_ne false hki] at hk
            exact (List.mem_erase_of_ne (fun h => hki h.symm)).2 (hU k hkl hk)
          have hf' : (U.erase i).length ≤ fuel := by rw [List.length_erase_of_mem (hU i hil hun)]; omega
          have hcl : ∀ k, (listed.setIfInBounds i true).getD k false = true → ∀ j ∈ predsOf l k, (listed.setIfInBounds i true).getD j false = true := fun k hk j hj => by
            by_cases hik : i = k
            · subst hik; exact getD_set_true (hp j hj)
            · rw [getD_set_ne false hik] at hk; exact getD_set_true (hi.closed k hk j hj)
          have hdo := hsome_dst i o ho
          have hne : ∀ d j dj, o.dst = some d → j < n → j ≠ i → dstOf l j = some dj → d ≠ dj := fun d j dj hd hj hji hdj => hq3 d hd j hj hji dj hdj
          -- what is looked up
          have hsd : ∀ d, (sdst l n).any (Nat.beq d) = false → ∀ j, j < n → dstOf l j ≠ some d := fun d hf j hj hd => by
            have : d ∈ sdst l n := by
              simp only [sdst, List.mem_filterMap]
              simp only [dstOf] at hd
              cases hlj : l[j]? with
              | none => simp [hlj] at hd
              | some oj =>
                simp only [hlj, Option.bind_some] at hd
                exact ⟨oj, List.mem_of_getElem? (i := j) (by rw [List.getElem?_take_of_lt hj]; exact hlj), hd⟩
            have : (sdst l n).any (Nat.beq d) = true := List.any_eq_true.2 ⟨d, this, by simp⟩
            simp_all
          have hpd : ∀ d, (pdst l o).any (Nat.beq d) = true → ∃ j, j ∈ predsOf l i ∧ dstOf l j = some d := fun d hpd => by
            obtain ⟨x, hx, e⟩ := List.any_eq_true.1 hpd
            have := Nat.eq_of_beq_eq_true e
            subst this
            simp only [pdst, List.mem_filterMap] at hx
            obtain ⟨j', hj', hd'⟩ := hx
            exact ⟨j', by simp only [predsOf, ho]; exact hj', hd'⟩
          have hlookE : ∀ d av, (pdst l o).any (Nat.beq d) = true → lk E d = some av → ∃ v, a.tmps[d]? = some v ∧ Rel w (OO he X) av v := fun d av hpd' hl => by
            obtain ⟨j, hj, hjd⟩ := hpd d hpd'
            obtain ⟨j', g1, g2, g3⟩ := hE1 d av hl
            have hji := hC.back i hil j hj
            have : j' = j := by
              refine Classical.byContradiction fun hne' => ?_
              obtain ⟨oj, k1, _, _, k4⟩ := hC.dst j (by omega)
              exact k4 d (by rw [← hsome_dst j oj k1]; exact hjd) j' g1 hne' d g3 rfl
            subst this
            exact hi.vals j' d av g1 g2 g3 hl (hp j' hj)
          have hbase : ∀ d av, (sdst l n).any (Nat.beq d) = false → lk t d = some av → ∃ v, a.tmps[d]? = some v ∧ Rel w (OO he X) av v := fun d av hf hl => hi.base d av (fun j hj hd => absurd hd (hsd d hf j hj)) hl
          obtain ⟨lw, hlw⟩ : ∃ lw : Nat → Bool, lw = fun d => (List.range n).any fun j => listed.getD j false && (match dstOf l j with | some d2 => Nat.beq d2 d | none => false) := ⟨_, rfl⟩
          have hlwt : ∀ d j, j < n → dstOf l j = some d → listed.getD j false = true → lw d = true := fun d j hj hd hl => by
            rw [hlw]; exact List.any_eq_true.2 ⟨j, List.mem_range.2 hj, by simp [hd, hl]⟩
          have hlwf : ∀ d, lw d = false → ∀ j, j < n → dstOf l j = some d → listed.getD j false = false := fun d hf j hj hd => by
            cases hl : listed.getD j false with
            | false => rfl
            | true => rw [hlwt d j hj hd hl] at hf; cases hf
          have hbase2 : ∀ d av, lw d = false → lk t d = some av → ∃ v, a.tmps[d]? = some v ∧ Rel w (OO he X) av v := fun d av hf hl => hi.base d av (hlwf d hf) hl
          unfold wpOpIn
          simp only [List.getElem?_toArray, ho]
          by_cases hie : i ∈ eff
          · -- memory is changed
            have hg := hq2 hie
            have hiL : i ∉ L := fun h => by have := ((hi.lst i).1 h).2.2; rw [hun] at this; cases this
            rw [if_pos (by simp [Region.wanted, hg])]
            -- all that is known, once more
            obtain ⟨T, hT⟩ : ∃ T : Fr, T = (E.filter fun p => (List.range n).any fun j => !mem? j (eff ++ late) && listed.getD j false && (match dstOf l j with | some d => Nat.beq d p.1 | none => false)) ++ (ee ++ t.filter fun p => !lw p.1) := ⟨_, rfl⟩
            have hO2 := hstep L ee he hi.J i o hie hiL ho (fun j hj hje => (hi.lst j).2 ⟨hje, (by
              have := clos_listed hi.closed i _ hp j hj
              rcases Nat.lt_or_ge j n with h | h
              · exact h
              · rw [hi.tail j h] at this; cases this), clos_listed hi.closed i _ hp j hj⟩) T
            obtain ⟨G, hG⟩ : ∃ G, G = fltP (pdst l o) E ++ (fltP (pdst l o) ee ++ (fltN (sdst l n) t ++ T)) := ⟨_, rfl⟩
            rw [← hG] at hO2
            have hGr : FrRel w (OO he X) G a.tmps := fun d av hl => by
              rw [hG, lk_append] at hl
              by_cases hpd' : (pdst l o).any (Nat.beq d) = true
              · rw [fltP, lk_flt (q := fun d => (pdst l o).any (Nat.beq d)) hpd'] at hl
                cases hE : lk E d with
                | some av' => simp only [hE, Option.some.injEq] at hl; subst hl; exact hlookE d _ hpd' hE
                | none =>
                  simp only [hE] at hl
                  rw [lk_append, fltP, lk_flt (q := fun d => (pdst l o).any (Nat.beq d)) hpd'] at hl
                  cases he' : lk ee d with
                  | some av' => simp only [he', Option.some.injEq] at hl; subst hl; exact hi.evals d _ he'
                  | none =>
                    simp only [he'] at hl
                    rw [lk_append] at hl
                    by_cases hsd' : (sdst l n).any (Nat.beq d) = false
                    · rw [fltN, lk_flt (q := fun d => !(sdst l n).any (Nat.beq d)) (by simp [hsd'])] at hl
                      cases ht : lk t d with
                      | some av' => simp only [ht, Option.some.injEq] at hl; subst hl; exact hbase d _ hsd' ht
                      | none =>
                        simp only [ht] at hl
                        rw [hT, lk_append, lk_append] at hl
                        have h3 : lk (t.filter fun p => !lw p.1) d = none := by
                          by_cases hlq : lw d = true
                          · rw [lk_fltN (q := fun d => !lw d) (by simp [hlq])]
                          · rw [lk_flt (q := fun d => !lw d) (by simp [hlq]), ht]
                        rw [he', h3] at hl
                        split at hl
                        · rename_i q
                          by_cases hq : ((List.range n).any fun j => !mem? j (eff ++ late) && listed.getD j false && (match dstOf l j with | some d2 => Nat.beq d2 d | none => false)) = true
                          · rw [lk_flt (q := fun d => (List.range n).any fun j => !mem? j (eff ++ late) && listed.getD j false && (match dstOf l j with | some d2 => Nat.beq d2 d | none => false)) hq, hE] at q; cases q
                          · rw [lk_fltN (q := fun d => (List.range n).any fun j => !mem? j (eff ++ late) && listed.getD j false && (match dstOf l j with | some d2 => Nat.beq d2 d | none => false)) (by simpa using hq)] at q; cases q
                        · cases hl
                    · -- waited for, and not known
                      rw [fltN, lk_fltN (q := fun d => !(sdst l n).any (Nat.beq d)) (by simpa using hsd')] at hl
                      simp only at hl
                      have h3 : lk (t.filter fun p => !lw p.1) d = none := by
                        obtain ⟨j, hj, hjd⟩ := hpd d hpd'
                        have hji := hC.back i hil j hj
                        rw [lk_fltN (q := fun d => !lw d) (by simp [hlwt d j (by omega) hjd (hp j hj)])]
                      rw [hT, lk_append, lk_append, he', h3] at hl
                      split at hl
                      · rename_i q
                        by_cases hq : ((List.range n).any fun j => !mem? j (eff ++ late) && listed.getD j false && (match dstOf l j with | some d2 => Nat.beq d2 d | none => false)) = true
                        · rw [lk_flt (q := fun d => (List.range n).any fun j => !mem? j (eff ++ late) && listed.getD j false && (match dstOf l j with | some d2 => Nat.beq d2 d | none => false)) hq, hE] at q; cases q
                        · rw [lk_fltN (q := fun d => (List.range n).any fun j => !mem? j (eff ++ late) && listed.getD j false && (match dstOf l j with | some d2 => Nat.beq d2 d | none => false)) (by simpa using hq)] at q; cases q
                      · cases hl
              · rw [fltP, lk_fltN (q := fun d => (pdst l o).any (Nat.beq d)) (Bool.eq_false_iff.2 hpd')] at hl
                simp only at hl
                rw [lk_append, fltP, lk_fltN (q := fun d => (pdst l o).any (Nat.beq d)) (Bool.eq_false_iff.2 hpd')] at hl
                simp only at hl
                have hrest : ∀ av, lk T d = some av → ∃ v, a.tmps[d]? = some v ∧ Rel w (OO he X) av v := fun av hl => by
                  rw [hT, lk_append] at hl
                  by_cases hq : ((List.range n).any fun j => !mem? j (eff ++ late) && listed.getD j false && (match dstOf l j with | some d2 => Nat.beq d2 d | none => false)) = true
                  · rw [lk_flt (q := fun d => (List.range n).any fun j => !mem? j (eff ++ late) && listed.getD j false && (match dstOf l j with | some d2 => Nat.beq d2 d | none => false)) hq] at hl
                    obtain ⟨j, hj, hq'⟩ := List.any_eq_true.1 hq
                    simp only [Bool.and_eq_true, Bool.not_eq_true'] at hq'
                    obtain ⟨⟨k1, k2⟩, k3⟩ := hq'
                    have hje : j ∉ eff ++ late := fun h => by rw [mem?_iff.2 h] at k1; cases k1
                    have hjd : dstOf l j = some d := by
                      split at k3
                      · rename_i d2 hd2; rw [hd2, Nat.eq_of_beq_eq_true k3]
                      · cases k3
                    cases hE : lk E d with
                    | some av' => simp only [hE, Option.some.injEq] at hl; subst hl; exact hi.vals j d _ (List.mem_range.1 hj) hje hjd hE k2
                    | none => exact absurd hE (hE2 j (List.mem_range.1 hj) hje d hjd)
                  · rw [lk_fltN (q := fun d => (List.range n).any fun j => !mem? j (eff ++ late) && listed.getD j false && (match dstOf l j with | some d2 => Nat.beq d2 d | none => false)) (by simpa using hq)] at hl
                    simp only at hl
                    rw [lk_append] at hl
                    cases he' : lk ee d with
                    | some av' => simp only [he', Option.some.injEq] at hl; subst hl; exact hi.evals d _ he'
                    | none =>
                      simp only [he'] at hl
                      cases hlq : lw d with
                      | false =>
                        rw [lk_flt (q := fun d => !lw d) (by simp [hlq])] at hl
                        exact hbase2 d _ hlq hl
                      | true => rw [lk_fltN (q := fun d => !lw d) (by simp [hlq])] at hl; cases hl
                rw [lk_append] at hl
                split at hl
                · rename_i q
                  cases hl
                  by_cases hsd' : (sdst l n).any (Nat.beq d) = false
                  · rw [fltN, lk_flt (q := fun d => !(sdst l n).any (Nat.beq d)) (by simp [hsd'])] at q
                    exact hbase d _ hsd' q
                  · rw [fltN, lk_fltN (q := fun d => !(sdst l n).any (Nat.beq d)) (by simpa using hsd')] at q; cases q
                · exact hrest _ hl
            refine hO2 X a w _ _ ⟨hi.heap, hi.tsz, hGr, hi.defs⟩ fun s' a' w' hs' hsim' hkp => ?_
            obtain ⟨av, he', rfl, hJ'⟩ := hs'
            have hT' : ∀ d av, (∀ d', o.dst = some d' → d' ≠ d) → lk G d = some av → ∃ v, a'.tmps[d]? = some v ∧ Rel w' (OO he' X) av v := fun d av' hnd hl => by
              refine hsim'.fr d av' ?_
              show lk (stF o av G) d = _
              unfold stF
              split
              · rename_i d' hd'
                simp only [lk]
                have : Nat.beq d' d = false := by
                  cases hb : Nat.beq d' d with
                  | false => rfl
                  | true => exact absurd (Nat.eq_of_beq_eq_true hb) (hnd d' hd')
                rw [this]; exact hl
              · exact hl
            have hGT : ∀ d av, lk T d = some av → (lk G d = some av) ∨ ∃ av', lk G d = some av' := fun d av hl => by
              cases hg : lk G d with
              | some av' => exact .inr ⟨av', rfl⟩
              | none =>
                exfalso
                rw [hG] at hg
                simp only [lk_append] at hg
                repeat' split at hg
                all_goals first | (rw [hl] at hg; cases hg) | cases hg
            have hedom' : ∀ d, lk (stF o av ee) d ≠ none ↔ ∃ k, k ∈ i :: L ∧ dstOf l k = some d := fun d => by
              unfold stF
              constructor
              · intro hx
                split at hx
                · rename_i d' hd'
                  simp only [lk] at hx
                  split at hx
                  · rename_i hb
                    have := Nat.eq_of_beq_eq_true hb
                    subst this
                    exact ⟨i, by simp, by rw [hdo]; exact hd'⟩
                  · obtain ⟨k, k1, k2⟩ := (hi.edom d).1 hx; exact ⟨k, by simp [k1], k2⟩
                · obtain ⟨k, k1, k2⟩ := (hi.edom d).1 hx; exact ⟨k, by simp [k1], k2⟩
              · rintro ⟨k, k1, k2⟩
                rcases List.mem_cons.1 k1 with rfl | k1
                · rw [hdo] at k2; rw [k2]; simp [lk]
                · have := (hi.edom d).2 ⟨k, k1, k2⟩
                  split
                  · simp only [lk]; split
                    · simp
                    · exact this
                  · exact this
            obtain ⟨F', hF'⟩ : ∃ F', (∀ k, k ∈ eff → k < n → k ∈ i :: L) → GoodF P ro nt Q l n late sd t dsl E (stF o av ee) he' F' := by
              by_cases hA : ∀ k, k ∈ eff → k < n → k ∈ i :: L
              · obtain ⟨F', k1, k2, k3, k4, k5⟩ := lfacts hC (r := late) (fun _ h => h) hC.lnd (fun j hj d hd => by
                  rw [lk_append]
                  obtain ⟨oj, g1, _, _, g4⟩ := hC.dst j (hC.lat j hj).2.1
                  have hoj : oj.dst = some d := by rw [← hsome_dst j oj g1]; exact hd
                  cases hx : lk E d with
                  | some y =>
                    obtain ⟨q, q1, q2, q3, q4⟩ := hE1' d y hx
                    exact absurd rfl (g4 d hoj q q1 (fun e => q3 (e ▸ hj)) d q4)
                  | none =>
                    simp only
                    cases hy : lk (stF o av ee) d with
                    | none => rfl
                    | some y =>
                      obtain ⟨q, q1, q2⟩ := (hedom' d).1 (by rw [hy]; simp)
                      have hqe : q ∈ eff ∧ q < n := (List.mem_cons.1 q1).elim (fun e => e ▸ ⟨hie, hin⟩) (fun h => let h := (hi.lst q).1 h; ⟨h.1, h.2.1⟩)
                      exact absurd rfl (g4 d hoj q hqe.2 (fun e => (hC.lat j hj).1 (e ▸ hqe.1)) d q2)) (hfin _ _ _ hJ' hA)
                exact ⟨F', fun _ => ⟨k1, k2, k3, k4, k5⟩⟩
              · exact ⟨[], fun h => absurd h hA⟩
            refine ih (U.erase i) (i :: L) (stF o av ee) he' F' _ _ _ ?_ hF' hU' hf'
            have hGE : ∀ j d, j < n → j ∉ eff ++ late → dstOf l j = some d → listed.getD j false = true → ∀ av, lk E d = some av → lk G d = some av := fun j d hj hje hjd hlj av hl => by
              have hed : lk ee d = none := by
                cases hx : lk ee d with
                | none => rfl
                | some y =>
                  obtain ⟨k, hk1, hk2⟩ := (hi.edom d).1 (by rw [hx]; simp)
                  obtain ⟨hk3, hk4, _⟩ := (hi.lst k).1 hk1
                  obtain ⟨oj, g1, _, _, g4⟩ := hC.dst j hj
                  have hkj : k ≠ j := fun e => hje (List.mem_append_left _ (e ▸ hk3))
                  exact absurd rfl (g4 d (by rw [← hsome_dst j oj g1]; exact hjd) k hk4 hkj d hk2)
              have hsd' : ¬ (sdst l n).any (Nat.beq d) = false := fun hf => hsd d hf j hj hjd
              rw [hG, lk_append]
              by_cases hpd' : (pdst l o).any (Nat.beq d) = true
              · rw [fltP, lk_flt (q := fun d => (pdst l o).any (Nat.beq d)) hpd', hl]
              · rw [fltP, lk_fltN (q := fun d => (pdst l o).any (Nat.beq d)) (Bool.eq_false_iff.2 hpd')]
                simp only
                rw [lk_append, fltP, lk_fltN (q := fun d => (pdst l o).any (Nat.beq d)) (Bool.eq_false_iff.2 hpd')]
                simp only
                rw [lk_append, fltN, lk_fltN (q := fun d => !(sdst l n).any (Nat.beq d)) (by simpa using hsd')]
                simp only
                rw [hT, lk_append, lk_flt (q := fun d => (List.range n).any fun j => !mem? j (eff ++ late) && listed.getD j false && (match dstOf l j with | some d2 => Nat.beq d2 d | none => false)) (by
                  refine List.any_eq_true.2 ⟨j, List.mem_range.2 hj, ?_⟩
                  have : mem? j (eff ++ late) = false := by
                    cases hb : mem? j (eff ++ late) with
                    | false => rfl
                    | true => exact absurd (mem?_iff.1 hb) hje
                  simp [this, hlj, hjd]), hl]
            have hGe : ∀ d av, lk ee d = some av → lk G d = some av := fun d av hl => by
              obtain ⟨k, hk1, hk2⟩ := (hi.edom d).1 (by rw [hl]; simp)
              obtain ⟨hk3, hk4, _⟩ := (hi.lst k).1 hk1
              have hEd : lk E d = none := by
                cases hx : lk E d with
                | none => rfl
                | some y =>
                  obtain ⟨j, g1, g2, g3⟩ := hE1 d y hx
                  obtain ⟨ok, k1, _, _, k4⟩ := hC.dst k hk4
                  have hkj : j ≠ k := fun e => g2 (List.mem_append_left _ (e ▸ hk3))
                  exact absurd rfl (k4 d (by rw [← hsome_dst k ok k1]; exact hk2) j g1 hkj d g3)
              have hsd' : ¬ (sdst l n).any (Nat.beq d) = false := fun hf => hsd d hf k hk4 hk2
              have hflt : lk (E.filter fun p => (List.range n).any fun j => !mem? j (eff ++ late) && listed.getD j false && (match dstOf l j with | some d => Nat.beq d p.1 | none => false)) d = none := by
                by_cases hq : ((List.range n).any fun j => !mem? j (eff ++ late) && listed.getD j false && (match dstOf l j with | some d2 => Nat.beq d2 d | none => false)) = true
                · rw [lk_flt (q := fun d => (List.range n).any fun j => !mem? j (eff ++ late) && listed.getD j false && (match dstOf l j with | some d2 => Nat.beq d2 d | none => false)) hq, hEd]
                · rw [lk_fltN (q := fun d => (List.range n).any fun j => !mem? j (eff ++ late) && listed.getD j false && (match dstOf l j with | some d2 => Nat.beq d2 d | none => false)) (by simpa using hq)]
              rw [hG, lk_append]
              by_cases hpd' : (pdst l o).any (Nat.beq d) = true
              · rw [fltP, lk_flt (q := fun d => (pdst l o).any (Nat.beq d)) hpd', hEd]
                simp only
                rw [lk_append, fltP, lk_flt (q := fun d => (pdst l o).any (Nat.beq d)) hpd', hl]
              · rw [fltP, lk_fltN (q := fun d => (pdst l o).any (Nat.beq d)) (Bool.eq_false_iff.2 hpd')]
                simp only
                rw [lk_append, fltP, lk_fltN (q := fun d => (pdst l o).any (Nat.beq d)) (Bool.eq_false_iff.2 hpd')]
                simp only
                rw [lk_append, fltN, lk_fltN (q := fun d => !(sdst l n).any (Nat.beq d)) (by simpa using hsd')]
                simp only
                rw [hT, lk_append, hflt]
                simp only
                rw [lk_append, hl]
            have hGt : ∀ d av, (∀ j, j < n → dstOf l j = some d → listed.getD j false = false) → lk t d = some av → lk G d = some av := fun d av hj hl => by
              have hlq : lw d = false := by
                cases hb : lw d with
                | false => rfl
                | true =>
                  rw [hlw] at hb
                  obtain ⟨j, hj1, hq⟩ := List.any_eq_true.1 hb
                  simp only [Bool.and_eq_true] at hq
                  obtain ⟨k2, k3⟩ := hq
                  have hjd : dstOf l j = some d := by
                    split at k3
                    · rename_i d2 hd2; rw [hd2, Nat.eq_of_beq_eq_true k3]
                    · cases k3
                  rw [hj j (List.mem_range.1 hj1) hjd] at k2; cases k2
              have hpd0 : (pdst l o).any (Nat.beq d) = false := by
                cases hb : (pdst l o).any (Nat.beq d) with
                | false => rfl
                | true =>
                  obtain ⟨j, hj1, hjd⟩ := hpd d hb
                  have hji := hC.back i hil j hj1
                  have := hj j (by omega) hjd
                  rw [hp j hj1] at this; cases this
              have hed : lk ee d = none := by
                cases hx : lk ee d with
                | none => rfl
                | some y =>
                  obtain ⟨k, hk1, hk2⟩ := (hi.edom d).1 (by rw [hx]; simp)
                  obtain ⟨_, hk4, hk5⟩ := (hi.lst k).1 hk1
                  have := hj k hk4 hk2
                  rw [hk5] at this; cases this
              have hflt : lk (E.filter fun p => (List.range n).any fun j => !mem? j (eff ++ late) && listed.getD j false && (match dstOf l j with | some d => Nat.beq d p.1 | none => false)) d = none := by
                refine lk_fltN (q := fun d => (List.range n).any fun j => !mem? j (eff ++ late) && listed.getD j false && (match dstOf l j with | some d2 => Nat.beq d2 d | none => false)) ?_
                cases hb : ((List.range n).any fun j => !mem? j (eff ++ late) && listed.getD j false && (match dstOf l j with | some d2 => Nat.beq d2 d | none => false)) with
                | false => rfl
                | true =>
                  obtain ⟨j, hj1, hq⟩ := List.any_eq_true.1 hb
                  simp only [Bool.and_eq_true] at hq
                  obtain ⟨⟨_, k2⟩, k3⟩ := hq
                  have hjd : dstOf l j = some d := by
                    split at k3
                    · rename_i d2 hd2; rw [hd2, Nat.eq_of_beq_eq_true k3]
                    · cases k3
                  rw [hj j (List.mem_range.1 hj1) hjd] at k2; cases k2
              rw [hG, lk_append, fltP, lk_fltN (q := fun d => (pdst l o).any (Nat.beq d)) hpd0]
              simp only
              rw [lk_append, fltP, lk_fltN (q := fun d => (pdst l o).any (Nat.beq d)) hpd0]
              simp only
              rw [lk_append]
              have hlast : lk T d = some av := by
                rw [hT, lk_append, hflt]
                simp only
                rw [lk_append, hed]
                simp only
                rw [lk_flt (q := fun d => !lw d) (by simp [hlq]), hl]
              by_cases hsd' : (sdst l n).any (Nat.beq d) = false
              · rw [fltN, lk_flt (q := fun d => !(sdst l n).any (Nat.beq d)) (by simp [hsd']), hl]
              · rw [fltN, lk_fltN (q := fun d => !(sdst l n).any (Nat.beq d)) (by simpa using hsd')]
                simp only
                exact hlast
            refine ⟨by simp [hi.size], hcl, fun k hk => by rw [getD_set_ne false (by omega)]; exact hi.tail k hk, hsim'.size, hsim'.defs, hJ', hsim'.heap, fun k => ?_, fun k d av' hk hkd hFd hlk => ?_, fun k d av' hk hke hkd hEd hlk => ?_, fun d av' hl => ?_, fun d => ?_, fun d av' hj hl => ?_, hi.keep.trans hkp⟩
            · rw [List.mem_cons, hi.lst k]
              by_cases hki : k = i
              · subst hki
                simp only [true_or, true_iff]
                exact ⟨hie, hin, getD_set_self (by rw [hi.size]; exact hil)⟩
              · rw [getD_set_ne false (Ne.symm hki)]; simp [hki]
            · exfalso
              have hki : i ≠ k := fun e => (hC.lat k hk).1 (e ▸ hie)
              rw [getD_set_ne false hki] at hlk
              have := clos_listed hi.closed k _ (fun j hj => hi.closed k hlk j hj) i ((hC.lat k hk).2.2 i hie)
              rw [hun] at this; cases this
            · have hki : i ≠ k := fun e => hke (List.mem_append_left _ (e ▸ hie))
              rw [getD_set_ne false hki] at hlk
              exact hT' d av' (fun d' hd' e => by subst e; exact hne d' k d' hd' hk (Ne.symm hki) hkd rfl) (hGE k d hk hke hkd hlk av' hEd)
            · unfold stF at hl
              split at hl
              · rename_i d' hd'
                simp only [lk] at hl
                split at hl
                · rename_i hb
                  have := Nat.eq_of_beq_eq_true hb
                  subst this
                  cases hl
                  refine hsim'.fr d' av ?_
                  show lk (stF o av G) d' = _
                  unfold stF; rw [hd']; simp [lk]
                · rename_i hb
                  exact hT' d av' (fun d2 hd2 e => by rw [hd'] at hd2; cases hd2; subst e; simp at hb) (hGe d av' hl)
              · rename_i hd'
                exact hT' d av' (fun d2 hd2 => by rw [hd'] at hd2; cases hd2) (hGe d av' hl)
            · exact hedom' d
            · have hj' : ∀ j, j < n → dstOf l j = some d → listed.getD j false = false := fun j hjn hjd => by
                by_cases hij : i = j
                · subst hij; exact hun
                · have := hj j hjn hjd; rwa [getD_set_ne false hij] at this
              exact hT' d av' (fun d' hd' e => by
                subst e
                have := hj i hin (by rw [hdo]; exact hd')
                rw [getD_set_self (by rw [hi.size]; exact hil)] at this; cases this) (hGt d av' hj' hl)
          · -- memory stays
            have hgood : i ∈ late → GoodF P ro nt Q l n late sd t dsl E ee he F := fun hil' => hG fun k h1 h2 => (hi.lst k).2 ⟨h1, h2, clos_listed hi.closed i _ hp k ((hC.lat i hil').2.2 k h1)⟩
            obtain ⟨d, av, e', hown, hlookP, hqd, hdn, hq⟩ : ∃ d av e', ((i ∈ late ∧ lk F d = some av) ∨ (i ∉ late ∧ lk E d = some av)) ∧ (∀ d' a', (pdst l o).any (Nat.beq d') = true → lk e' d' = some a' → ∃ v, a.tmps[d']? = some v ∧ Rel w (OO he X) a' v) ∧ QJ P ro nt (fun h => h = he) l (sd i) t o d av e' := by
              by_cases hil' : i ∈ late
              · obtain ⟨d, av, e', k1, k2, k3⟩ := (hgood hil').facts i hil' o ho
                refine ⟨d, av, e', .inl ⟨hil', k1⟩, fun d' a' hpd' hl => ?_, k3⟩
                have hF := k2 d' a' hl
                rcases (hgood hil').dn d' a' hF with hE | ⟨j, g1, g2⟩
                · rw [lk_append] at hE
                  cases hE2' : lk E d' with
                  | some av2 => simp only [hE2', Option.some.injEq] at hE; subst hE; exact hlookE d' _ hpd' hE2'
                  | none => simp only [hE2'] at hE; exact hi.evals d' _ hE
                · obtain ⟨j', hj', hjd'⟩ := hpd d' hpd'
                  have hji := hC.back i hil j' hj'
                  have : j = j' := by
                    refine Classical.byContradiction fun hne' => ?_
                    obtain ⟨oj, q1, _, _, q4⟩ := hC.dst j' (by omega)
                    exact q4 d' (by rw [← hsome_dst j' oj q1]; exact hjd') j (hC.lat j g1).2.1 hne' d' g2 rfl
                  subst this
                  exact hi.lvals j d' _ g1 g2 hF (hp j hj')
              · obtain ⟨d, av, e', hEd, hmono, hqd, hdn, hq⟩ := hfact i o (Nat.zero_le _) hin (fun hm => (List.mem_append.1 hm).elim hie hil') ho
                exact ⟨d, av, e', .inr ⟨hil', hEd⟩, fun d' a' hpd' hl => hlookE d' a' hpd' (hmono d' a' hl), hqd, hdn, hq.imp (fun h => ⟨h.1, fun h' e => by subst e; exact h.2 _ (hJC L ee _ hi.J i hin hie fun j hj hcl => by
                  have hl := clos_listed hi.closed j _ (hi.closed j ((hi.lst j).1 hj).2.2) i hcl
                  rw [hun] at hl; cases hl)⟩) id⟩
            have hlook : ∀ d' av', lkS (sd i) (pdst l o) e' t d' = some av' → ∃ v, a.tmps[d']? = some v ∧ Rel w (OO he X) av' v := fun d' av' hl => by
              unfold lkS at hl
              split at hl
              · rename_i hpd'; exact hlookP d' av' hpd' hl
              · split at hl
                · cases hl
                · rename_i hsd'
                  refine hi.base d' av' (fun j hj hd => ?_) hl
                  have hcj := hS i hin d' hsd' j hj hd
                  cases hlj : listed.getD j false with
                  | false => rfl
                  | true =>
                    have := clos_listed hi.closed j _ (fun k hk => hi.closed j hlj k hk) i hcj
                    rw [hun] at this; cases this
            have henv : Env X he (evS (sd i) (pdst l o) e' t) a.eval w := by
              refine ⟨hi.heap, fun x av' hx => ?_⟩
              cases x with
              | tmp d' =>
                obtain ⟨v, e, r⟩ := hlook d' av' hx
                have : a.eval (.tmp d') = v := by simp [Act.eval, Array.getD_eq_getD_getElem?, e]
                rw [this]; exact r
              | const x => cases hx; exact .v x
              | global g => cases hx; exact .v _
              | func f => cases hx; exact .fn _ _ _ _ _ rfl rfl (fun j h => absurd h (Nat.not_lt_zero j)) (fun j h => absurd h (Nat.not_lt_zero j))
            have hguard : ∀ b, gdS l (lkS (sd i) (pdst l o) e' t) o = some b → Region.wanted o (yielded l.toArray a.tmps) = b := fun b hg => by
              unfold gdS at hg
              unfold Region.wanted
              split at hg
              · rename_i h0; rw [h0]; simpa using hg
              · rename_i j want h0
                rw [h0]
                simp only
                split at hg
                · rename_i d2 hd2
                  have hd' : ((l.toArray)[j]?).bind (·.dst) = some d2 := by simpa [dstOf] using hd2
                  split at hg
                  · rename_i c hcc
                    obtain ⟨v, e, r⟩ := hlook _ _ hcc
                    rw [r.v_eq] at e
                    simp only [Option.some.injEq] at hg
                    subst hg
                    simp only [yielded, hd', Option.bind_some, e]
                    cases c <;> cases want <;> rfl
                  · rename_i c hcc
                    obtain ⟨v, e, r⟩ := hlook _ _ hcc
                    rw [r.v_eq] at e
                    simp only [Option.some.injEq] at hg
                    subst hg
                    simp only [yielded, hd', Option.bind_some, e]
                    cases want <;> rfl
                  · cases hg
                · cases hg
            have hdni : d < nt := Nat.le_of_ble_eq_true hdn
            have hdi : dstOf l i = some d := by rw [hdo]; exact hqd
            have hput : ∀ v d', d ≠ d' → (a.put (some d) v).tmps[d']? = a.tmps[d']? := fun v d' hdd => by simp [Act.put, hdd]
            have hgo : ∀ v w', Rel w' (OO he X) av v → HRel X w' he → Keep (owns he) w (owns he) w' → wpAnyIn (FW ro) 0 P .any l.toArray (AOut X nt ⟨t, h, dsl⟩ w0 Q) fuel (listed.setIfInBounds i true) (a.put o.dst v) w' := fun v w' hr hh hkp => by
              rw [hqd]
              refine ih (U.erase i) L ee he F _ _ _ ?_ hG hU' hf'
              have hkk := fun b (hb : ¬ OO he X b) hl => hkp.oo (X := X) b hb hl
              refine ⟨by simp [hi.size], hcl, fun k hk => by rw [getD_set_ne false (by omega)]; exact hi.tail k hk, by simp [Act.put, hi.tsz], hi.defs, hi.J, hh, fun k => ?_, fun k dk avk hk hkd hFk hlk => ?_, fun k dk avk hk hke hkd hEk hlk => ?_, fun dk avk hl => ?_, hi.edom, fun dk avk hj hl => ?_, hi.keep.trans hkp⟩
              · rw [hi.lst k]
                by_cases hki : k = i
                · subst hki; simp [hie]
                · rw [getD_set_ne false (Ne.symm hki)]
              · by_cases hki : i = k
                · subst hki
                  have : dk = d := by rw [hdi] at hkd; exact (Option.some.inj hkd).symm
                  subst this
                  have : avk = av := hown.elim (fun h => Option.some.inj (hFk.symm.trans h.2)) (fun h => absurd hk h.1)
                  subst this
                  exact ⟨v, by simp [Act.put, hi.tsz, hdni], hr⟩
                · rw [getD_set_ne false hki] at hlk
                  obtain ⟨u, e, r⟩ := hi.lvals k dk avk hk hkd hFk hlk
                  exact ⟨u, by rw [hput v dk (hne d k dk hqd (hC.lat k hk).2.1 (Ne.symm hki) hkd)]; exact e, r.keep hkp.size hkk⟩
              · by_cases hki : i = k
                · subst hki
                  have : dk = d := by rw [hdi] at hkd; exact (Option.some.inj hkd).symm
                  subst this
                  have : avk = av := hown.elim (fun h => absurd (List.mem_append_right _ h.1) hke) (fun h => Option.some.inj (hEk.symm.trans h.2))
                  subst this
                  exact ⟨v, by simp [Act.put, hi.tsz, hdni], hr⟩
                · rw [getD_set_ne false hki] at hlk
                  obtain ⟨u, e, r⟩ := hi.vals k dk avk hk hke hkd hEk hlk
                  exact ⟨u, by rw [hput v dk (hne d k dk hqd hk (Ne.symm hki) hkd)]; exact e, r.keep hkp.size hkk⟩
              · obtain ⟨u, e, r⟩ := hi.evals dk avk hl
                obtain ⟨k, k1, k2⟩ := (hi.edom dk).1 (by rw [hl]; simp)
                obtain ⟨k3, k4, _⟩ := (hi.lst k).1 k1
                exact ⟨u, by rw [hput v dk (hne d k dk hqd k4 (fun e => hie (e ▸ k3)) k2)]; exact e, r.keep hkp.size hkk⟩
              · have hj' : ∀ j, j < n → dstOf l j = some dk → listed.getD j false = false := fun j hjn hjd => by
                  by_cases hij : i = j
                  · subst hij; exact hun
                  · have := hj j hjn hjd; rwa [getD_set_ne false hij] at this
                obtain ⟨u, e, r⟩ := hi.base dk avk hj' hl
                exact ⟨u, by rw [hput v dk (fun e => by
                  have := hj i hin (by rw [← e]; exact hdi)
                  rw [getD_set_self (by rw [hi.size]; exact hil)] at this; cases this)]; exact e, r.keep hkp.size hkk⟩
            rcases hq with ⟨hg, hq⟩ | ⟨hg, rfl⟩
            · rw [if_pos (hguard _ hg)]
              exact hq he rfl X a w _ _ henv fun v w' hr hh hkp => hgo v w' hr hh hkp
            · rw [if_neg (by rw [hguard _ hg]; simp)]
              exact ⟨about_true, hgo _ _ (.v _) hi.heap (.refl _ _)⟩
  have hrep : ∀ i, (Array.replicate l.length false).getD i false = false := getD_rep l.length
  have hsz : l.toArray.size = l.length := by simp
  obtain ⟨F0, hF0⟩ : ∃ F0, (∀ k, k ∈ eff → k < n → k ∈ ([] : List Nat)) → GoodF P ro nt Q l n late sd t dsl E [] h F0 := by
    by_cases hA : ∀ k, k ∈ eff → k < n → k ∈ ([] : List Nat)
    · obtain ⟨F', k1, k2, k3, k4, k5⟩ := lfacts hC (r := late) (fun _ h => h) hC.lnd (fun j hj d hd => by
        rw [lk_append]
        obtain ⟨oj, g1, _, _, g4⟩ := hC.dst j (hC.lat j hj).2.1
        have hoj : oj.dst = some d := by rw [← hsome_dst j oj g1]; exact hd
        cases hx : lk E d with
        | some y =>
          obtain ⟨q, q1, q2, q3, q4⟩ := hE1' d y hx
          exact absurd rfl (g4 d hoj q q1 (fun e => q3 (e ▸ hj)) d q4)
        | none => rfl) (hfin _ _ _ h0 hA)
      exact ⟨F', fun _ => ⟨k1, k2, k3, k4, k5⟩⟩
    · exact ⟨[], fun h => absurd h hA⟩
  refine main l.toArray.size (List.range l.length) [] [] h F0 _ a0 { w0 with drawn := w0.drawn + 1 } ⟨by simp, fun i hi => ?_, fun i _ => ?_, hs.size, hs.defs, h0, ?_, fun i => ?_, fun i d av _ _ _ hl => ?_, fun i d av _ _ _ _ hl => ?_, fun d av hl => by simp [lk] at hl, fun d => by simp [lk], fun d av _ hl => ?_, ⟨Nat.le_refl _, fun b _ h => ⟨rfl, h⟩, EnvS.eq rfl rfl rfl (by first | exact Nat.le_refl _ | exact Nat.le_succ _)⟩⟩
    hF0 (fun i hi _ => List.mem_range.2 hi) (by simp)
  · rw [hsz, hrep i] at hi; cases hi
  · rw [hsz]; exact hrep i
  · exact hs.heap.grow (Nat.le_refl _) fun _ _ => rfl
  · rw [hsz, hrep i]; simp
  · rw [hsz, hrep i] at hl; cases hl
  · rw [hsz, hrep i] at hl; cases hl
  · obtain ⟨v, e, r⟩ := hs.fr d av hl
    exact ⟨v, e, Rel.keep (w := w0) (O := OO h X) (Nat.le_refl _) (fun b hb _ => ⟨rfl, hb⟩) r⟩
theorem jsoup_mono {P : Program} {ro : Option Nat} {nt : Nat} {C : Nat → List Res → Prop} {l : List Oper} {eff : List Nat} {sd : Nat → List Tmp} {t : Fr} : ∀ (os : List Oper) (i : Nat) (e : Fr) (K K' : Fr → Prop), (∀ e, K e → K' e) → jsoup P ro nt C l eff sd t os i e K → jsoup P ro nt C l eff sd t os i e K' := by
  intro os
  induction os with
  | nil => intro i e K K' h hk; exact h _ hk
  | cons o os ih =>
    intro i e K K' h hk
    rcases hk with ⟨h1, h2⟩ | ⟨h1, d, av, h2, h3⟩
    · exact .inl ⟨h1, ih _ _ _ _ h h2⟩
    · exact .inr ⟨h1, d, av, h2, ih _ _ _ _ h h3⟩
/-- Those that change memory come one after another. -/
def chainJ (l : List Oper) (n : Nat) : List Nat → Bool
  | [] => true
  | [i] => Nat.blt i n
  | i :: j :: r => Nat.blt i n && ((clos l j (predsOf l j)).any (Nat.beq i) && chainJ l n (j :: r))
section
variable {P : Program} {ro : Option Nat} {nt : Nat} {l : List Oper} {dsl : List Nat}
def jch (P : Program) (ro : Option Nat) (nt : Nat) (C : List Res → Prop) (l : List Oper) (dsl : List Nat) (E tt : Fr) : List Nat → Fr → List Res → (Fr → List Res → Prop) → Prop
  | [], ee, he, K => K ee he
  | i :: r, ee, he, K => ∃ o, l[i]? = some o ∧ ∀ u, OE P ro nt o ⟨fltP (pdst l o) E ++ (fltP (pdst l o) ee ++ (tt ++ u)), he, dsl⟩
      (fun s' => ∃ av he', s' = ⟨stF o av (fltP (pdst l o) E ++ (fltP (pdst l o) ee ++ (tt ++ u))), he', dsl⟩ ∧ C he' ∧ jch P ro nt C l dsl E tt r (stF o av ee) he' K)
theorem jcn {C : List Res → Prop} {E tt ee : Fr} {he : List Res} {K : Fr → List Res → Prop} (hk : K ee he) : jch P ro nt C l dsl E tt [] ee he K := hk
theorem jce {C : List Res → Prop} {E tt ee : Fr} {he : List Res} {K : Fr → List Res → Prop} {i : Nat} {r : List Nat} {o : Oper} (ho : l[i]? = some o)
    (hk : ∀ u, OE P ro nt o ⟨fltP (pdst l o) E ++ (fltP (pdst l o) ee ++ (tt ++ u)), he, dsl⟩
      (fun s' => ∃ av he', s' = ⟨stF o av (fltP (pdst l o) E ++ (fltP (pdst l o) ee ++ (tt ++ u))), he', dsl⟩ ∧ C he' ∧ jch P ro nt C l dsl E tt r (stF o av ee) he' K)) : jch P ro nt C l dsl E tt (i :: r) ee he K := ⟨o, ho, hk⟩
theorem chain_at {n : Nat} : ∀ {eff : List Nat}, chainJ l n eff = true → ∀ k, (hk : k + 1 < eff.length) → eff[k] ∈ clos l eff[k + 1] (predsOf l eff[k + 1])
  | [], _, k, hk => by simp at hk
  | [i], _, k, hk => by simp at hk
  | i :: j :: r, h, k, hk => by
    simp only [chainJ, Bool.and_eq_true] at h
    cases k with
    | zero =>
      obtain ⟨x, hx, e⟩ := List.any_eq_true.1 h.2.1
      simp only [List.getElem_cons_zero, List.getElem_cons_succ, Nat.zero_add]
      rw [Nat.eq_of_beq_eq_true e]; exact hx
    | succ k => exact chain_at (eff := j :: r) h.2.2 k (by simpa using hk)
end
theorem aw_drawXE {P : Program} {ro : Option Nat} {nt rid : Nat} {Q : Exit → St → Prop} {l : List Oper} {t : Fr} {h : List Res} {dsl : List Nat} (n : Nat) (eff late : List Nat) (sd : Nat → List Tmp) (hS : ∀ i, i < n → ∀ d, (sd i).any (Nat.beq d) = false → ∀ j, j < n → dstOf l j = some d → i ∈ clos l j (predsOf l j)) (C : Nat → List Res → Prop) (C0 : List Res → Prop) [hm : Mixed P] (hc : soupJ l n eff late = true) (hch : chainJ l n eff = true) (h0 : C0 h)
    (hCC : ∀ i, i < n → i ∉ eff → ∀ k he, (eff.take k = [] → he = h) → C0 he → (∀ j ∈ eff.take k, i ∉ clos l j (predsOf l j)) → C i he)
    (hk : jsoup P ro nt C l (eff ++ late) sd t (l.take n) 0 [] (fun E => jch P ro nt C0 l dsl E (fltN (sdst l n) t) eff [] h (fun ee he => lsoup P ro nt he l sd t late (E ++ ee) (fun F => aops P ro nt l.toArray (l.drop n) Q ⟨F ++ t, he, dsl⟩)))) : aw P ro nt (.region rid l.toArray true) Q ⟨t, h, dsl⟩ := by
  have hnd : ∀ (L : List Nat), chainJ l n L = true → (∀ i, i < l.length → ∀ j ∈ predsOf l i, j < i) → L.Pairwise (· < ·) ∧ ∀ i ∈ L, i < n := by
    intro L
    induction L with
    | nil => intro _ _; exact ⟨.nil, fun i h => by cases h⟩
    | cons i L ih =>
      intro hL hb
      cases L with
      | nil => exact ⟨by simp, fun j hj => by simp only [List.mem_singleton] at hj; subst hj; exact Nat.le_of_ble_eq_true hL⟩
      | cons j L =>
        have hL' := hL
        simp only [chainJ, Bool.and_eq_true] at hL
        obtain ⟨h1, h2⟩ := ih hL.2.2 hb
        have hjn : j < n := h2 j (by simp)
        have hij : i < j := by
          have hcl := chain_at hL' 0 (by simp)
          have hlt : ∀ (k : Nat) (S : List Nat) (b : Nat), (∀ x ∈ S, x < b) → ∀ x ∈ clos l k S, x < b := by
            intro k
            induction k with
            | zero => intro S b hS x hx; exact hS x hx
            | succ k ihk =>
              intro S b hS x hx
              unfold clos at hx
              refine ihk _ b (fun y hy => ?_) x hx
              split at hy
              · rename_i hany
                rcases List.mem_append.1 hy with hy | hy
                · exact hS y hy
                · obtain ⟨z, hz, e⟩ := List.any_eq_true.1 hany
                  have hzb := hS z hz
                  rw [← Nat.eq_of_beq_eq_true e] at hzb
                  by_cases hkl : k < l.length
                  · have := hb k hkl y hy; omega
                  · simp only [predsOf, List.getElem?_eq_none (Nat.le_of_not_lt hkl)] at hy; cases hy
              · exact hS y hy
          simp only [List.getElem_cons_zero, List.getElem_cons_succ, Nat.zero_add] at hcl
          by_cases hjl : j < l.length
          · exact hlt j _ j (hb j hjl) i hcl
          · have : predsOf l j = [] := by simp only [predsOf, List.getElem?_eq_none (Nat.le_of_not_lt hjl)]
            rw [this] at hcl
            have := hlt j [] 0 (fun x hx => by cases hx) i hcl; omega
        refine ⟨List.pairwise_cons.2 ⟨fun x hx => ?_, h1⟩, fun x hx => ?_⟩
        · rcases List.mem_cons.1 hx with rfl | hx
          · exact hij
          · have := (List.pairwise_cons.1 h1).1 x hx; omega
        · rcases List.mem_cons.1 hx with rfl | hx
          · exact Nat.le_of_ble_eq_true hL.1
          · exact h2 x hx
  obtain ⟨hlt, hin⟩ := hnd eff hch (soupD_of hc).back
  refine aw_drawG n eff late sd hS C hc (jsoup_mono _ _ _ _ _ (fun E hE => ?_) hk)
  refine ⟨fun L ee he => C0 he ∧ ∃ k, (eff.take k = [] → he = h) ∧ L = (eff.take k).reverse ∧ jch P ro nt C0 l dsl E (fltN (sdst l n) t) (eff.drop k) ee he (fun ee he => lsoup P ro nt he l sd t late (E ++ ee) (fun F => aops P ro nt l.toArray (l.drop n) Q ⟨F ++ t, he, dsl⟩)), ⟨h0, 0, fun _ => rfl, by simp, by simpa using hE⟩, ?_, ?_, ?_⟩
  · rintro L ee he ⟨hCe, k, hke, rfl, _⟩ i hi hie hcl
    exact hCC i hi hie k he hke hCe fun j hj => hcl j (List.mem_reverse.2 hj)
  · rintro L ee he ⟨hCe, k, hke, rfl, hj⟩ i o hie hiL hio hpre u
    obtain ⟨m, hm', rfl⟩ := List.getElem_of_mem hie
    have hkm : k ≤ m := Classical.byContradiction fun h => hiL (by rw [List.mem_reverse, List.mem_take_iff_getElem]; exact ⟨m, by omega, rfl⟩)
    have hmk : m = k := by
      rcases Nat.eq_or_lt_of_le hkm with h | h
      · exact h.symm
      · exfalso
        obtain ⟨m, rfl⟩ : ∃ m', m = m' + 1 := ⟨m - 1, by omega⟩
        have hcl := chain_at hch m hm'
        have := hpre _ hcl (List.getElem_mem _)
        rw [List.mem_reverse, List.mem_take_iff_getElem] at this
        obtain ⟨q, hq, e⟩ := this
        have hq' : q < m := by omega
        have := List.pairwise_iff_getElem.1 hlt q m (by omega) (by omega) hq'
        omega
    subst hmk
    rw [List.drop_eq_getElem_cons hm'] at hj
    obtain ⟨o', ho', hoe⟩ := hj
    obtain rfl : o' = o := Option.some.inj (ho'.symm.trans hio)
    intro X a w K Q' hs hK
    refine hoe u X a w K Q' hs fun s' a' w' hn hs' hk' => ?_
    obtain ⟨av, he', e, hC', hj'⟩ := hn
    exact hK s' a' w' ⟨av, he', e, hC', m + 1, fun q => absurd (congrArg List.length q) (by rw [List.length_take, List.length_nil]; omega), by rw [List.take_succ_eq_append_getElem hm', List.reverse_append]; rfl, hj'⟩ hs' hk'
  · rintro L ee he ⟨hCe, k, hke, rfl, hj⟩ hall
    have : eff.length ≤ k := Classical.byContradiction fun h => by
      have hk' : k < eff.length := by omega
      have := hall eff[k] (List.getElem_mem _) (hin _ (List.getElem_mem _))
      rw [List.mem_reverse, List.mem_take_iff_getElem] at this
      obtain ⟨q, hq, e⟩ := this
      have := List.pairwise_iff_getElem.1 hlt q k (by omega) hk' (by omega)
      omega
    rw [List.drop_eq_nil_of_le this] at hj
    exact hj
theorem aw_drawXG {P : Program} {ro : Option Nat} {nt rid : Nat} {Q : Exit → St → Prop} {l : List Oper} {t : Fr} {h : List Res} {dsl : List Nat} (n : Nat) (eff late : List Nat) (sd : Nat → List Tmp) (hS : ∀ i, i < n → ∀ d, (sd i).any (Nat.beq d) = false → ∀ j, j < n → dstOf l j = some d → i ∈ clos l j (predsOf l j)) (C : List Res → Prop) [hm : Mixed P] (hc : soupJ l n eff late = true) (hch : chainJ l n eff = true) (h0 : C h)
    (hk : jsoup P ro nt (fun _ => C) l (eff ++ late) sd t (l.take n) 0 [] (fun E => jch P ro nt C l dsl E (fltN (sdst l n) t) eff [] h (fun ee he => lsoup P ro nt he l sd t late (E ++ ee) (fun F => aops P ro nt l.toArray (l.drop n) Q ⟨F ++ t, he, dsl⟩)))) : aw P ro nt (.region rid l.toArray true) Q ⟨t, h, dsl⟩ :=
  aw_drawXE n eff late sd hS (fun _ => C) C hc hch h0 (fun _ _ _ _ _ _ h _ => h) hk
theorem aw_drawX {P : Program} {ro : Option Nat} {nt rid : Nat} {Q : Exit → St → Prop} {l : List Oper} {t : Fr} {h : List Res} {dsl : List Nat} (n : Nat) (eff late : List Nat) (C : List Res → Prop) [hm : Mixed P] (hc : soupJ l n eff late = true) (hch : chainJ l n eff = true) (h0 : C h)
    (hk : jsoup P ro nt (fun _ => C) l (eff ++ late) (fun _ => sdst l n) t (l.take n) 0 [] (fun E => jch P ro nt C l dsl E (fltN (sdst l n) t) eff [] h (fun ee he => lsoup P ro nt he l (fun _ => sdst l n) t late (E ++ ee) (fun F => aops P ro nt l.toArray (l.drop n) Q ⟨F ++ t, he, dsl⟩)))) : aw P ro nt (.region rid l.toArray true) Q ⟨t, h, dsl⟩ :=
  aw_drawXG n eff late (fun _ => sdst l n) (fun i hi d hf j hj hd => (sdst_no hf hj hd).elim) C hc hch h0 hk
end Go.Ab
/- Of a drawn region: an operation that waits for effects, and is passed over. Conditions: none. -/
namespace Go.Ab
open Go
end Go.Ab
/- Cutting off the room behind a row of one's own. Conditions: none (rules over any program). -/
set_option linter.unusedVariables false
namespace Go.Ab
open Go
/-- A slice without the room behind it. -/
def cutV (s : Value) (sz : Nat) : Value := match s with
  | .slice a n _ => sliced a 0 n n sz
  | v => v
theorem cut_add (a : Addr) (n sz : Nat) : (if n = 0 then some a else (some a).map (fun x : Addr => x.add (0 * sz))) = some a := by
  split
  · rfl
  · simp [Addr.add]
theorem cutV_some (a : Addr) (n c sz : Nat) : cutV (.slice (some a) n c) sz = .slice (some a) n n := by
  unfold cutV
  simp only [sliced]
  rw [cut_add, Nat.sub_zero]
theorem cutV_none (n c sz : Nat) : cutV (.slice none n c) sz = .slice none n n := by
  unfold cutV
  simp [sliced]
theorem cut_own (s : Value) (sz : Nat) (T : TypeId) (rows : List (List AV)) : (Res.row (cutV s sz) sz T rows).own = (Res.row s sz T rows).own := by
  cases s with
  | slice a n c =>
    cases a with
    | none => rw [cutV_none]; rfl
    | some a => rw [cutV_some]; rfl
  | _ => rfl
theorem cut_holds {w : World} {O : Nat → Prop} {s : Value} {sz : Nat} {T : TypeId} {rows : List (List AV)} (h : (Res.row s sz T rows).holds w O) : (Res.row (cutV s sz) sz T rows).holds w O := by
  cases s with
  | slice a n c =>
    cases a with
    | none =>
      obtain ⟨h1, h2, h3⟩ := h
      rw [cutV_none]; exact ⟨h1, h2, h2⟩
    | some a =>
      obtain ⟨h1, h2, h3, h4, cc, h5, h6, h7⟩ := h
      rw [cutV_some]
      exact ⟨h1, h2, Nat.le_refl _, h4, cc, h5, Nat.le_trans (Nat.add_le_add_left (Nat.mul_le_mul_right _ h3) _) h6, h7⟩
  | _ => exact h
theorem HRel.cut {X : Nat → Prop} {w : World} {h : List Res} {i : Nat} {s : Value} {sz : Nat} {T : TypeId} {rows : List (List AV)} (hh : HRel X w h) (hi : h[i]? = some (.row s sz T rows)) : HRel X w (h.set i (.row (cutV s sz) sz T rows)) := by
  have ho : owns (h.set i (.row (cutV s sz) sz T rows)) = owns h := by
    unfold owns
    rw [List.flatMap_def, List.flatMap_def, List.map_set, cut_own]
    congr 1
    obtain ⟨hl, e⟩ := List.getElem?_eq_some_iff.1 hi
    refine List.ext_getElem (by simp) fun j h1 h2 => ?_
    rw [List.getElem_set]
    split
    · rename_i e2; subst e2; rw [List.getElem_map, e]
    · rfl
  have hO : OO (h.set i (.row (cutV s sz) sz T rows)) X = OO h X := by unfold OO; rw [ho]
  refine ⟨by rw [ho]; exact hh.nodup, by rw [ho]; exact hh.lt, hh.xlt, fun r hr => ?_⟩
  rw [hO]
  rcases List.mem_or_eq_of_mem_set hr with h1 | h1
  · exact hh.holds r h1
  · rw [h1]; exact cut_holds (hh.holds _ (List.mem_of_getElem? hi))
section
variable {P : Program} {ro : Option Nat} {nt : Nat} {h : List Res} {f : Operand → Option AV} {dst : Option Tmp} {ty : TypeId} {pos : String} {after : Array Edge} {guard : Option (Nat × Bool)} {x y z : Operand}
theorem qr_cut_row {T E : TypeId} {s : Value} {sz i : Nat} {E' : TypeId} {rows : List (List AV)} (hx : f x = some (.v s)) [hr : HasRow h s i sz E' rows] (hy : f y = some (.v (.int .i64 rows.length))) (hz : f z = some (.v (.int .i64 rows.length)))
    [Und P T (.slice E)] [Siz P E sz] : QR P h f ⟨dst, .slice T x none (some y) (some z), ty, pos, after, guard⟩ (.v (cutV s sz)) := fun X ρ w he => by
  obtain ⟨a, cap, es, hcap, _⟩ := row_list he.heap hr.h
  obtain ⟨e1, e2⟩ := und_elem (P := P) (T := T) (E := E)
  have hv := (he.rel x _ hx).v_eq
  refine ⟨cutV s sz, run_v _ ?_, .v _⟩
  simp only [Option.map_none, Option.map_some]
  rw [run_sliceAt_slice w T _ _ _ _ e2, hv, (he.rel y _ hy).v_eq, (he.rel z _ hz).v_eq, es, run_slice_hm w T a _ cap e2 .i64 .i64 rows.length rows.length (by omega) (by omega) (by omega), e1]
  simp only [run_sizeOf (n := sz), Result.andThen_ok, Int.toNat_natCast]
  rfl
theorem aops_cut {ops : Array Oper} {l : List Oper} {Q : Exit → St → Prop} {t : Fr} {h h' : List Res} {ds : List Nat} (s : Value) {i sz : Nat} {T : TypeId} {rows : List (List AV)} [hr : HasRow h s i sz T rows] [hset : SetAt h i (.row (cutV s sz) sz T rows) h']
    (k : aops P ro nt ops l Q ⟨t, h', ds⟩) : aops P ro nt ops l Q ⟨t, h, ds⟩ := by
  refine aops_ent (s' := ⟨t, h', ds⟩) ?_ k
  have ho : owns h' = owns h := by
    rw [← hset.h]
    unfold owns
    rw [List.flatMap_def, List.flatMap_def, List.map_set, cut_own]
    congr 1
    obtain ⟨hl, e⟩ := List.getElem?_eq_some_iff.1 hr.h
    refine List.ext_getElem (by simp) fun j h1 h2 => ?_
    rw [List.getElem_set]
    split
    · rename_i e2; subst e2; rw [List.getElem_map, e]
    · rfl
  refine ⟨fun b hb => by rw [← ho]; exact hb, fun X a w hs => ⟨by rw [← hset.h]; exact hs.heap.cut hr.h, hs.size, ?_, hs.defs⟩⟩
  have : OO h' X = OO h X := by unfold OO; rw [ho]
  show FrRel w (OO h' X) t a.tmps
  rw [this]; exact hs.fr
end
end Go.Ab
/- Rounds whose variables are new memory. Conditions: none (lemmas over any program). -/
set_option linter.unusedVariables false
set_option linter.unusedSimpArgs false
namespace Go.Ab
open Go
/-- A round of a loop over a function, called aS yield; what its variables take is new memory. -/
theorem fcall_yield2 {P : Program} {l : Nat} {pend : Option Code} {fn : FuncId} {nt : Nat} {t : Fr} {ps : List Tmp} {asn body : Code} {dd : Nat} {args : List AV} {h : List Res} {R : AV → List Res → Prop} (hps : Nat.beq ps.length args.length = true) (hpn : (ps.all fun p => Nat.blt p nt) = true)
    (hb : aw P (some l) nt asn (thn (fun s => ∃ t' h2, Ent nt s ⟨t', .loop l .ready pend fn nt t ps.toArray asn body dd :: h2, []⟩ ∧ aw P (some l) nt body (RoundQ l pend fn nt t ps.toArray asn body dd R) ⟨t', .loop l .busy pend fn nt t ps.toArray asn body dd :: h2, []⟩) (fun _ _ => False))
      ⟨zipFr ps args t, .loop l .ready pend fn nt t ps.toArray asn body dd :: h, []⟩) : FCall P (yv l) args (.loop l .ready pend fn nt t ps.toArray asn body dd :: h) R := by
  intro X w v vs hh hv ha
  rw [hv.v_eq]
  obtain ⟨tmps, hl, hsz, hfr⟩ := loop_at hh
  have hlen : ps.length = vs.length := by rw [Nat.eq_of_beq_eq_true hps]; exact ha.length
  have hrun : (callV (.func (.yield l) #[] #[]) vs.toArray).run P w = .ok (.round l fn ((ps.zip vs).foldl (fun tmps (x : Tmp × Value) => tmps.setIfInBounds x.1 x.2) tmps) asn body) w := by
    simp only [callV, Deferred.ofValue, Sem.run_bind, Sem.run_pure, Result.andThen_ok, invoke, Instr.yield, run_getLoop hl]
    simp only [Array.append_eq_append, Array.empty_append, List.size_toArray]
    rw [if_neg (by omega)]
    simp only [Sem.run_pure]
    congr 2
    rw [← Array.foldl_toList]
    simp
  rw [hrun]
  have hpn' : ∀ p ∈ ps, p < tmps.size := fun p hp => by have := List.all_eq_true.1 hpn p hp; rw [hsz]; exact Nat.le_of_ble_eq_true this
  obtain ⟨z1, z2⟩ := zip_rel hpn' ha hfr
  refine roundIn_of_wpIn (F := FW none) trivial ?_
  refine wpIn_mono (hb X { tmps := (ps.zip vs).foldl (fun tmps (x : Tmp × Value) => tmps.setIfInBounds x.1 x.2) tmps, defers := [] } w ⟨hh, by rw [z2, hsz], z1, rfl⟩) ?_
  rintro e a1 w1 ⟨s1, q1, r1, k1⟩
  cases e with
  | normal =>
    obtain ⟨t', h2, hent, hbody⟩ := q1
    have r1' := hent.2 X a1 w1 r1
    have k1' : Keep (owns (.loop l .ready pend fn nt t ps.toArray asn body dd :: h)) w (owns (.loop l .ready pend fn nt t ps.toArray asn body dd :: h2)) w1 := ⟨k1.size, fun b hb ho => ⟨(k1.same b hb ho).1, fun hm => (k1.same b hb ho).2 (hent.1 b hm)⟩, k1.env⟩
    obtain ⟨tmps1, hl1, hsz1, hfr1⟩ := loop_at r1'.heap
    obtain ⟨w2, g1, g2, g3, g4, g5⟩ := loop_set (P := P) (st' := .busy) (pend' := pend) r1'.heap hl1
    refine ⟨w2, ?_, ?_⟩
    · simp only [Instr.beginRound, Sem.run_bind, run_getLoop hl1, Result.andThen_ok, g1, Sem.run_pure]
    · have hsim : Sim X nt ⟨t', .loop l .busy pend fn nt t ps.toArray asn body dd :: h2, []⟩ a1 w2 := ⟨g2, r1'.size, r1'.fr.keep g3.size g4, r1'.defs⟩
      refine wpIn_mono (hbody X a1 w2 hsim) ?_
      rintro e2 a3 w3 ⟨s3, ⟨h1, hp, hR⟩, r3, k3⟩
      have hh3 := r3.heap.perm hp
      obtain ⟨tmps3, hl3, hsz3, hfr3⟩ := loop_at hh3
      have fin : ∀ (jump : Option Code), (∀ b : Bool, b = jump.isNone → R (.v (.bool b)) (.loop l (if jump.isNone then .ready else .done) jump fn nt t ps.toArray asn body dd :: h1)) →
          ∃ v w', (Instr.endRound l jump).run P w3 = .ok v w' ∧ CPost X w (.loop l .ready pend fn nt t ps.toArray asn body dd :: h) R (.returned v) w' := by
        intro jump hRj
        obtain ⟨w4, f1, f2, f3, f4, f5⟩ := loop_set (P := P) (st' := if jump.isNone then .ready else .done) (pend' := jump) hh3 hl3
        refine ⟨.bool jump.isNone, w4, ?_, .bool jump.isNone, .v (.bool jump.isNone), _, rfl, hRj _ rfl, .v _, f2, ?_⟩
        · simp only [Instr.endRound, Sem.run_bind, run_getLoop hl3, Result.andThen_ok, f1, Sem.run_pure]
        · exact (k1'.trans g3).trans ((k3.perm_right hp).trans f3)
      cases e2 with
      | normal => exact fin none fun b hb => by subst hb; exact hR
      | ret => exact fin (some .ret) fun b hb => by subst hb; exact hR
      | exit id => exact fin (some (.exit id)) fun b hb => by subst hb; exact hR
      | goto g => exact hR.elim
      | panic ch => exact hR.elim
      | outgrown => exact hR.elim
  | exit id => exact q1.elim
  | goto g => exact q1.elim
  | ret => exact q1.elim
  | panic ch => exact q1.elim
  | outgrown => exact q1.elim
theorem fcall_yl2 {P : Program} {l : Nat} {pend : Option Code} {fn : FuncId} {nt : Nat} {t : Fr} {ps : List Tmp} {asn body : Code} {dd : Nat} {args : List AV} {h : List Res} {R : AV → List Res → Prop} {lp : LP} (hlp : lp = fun st pend => .loop l st pend fn nt t ps.toArray asn body dd)
    (hps : Nat.beq ps.length args.length = true) (hpn : (ps.all fun p => Nat.blt p nt) = true)
    (hb : aw P (some l) nt asn (thn (fun s => ∃ t' h2, Ent nt s ⟨t', lp .ready pend :: h2, []⟩ ∧ aw P (some l) nt body (RoundL lp pend R) ⟨t', lp .busy pend :: h2, []⟩) (fun _ _ => False))
      ⟨zipFr ps args t, lp .ready pend :: h, []⟩) : FCall P (yv l) args (lp .ready pend :: h) R := by
  subst hlp
  exact fcall_yield2 hps hpn hb
end Go.Ab
/- A loop over so many places with a state of its own; an append behind what was cut off. Conditions: none. -/
set_option linter.unusedVariables false
namespace Go.Ab
open Go
section
variable {P : Program} {ro : Option Nat} {nt : Nat} {c : Code} {Q : Exit → St → Prop} {t : Fr} {h : List Res} {ds : List Nat}
theorem aw_rngX {σ : Type} (n : Nat) (p : Nat → σ → Prop) (inv : Nat → σ → St) (x0 : σ) (hp : p 0 x0) (h0 : Ent nt ⟨t, h, ds⟩ (inv 0 x0))
    (round : ∀ k x, k ≤ n → p k x → aw P ro nt c (thn (fun s' => k < n ∧ ∃ x', p (k + 1) x' ∧ Ent nt s' (inv (k + 1) x')) Q) (inv k x)) : aw P ro nt (.loop c) Q ⟨t, h, ds⟩ :=
  aw_loop' (fun x : Nat × σ => x.1 ≤ n ∧ p x.1 x.2) (fun x => inv x.1 x.2) (fun x => n - x.1) (0, x0) ⟨Nat.zero_le _, hp⟩ h0 fun x hk => aw_mono (fun e s' hq => by
    cases e with
    | normal =>
      obtain ⟨h1, x', h2, h3⟩ := hq
      exact ⟨(x.1 + 1, x'), ⟨h1, h2⟩, h3, by simp only; omega⟩
    | _ => exact hq) (round x.1 x.2 hk.1 hk.2)
end
end Go.Ab
/- The walks of cmp, of slices.Equal, Compare. Conditions: none. -/
set_option linter.unusedVariables false
set_option linter.unusedSimpArgs false
set_option maxRecDepth 10000
namespace Go.Proofs
open Go Go.Ab
attribute [local irreducible] QR QV OE aops aw dsoup dsoupM dalloc dallocM thn inBlk jsoup jch lsoup
open Go.H
def edEq (a b : Ed) : Bool := ([a.f, a.t, a.k] : List Int) == [b.f, b.t, b.k]
theorem edEq_eq (a b : Ed) : edEq a b = decide (a = b) := by
  rw [edEq, Bool.eq_iff_iff, decide_eq_true_iff]
  obtain ⟨a1, a2, a3⟩ := a
  obtain ⟨b1, b2, b3⟩ := b
  simp
theorem intEqD (a b : Int) : intEq a b = decide (a = b) := rfl
def cmpN (a b : Int) : Int := if a < b then -1 else if b < a then 1 else 0
theorem cmpL_cons (a b : Int) (l m : List Int) : cmpL (a :: l) (b :: m) = if cmpN a b = 0 then cmpL l m else cmpN a b := by
  rw [cmpL, cmpN]
  by_cases h1 : a < b
  · rw [if_pos h1, if_pos h1]; rfl
  · rw [if_neg h1, if_neg h1]
    by_cases h2 : b < a
    · rw [if_pos h2, if_pos h2]; rfl
    · rw [if_neg h2, if_neg h2]; rfl
theorem cmpL_nil_r : ∀ (l : List Int), l ≠ [] → cmpL l [] = 1
  | [], h => absurd rfl h
  | _ :: _, _ => rfl
theorem cmpL_nil_l : ∀ (l : List Int), l ≠ [] → cmpL [] l = -1
  | [], h => absurd rfl h
  | _ :: _, _ => rfl
def orL : List Int → Int
  | [] => 0
  | a :: r => if a ≠ 0 then a else orL r
theorem orL_nz {l : List Int} {k : Nat} (hk : k < l.length) (h : l[k] ≠ 0) : orL (l.drop k) = l[k] := by
  rw [List.drop_eq_getElem_cons hk, orL, if_pos h]
theorem orL_z {l : List Int} {k : Nat} (hk : k < l.length) (h : l[k] = 0) : orL (l.drop k) = orL (l.drop (k + 1)) := by
  rw [List.drop_eq_getElem_cons hk, orL, if_neg (by simpa using h)]
theorem orL_end {l : List Int} {k : Nat} (hk : k = l.length) : orL (l.drop k) = 0 := by rw [hk, List.drop_length]; rfl
theorem orL_ed (a b : Ed) : orL [cmpN a.f b.f, cmpN a.t b.t, cmpN a.k b.k] = cmpE a b := by
  unfold cmpE fldE
  rw [cmpL_cons, cmpL_cons, cmpL_cons]
  simp only [orL, cmpL]
  by_cases h1 : cmpN a.f b.f = 0
  · by_cases h2 : cmpN a.t b.t = 0
    · by_cases h3 : cmpN a.k b.k = 0 <;> simp [h1, h2, h3]
    · simp [h1, h2]
  · simp [h1]
theorem isNaN (a : Int) : ACall Tryz.prog 94 [iv a] [] (fun r h' => h' = [] ∧ r = bv false) := by
  refine acall_of_aw Tryz.func94 rfl rfl rfl ?_
  refine rn ?_
  refine rq 0 ?_
  exact ⟨rfl, congrArg bv (bne_self_eq_false a)⟩
theorem cmpInt (a b : Int) : ACall Tryz.prog 74 [iv a, iv b] [] (fun r h' => h' = [] ∧ r = iv (cmpN a b)) := by
  refine acall_of_aw Tryz.func74 rfl rfl rfl ?_
  refine rn ?_
  refine qv rfl rfl (qv_call rfl rfl (pcall (isNaN _) (Sbs.refl _))) ?_
  refine rn ?_
  refine qv rfl rfl (qv_call rfl rfl (pcall (isNaN _) (Sbs.refl _))) ?_
  refine rn ?_
  refine aw_cond rfl (fun hc11 => ?_) (fun hc11 => ?_)
  · exact absurd hc11 (by decide)
  · refine rn ?_
    refine aw_cond rfl (fun hc13 => ?_) (fun hc13 => ?_)
    · exact absurd hc13 (by decide)
    · refine rn ?_
      refine aw_cond rfl (fun hc16 => ?_) (fun hc16 => ?_)
      · refine rn ?_
        refine rq 0 ?_
        exact ⟨rfl, congrArg iv (by rw [cmpN, if_pos (of_decide_eq_true hc16)])⟩
      · refine rn ?_
        refine aw_cond rfl (fun hc19 => ?_) (fun hc19 => ?_)
        · refine rn ?_
          refine rq 0 ?_
          exact ⟨rfl, congrArg iv (by rw [cmpN, if_neg (of_decide_eq_false hc16), if_pos (of_decide_eq_true hc19)])⟩
        · refine rn ?_
          refine rq 0 ?_
          exact ⟨rfl, congrArg iv (by rw [cmpN, if_neg (of_decide_eq_false hc16), if_neg (of_decide_eq_false hc19)])⟩
theorem slicesCmp {f g : Bool} (l m : List Int) (hl : l.length ≤ 4611686018427387904) (hm : m.length ≤ 4611686018427387904) : ACall Tryz.prog 85 [.list f 1 (l.map intR), .list g 1 (m.map intR)] [] (fun r h' => h' = [] ∧ r = iv (cmpL l m)) := by
  refine acall_of_aw Tryz.func85 rfl rfl rfl ?_
  refine rn ?_
  refine aw_rng (l.length) (fun k : Nat => k ≤ m.length ∧ cmpL l m = cmpL (l.drop k) (m.drop k)) (fun k => [(11, iv k)]) [(0, _), (1, _), (9, _), (10, _)] ⟨Nat.zero_le _, rfl⟩ ?_
  rintro k lk ⟨km, zk⟩
  refine rn ?_
  refine aw_cond rfl (fun hc12 => ?_) (fun hc12 => ?_)
  · have hk := ltMap hc12
    have rk := atRow (f := intR) hk
    refine rn ?_
    refine aw_cond rfl (fun hc19 => ?_) (fun hc19 => ?_)
    · have q := of_decide_eq_true hc19
      rw [List.length_map] at q
      have qm : k = m.length := by omega
      refine rn ?_
      refine rq 0 ?_
      exact ⟨rfl, congrArg iv (by rw [zk, qm, List.drop_length, cmpL_nil_r _ (by rw [List.drop_eq_getElem_cons (by omega)]; exact List.cons_ne_nil _ _)])⟩
    · have q := of_decide_eq_false hc19
      rw [List.length_map] at q
      have hkm : k < m.length := by omega
      have rm := atRow (f := intR) hkm
      refine rn ?_
      refine qv rfl rfl (qv_call rfl rfl (pcall (cmpInt l[k] m[k]) (Sbs.refl _))) ?_
      refine rn ?_
      refine aw_cond rfl (fun hc28 => ?_) (fun hc28 => ?_)
      · have hn : ¬ cmpN l[k] m[k] = 0 := by simpa using hc28
        refine rn ?_
        refine rq 0 ?_
        exact ⟨rfl, congrArg iv (by rw [zk, List.drop_eq_getElem_cons hk, List.drop_eq_getElem_cons hkm, cmpL_cons, if_neg hn])⟩
      · refine rn ?_
        exact ⟨hk, ⟨hkm, by rw [zk, List.drop_eq_getElem_cons hk, List.drop_eq_getElem_cons hkm, cmpL_cons, if_pos (by simpa using hc28)]⟩, eA⟩
  · have qk := geMap hc12 lk
    refine rn ?_
    refine aw_cond rfl (fun hc35 => ?_) (fun hc35 => ?_)
    · have q := of_decide_eq_true hc35
      rw [List.length_map, List.length_map] at q
      refine rn ?_
      refine rq 0 ?_
      exact ⟨rfl, congrArg iv (by rw [zk, qk, List.drop_length, cmpL_nil_l _ (by rw [List.drop_eq_getElem_cons (by omega)]; exact List.cons_ne_nil _ _)])⟩
    · have q := of_decide_eq_false hc35
      rw [List.length_map, List.length_map] at q
      have qm : k = m.length := by omega
      refine rn ?_
      refine rq 0 ?_
      exact ⟨rfl, congrArg iv (by rw [zk, List.drop_eq_nil_of_le (by omega), List.drop_eq_nil_of_le (by omega)]; rfl)⟩
theorem cmpOr {f : Bool} (l : List Int) (hl : l.length ≤ 4611686018427387904) : ACall Tryz.prog 73 [.list f 1 (l.map intR)] [] (fun r h' => h' = [] ∧ r = iv (orL l)) := by
  refine acall_of_aw Tryz.func73 rfl rfl rfl ?_
  refine rn ?_
  refine aw_rng (l.length) (fun k : Nat => orL l = orL (l.drop k)) (fun k => [(8, iv k)]) [(3, _), (6, _), (7, _)] rfl ?_
  intro k lk zk
  refine rn ?_
  refine aw_cond rfl (fun hc9 => ?_) (fun hc9 => ?_)
  · have hk := ltMap hc9
    have rk := atRow (f := intR) hk
    refine rn ?_
    refine aw_cond rfl (fun hc14 => ?_) (fun hc14 => ?_)
    · refine rn ?_
      refine rq 0 ?_
      exact ⟨rfl, congrArg iv (by rw [zk, orL_nz hk (by simpa using hc14)])⟩
    · refine rn ?_
      exact ⟨hk, by rw [zk, orL_z hk (by simpa using hc14)], eA⟩
  · have qk := geMap hc9 lk
    refine rn ?_
    refine rq 0 ?_
    exact ⟨rfl, congrArg iv (by rw [zk, orL_end qk])⟩
theorem equalInt {f g : Bool} (l m : List Int) (hl : l.length ≤ 4611686018427387904) (hm : m.length ≤ 4611686018427387904) : ACall Tryz.prog 17 [.list f 1 (l.map intR), .list g 1 (m.map intR)] [] (fun r h' => h' = [] ∧ r = bv (eqF intEq l m)) := by
  refine acall_of_aw Tryz.func17 rfl rfl rfl ?_
  refine rn ?_
  refine aw_cond rfl (fun hc10 => ?_) (fun hc10 => ?_)
  · refine rn ?_
    have hne : (l.length == m.length) = false := beq_eq_false_iff_ne.2 fun q => by simp [q] at hc10
    exact retq (.cons _ _ _ _ (.tmp _ _ rfl) .nil) (.refl _ _) ⟨rfl, by rw [eqF, hne, Bool.false_and]; rfl⟩
  · have hlm : l.length = m.length := by simp at hc10; omega
    refine rn ?_
    refine aw_loop' (fun k : Nat => k ≤ l.length ∧ zall intEq l m = zall intEq (l.drop k) (m.drop k)) (fun k => ⟨[(13, iv k), (0, .list f 1 (l.map intR)), (1, .list g 1 (m.map intR)), (12, iv (l.map intR).length)], [], []⟩) (fun k => l.length - k) 0 ⟨Nat.zero_le _, by simp⟩
      (ent_sub (.cons _ _ _ rfl (.cons _ _ _ rfl (.cons _ _ _ rfl (.cons _ _ _ rfl (.nil)))))) ?_
    rintro k ⟨hk, hz⟩
    refine rn ?_
    refine aw_cond rfl (fun hc14 => ?_) (fun hc14 => ?_)
    · have hk2 : k < l.length := by simpa using hc14
      have hk3 : k < m.length := by omega
      have hrow1 : (l.map intR)[k]? = some (intR l[k]) := by simp [hk2]
      have hrow2 : (m.map intR)[k]? = some (intR m[k]) := by simp [hk3]
      have hd1 := List.drop_eq_getElem_cons hk2
      have hd2 := List.drop_eq_getElem_cons hk3
      refine rn ?_
      refine aw_draw 8 rfl ?_
      refine rn ?_
      refine aw_cond rfl (fun hc24 => ?_) (fun hc24 => ?_)
      · refine rn ?_
        exact retq (.cons _ _ _ _ (.tmp _ _ rfl) .nil) (.refl _ _) ⟨rfl, by rw [eqF, hz, hd1, hd2, zall, show intEq l[k] m[k] = false from not_t hc24, Bool.false_and, Bool.and_false]; rfl⟩
      · refine rn ?_
        exact ⟨k + 1, ⟨by omega, by rw [hz, hd1, hd2, zall, show intEq l[k] m[k] = true from not_f hc24, Bool.true_and]⟩, (ent_sub (.cons _ _ _ rfl (.cons _ _ _ rfl (.cons _ _ _ rfl (.cons _ _ _ rfl (.nil)))))), by omega⟩
    · have hk3 : k = l.length := by
        have : l.length ≤ k := by simpa using hc14
        omega
      refine rn ?_
      exact retq (.cons _ _ _ _ (.tmp _ _ rfl) .nil) (.refl _ _) ⟨rfl, by rw [eqF, hz, hk3, List.drop_length, zall_nil, hlm, beq_self_eq_true]; rfl⟩
theorem eqInt {f g : Bool} (l : List Int) (hl : l.length ≤ 4611686018427387904) : ACall Tryz.prog 17 [.list f 1 (l.map intR), .list g 1 (l.map intR)] [] (fun r h' => h' = [] ∧ r = bv true) := (equalInt l l hl hl).mono fun _ _ q => ⟨q.1, by rw [q.2, eqF_eq intEqD]; simp⟩
end Go.Proofs
/- The walks of graph's edge, compare, all, Check. Conditions: none. -/
set_option linter.unusedVariables false
set_option linter.unusedSimpArgs false
set_option maxRecDepth 10000
namespace Go.Proofs
open Go Go.Ab
attribute [local irreducible] QR QV OE aops aw dsoup dsoupM dalloc dallocM thn inBlk jsoup jch lsoup
open Go.H
abbrev idB : Ed → Bool := fun _ => true
theorem grNode (v n : Int) (b : Nat) : ACall Tryz.prog 72 [iv v, .v (.pointer (some ⟨b, 0, none⟩))] (.box b 3 [iv n] :: []) (fun r h' => h' = .box b 3 [iv n] :: [] ∧ r = bv (decide (0 ≤ v) && decide (v < n))) := by
  refine acall_of_aw Tryz.func72 rfl rfl rfl ?_
  refine rn ?_
  refine asplit (fun hg1_2 => ?_) (fun hg1_2 => ?_)
  · refine rn ?_
    refine rq 0 ?_
    exact ⟨rfl, congrArg bv (by first | (simp_all; done) | (simp_all <;> omega))⟩
  · refine rn ?_
    refine rq 0 ?_
    exact ⟨rfl, congrArg bv (by first | (simp_all; done) | (simp_all <;> omega))⟩
set_option maxHeartbeats 1000000 in
theorem grEdge (n : Int) (e : Ed) : ACall Tryz.prog 55 [iv n, .agg (edR e)] [] (fun r h' => h' = [] ∧ r = bv (edgeB n e)) := by
  refine acall_of_aw Tryz.func55 rfl rfl rfl ?_
  refine rn ?_
  refine aops_e rfl (oe_box rfl rfl rfl fun b2 => ?_)
  refine aops_e rfl (oe_box rfl rfl rfl fun b3 => ?_)
  refine rn ?_
  refine qv rfl rfl (qv_call rfl rfl (FCall.qt (FCall.of_acall (fs := []) (cs := [.v (.pointer (some ⟨b2, 0, none⟩))]) (grNode e.f n b2)) (pt1 _ _ _))) ?_
  refine rn ?_
  refine asplit (fun hg2_4 => ?_) (fun hg2_4 => ?_)
  · refine rn ?_
    refine qv rfl rfl (qv_call rfl rfl (FCall.qt (FCall.of_acall (fs := []) (cs := [.v (.pointer (some ⟨b2, 0, none⟩))]) (grNode e.t n b2)) (pt1 _ _ _))) ?_
    refine rn ?_
    refine asplit (fun hg2_10 => ?_) (fun hg2_10 => ?_)
    · refine rn ?_
      refine asplit (fun hg2_17 => ?_) (fun hg2_17 => ?_)
      · refine rn ?_
        refine asplit (fun hg2_22 => ?_) (fun hg2_22 => ?_)
        · refine rn ?_
          refine rq 2 ?_
          exact ⟨rfl, congrArg bv (by unfold edgeB; first | (simp_all; done) | (simp_all <;> omega))⟩
        · refine rn ?_
          refine rq 2 ?_
          exact ⟨rfl, congrArg bv (by unfold edgeB; first | (simp_all; done) | (simp_all <;> omega))⟩
      · refine rn ?_
        refine rq 2 ?_
        exact ⟨rfl, congrArg bv (by unfold edgeB; first | (simp_all; done) | (simp_all <;> omega))⟩
    · refine rn ?_
      refine rq 2 ?_
      exact ⟨rfl, congrArg bv (by unfold edgeB; first | (simp_all; done) | (simp_all <;> omega))⟩
  · refine rn ?_
    refine rq 2 ?_
    exact ⟨rfl, congrArg bv (by unfold edgeB; first | (simp_all; done) | (simp_all <;> omega))⟩
set_option maxHeartbeats 4000000 in
theorem gCompare (a b : Ed) : ACall Tryz.prog 56 [.agg (edR a), .agg (edR b)] [] (fun r h' => h' = [] ∧ r = iv (cmpE a b)) := by
  refine acall_of_aw Tryz.func56 rfl rfl rfl ?_
  refine rn ?_
  refine aops_e rfl (oe_box rfl rfl rfl fun b2 => ?_)
  refine aops_e rfl (oe_box rfl rfl rfl fun b3 => ?_)
  refine rn ?_
  refine aw_draw 14 rfl ?_
  refine rn ?_
  refine dv rfl rfl (by exact qv_call rfl rfl (pcall (cmpInt _ _) (Sbs.refl _))) ?_
  refine rn ?_
  refine dv rfl rfl (by exact qv_call rfl rfl (pcall (cmpInt _ _) (Sbs.refl _))) ?_
  refine rn ?_
  refine qv rfl rfl (qv_call rfl rfl (pcall (cmpInt _ _) (Sbs.refl _))) ?_
  refine qv rfl rfl (qv_buildSlice rfl rfl) ?_
  refine qv rfl rfl (qv_call rfl rfl (pcall (cmpOr [cmpN a.f b.f, cmpN a.t b.t, cmpN a.k b.k] (by simp only [List.length_cons, List.length_nil]; omega)) (Sbs.refl _))) ?_
  refine rn ?_
  refine rq 2 ?_
  exact ⟨rfl, congrArg iv (orL_ed a b)⟩
theorem all_rs {p : Nat → Bool} {k : Nat} (h : (List.range k).all p = true) (hk : p k = true) : (List.range (k + 1)).all p = true := by
  rw [List.range_succ, List.all_append, h]; simp [hk]
theorem all_rf {p : Nat → Bool} {k n : Nat} (hk : k < n) (h : p k = false) : (List.range n).all p = false := by
  cases q : (List.range n).all p with
  | false => rfl
  | true => rw [List.all_eq_true.1 q k (List.mem_range.2 hk)] at h; cases h
theorem grAll {f : Bool} (l : List Ed) (fv : AV) (p : Nat → Bool) (G : List Res) (hl : l.length ≤ 4611686018427387904) (hp : ∀ i (hi : i < l.length), FCall Tryz.prog fv [iv i, .agg (edR l[i])] G (fun r h' => h' = G ∧ r = bv (p i))) : ACall Tryz.prog 53 [.list f 3 (l.map edR), fv] G (fun r h' => h' = G ∧ r = bv ((List.range l.length).all p)) := by
  refine acall_of_aw Tryz.func53 rfl rfl rfl ?_
  refine rn ?_
  refine aw_range l.length (fun k => (List.range k).all p = true) (fun k => ⟨[(9, iv k), (1, fv), (7, .list f 3 (l.map edR)), (8, iv (l.map edR).length)], G, []⟩) rfl es ?_
  intro k lk zk
  refine rn ?_
  refine aw_cond rfl (fun hc10 => ?_) (fun hc10 => ?_)
  · have hk := ltMap hc10
    have rk := atRow (f := edR) hk
    refine rn ?_
    refine aops_e rfl (oe_alloc rfl fun b6 => ?_)
    refine rn ?_
    refine qv rfl rfl (qv_call rfl rfl (FCall.quiet (R := fun x => x = bv (p k)) (h2 := [_]) (List.perm_append_comm (l₁ := [_])) (hp k hk))) ?_
    refine rn ?_
    refine aw_cond rfl (fun hc18 => ?_) (fun hc18 => ?_)
    · have hpk : p k = false := by simpa using hc18
      refine rn ?_
      refine rq 1 ?_
      exact ⟨rfl, congrArg bv (by rw [all_rf hk hpk])⟩
    · have hpk : p k = true := by simpa using hc18
      refine rn ?_
      exact ⟨hk, all_rs zk hpk, eA⟩
  · have qk := geMap hc10 lk
    refine rn ?_
    refine rq 0 ?_
    exact ⟨rfl, congrArg bv (by rw [← qk, zk])⟩
set_option maxHeartbeats 1000000 in
theorem grChk1 (g : Gr) (i : Nat) (hi : i < g.es.length) (hb : g.es.length ≤ 4611686018427387904) (b : Nat) : ACall Tryz.prog 54 [iv i, .agg (edR g.es[i]), .v (.pointer (some ⟨b, 0, none⟩))] (.box b 24 (grR g) :: []) (fun r h' => h' = .box b 24 (grR g) :: [] ∧ r = bv (stepB g.n g.es i)) := by
  refine acall_of_aw Tryz.func54 rfl rfl rfl ?_
  refine rn ?_
  refine aops_e rfl (oe_box rfl rfl rfl fun b4 => ?_)
  refine rn ?_
  refine aw_draw 15 rfl ?_
  refine rn ?_
  refine dv rfl rfl (by exact qv_call rfl rfl (pcall (grEdge g.n g.es[i]) (Sbs.refl _))) ?_
  refine rn ?_
  refine dsplit (fun hg1_4 => ?_) (fun hg1_4 => ?_)
  · refine rn ?_
    refine dsplit (fun hg1_7 => ?_) (fun hg1_7 => ?_)
    · refine rn ?_
      refine rq 1 ?_
      exact ⟨rfl, congrArg bv (by rw [step_at hi]; first | (simp_all; done) | (simp_all <;> omega))⟩
    · refine dq rfl rfl qrA ?_
      refine dq rfl rfl qrA ?_
      refine dq rfl rfl qrA ?_
      refine dq rfl rfl (qr_as (qr_ari rfl rfl rfl (by omega)) (show iv _ = iv ((i - 1 : Nat) : Int) from congrArg iv (by have q := hg1_7; simp at q; omega))) ?_
      refine dq rfl rfl (qr_index_list (i := i - 1) rfl rfl (atRow (f := edR) (show i - 1 < g.es.length by omega))) ?_
      refine rn ?_
      refine qv rfl rfl (qv_call rfl rfl (pcall (gCompare (g.es[i - 1]'(by omega)) g.es[i]) (Sbs.refl _))) ?_
      refine rn ?_
      refine rq 1 ?_
      exact ⟨rfl, congrArg bv (by rw [step_at hi]; first | (simp_all; done) | (simp_all <;> omega))⟩
  · refine rn ?_
    refine rq 1 ?_
    exact ⟨rfl, congrArg bv (by rw [step_at hi]; first | (simp_all; done) | (simp_all <;> omega))⟩
set_option maxHeartbeats 1000000 in
theorem grCheck (g : Gr) (hb : g.es.length ≤ 4611686018427387904) : ACall Tryz.prog 26 [.agg (grR g)] [] (fun r h' => h' = [] ∧ r = iv (chkE g)) := by
  refine acall_of_aw Tryz.func26 rfl rfl rfl ?_
  refine rn ?_
  refine aops_e rfl (oe_box rfl rfl rfl fun b1 => ?_)
  refine rn ?_
  refine asplit (fun hg1_3 => ?_) (fun hg1_3 => ?_)
  · refine rn ?_
    refine asplit (fun hg1_8 => ?_) (fun hg1_8 => ?_)
    · refine rn ?_
      refine asplit (fun hg2_2 => ?_) (fun hg2_2 => ?_)
      · refine rn ?_
        refine aw_ct rfl ?_
        refine rn ?_
        refine rq 1 ?_
        exact ⟨rfl, congrArg iv (by unfold chkE chkB; first | (simp_all; done) | (simp_all <;> omega))⟩
      · refine rn ?_
        refine qv rfl rfl (qv_call rfl rfl (FCall.of_fun (grAll g.es (.fn (.func 54) [] [.v (.pointer (some ⟨b1, 0, none⟩))]) (stepB g.n g.es) (.box b1 24 (grR g) :: []) hb (fun i hi => FCall.of_acall (fs := []) (cs := [.v (.pointer (some ⟨b1, 0, none⟩))]) (grChk1 g i hi hb b1))))) ?_
        refine rn ?_
        refine aw_cond rfl (fun hc26 => ?_) (fun hc26 => ?_)
        · refine rn ?_
          refine rq 1 ?_
          exact ⟨rfl, congrArg iv (by unfold chkE chkB; first | (simp_all; done) | (simp_all <;> omega))⟩
        · refine rn ?_
          refine rq 1 ?_
          exact ⟨rfl, congrArg iv (by unfold chkE chkB; first | (simp_all; done) | (simp_all <;> omega))⟩
    · refine rn ?_
      refine aw_ct rfl ?_
      refine rn ?_
      refine rq 1 ?_
      exact ⟨rfl, congrArg iv (by unfold chkE chkB; first | (simp_all; done) | (simp_all <;> omega))⟩
  · refine rn ?_
    refine aw_ct rfl ?_
    refine rn ?_
    refine rq 1 ?_
    exact ⟨rfl, congrArg iv (by unfold chkE chkB; first | (simp_all; done) | (simp_all <;> omega))⟩
end Go.Proofs
/- The walks of graph's edges. Conditions: none. -/
set_option linter.unusedVariables false
set_option linter.unusedSimpArgs false
set_option maxRecDepth 10000
namespace Go.Proofs
open Go Go.Ab
attribute [local irreducible] QR QV OE aops aw dsoup dsoupM dalloc dallocM thn inBlk jsoup jch lsoup
open Go.H
theorem grEdges (g : Gr) (fv : AV) (hone : fv.cellsOf = some [fv]) (W : List Res) : ACall Tryz.prog 100 [.agg (grR g), fv] W (fun r h' => ∃ bh bg, h' = .box bh 135 [fv] :: .box bg 24 (grR g) :: W ∧ r = .fn (.func 111) [] [.v (.pointer (some ⟨bg, 0, none⟩)), .v (.pointer (some ⟨bh, 0, none⟩))]) := by
  refine acall_of_aw Tryz.func100 rfl rfl rfl ?_
  refine rn ?_
  refine aops_e rfl (oe_box rfl rfl rfl fun b2 => ?_)
  refine aops_e rfl (oe_box rfl hone rfl fun b3 => ?_)
  refine rn ?_
  exact retq (.cons _ _ _ _ (.tmp _ _ rfl) .nil) (.refl _ _) ⟨_, _, rfl, rfl⟩
theorem fk_y {p : Ed → Bool} {l : List Ed} {k : Nat} (hk : k < l.length) (h : p l[k] = true) : (l.take (k + 1)).filter p = (l.take k).filter p ++ [l[k]] := by
  rw [List.take_succ_eq_append_getElem hk, List.filter_append, List.filter_cons_of_pos h]; rfl
theorem fk_n {p : Ed → Bool} {l : List Ed} {k : Nat} (hk : k < l.length) (h : p l[k] = false) : (l.take (k + 1)).filter p = (l.take k).filter p := by
  rw [List.take_succ_eq_append_getElem hk, List.filter_append, List.filter_cons_of_neg (by rw [h]; decide)]; simp
theorem fk_split {p : Ed → Bool} {l : List Ed} {k : Nat} (hk : k < l.length) (h : p l[k] = true) : l.filter p = (l.take k).filter p ++ l[k] :: (l.drop (k + 1)).filter p := by
  conv => lhs; rw [← List.take_append_drop k l, List.drop_eq_getElem_cons hk]
  rw [List.filter_append, List.filter_cons_of_pos h]
set_option maxHeartbeats 1000000 in
theorem edTell {σ : Type} (g : Gr) (hb : g.es.length ≤ 4611686018427387904) (fv : AV) (p : Ed → Bool) (hp : ∀ e ∈ g.es, FCall Tryz.prog fv [.agg (edR e)] [] (fun r h' => h' = [] ∧ r = bv (p e))) (y : AV) (bg bh : Nat) (I : List Ed → σ → List Res) (x0 : σ) (hy : ∀ pre d rest (s : σ), g.es.filter p = pre ++ d :: rest → FCall Tryz.prog y [.agg (edR d)] (.box bh 135 [fv] :: .box bg 24 (grR g) :: I pre s) (fun r h' => ∃ s', r = bv true ∧ h' = .box bh 135 [fv] :: .box bg 24 (grR g) :: I (pre ++ [d]) s')) : ACall Tryz.prog 111 [y, .v (.pointer (some ⟨bg, 0, none⟩)), .v (.pointer (some ⟨bh, 0, none⟩))] (.box bh 135 [fv] :: .box bg 24 (grR g) :: I [] x0) (fun r h' => ∃ x, h' = .box bh 135 [fv] :: .box bg 24 (grR g) :: I (g.es.filter p) x) := by
  refine acall_of_aw Tryz.func111 rfl rfl rfl ?_
  refine rn ?_
  refine aw_rngX g.es.length (fun _ _ => True) (fun k x => ⟨[(9, iv k), (0, y), (2, .v (.pointer (some ⟨bh, 0, none⟩))), (7, edsA g.es), (8, iv (g.es.map edR).length)], .box bh 135 [fv] :: .box bg 24 (grR g) :: I ((g.es.take k).filter p) x, []⟩) x0 trivial es ?_
  intro k x lk _
  refine rn ?_
  refine aw_cond rfl (fun hc10 => ?_) (fun hc10 => ?_)
  · have hk := ltMap hc10
    have rk := atRow (f := edR) hk
    refine rn ?_
    refine aops_e rfl (oe_alloc rfl fun b5 => ?_)
    refine rn ?_
    refine qv rfl rfl (qv_call rfl rfl (FCall.pure (R := fun x => x = bv (p g.es[k])) (hp g.es[k] (List.getElem_mem hk)))) ?_
    refine rn ?_
    refine asplit (fun hg3_3 => ?_) (fun hg3_3 => ?_)
    · refine rn ?_
      obtain hL := fk_split (p := p) hk hg3_3
      refine aops_e rfl (oe_call rfl rfl (FCall.fr1 (hy ((g.es.take k).filter p) g.es[k] _ x hL)) rfl ?_)
      rintro _ _ ⟨_, rfl, x', rfl, rfl⟩
      refine rn ?_
      refine aw_cond rfl (fun hc21 => ?_) (fun hc21 => ?_)
      · exact absurd hc21 (by decide)
      · refine rn ?_
        exact ⟨hk, x', trivial, by rw [fk_y hk hg3_3]; exact eA⟩
    · refine rn ?_
      refine aw_cf rfl ?_
      refine rn ?_
      exact ⟨hk, x, trivial, by rw [fk_n hk hg3_3]; exact eA⟩
  · have qk := geMap hc10 lk
    refine rn ?_
    exact retq_n .nil (.refl _ _) ⟨x, by rw [qk, List.take_length]⟩
end Go.Proofs
/- The walks of slices.Collect, of graph's Filter. Conditions: none. -/
set_option linter.unusedVariables false
set_option linter.unusedSimpArgs false
set_option maxRecDepth 10000
namespace Go.Proofs
open Go Go.Ab
attribute [local irreducible] QR QV OE aops aw dsoup dsoupM dalloc dallocM thn inBlk jsoup jch lsoup
open Go.H
theorem nzT {a : Int} (h : (a != 0) = true) : a ≠ 0 := by simpa using h
theorem nzF {a : Int} (h : (a != 0) = false) : a = 0 := by simpa using h
def staL (g : Gr) : List Int := (List.range (nG g + 1)).map fun i => (staG g i : Int)
def staO (g : Gr) : List Int := if chkB g = true then staL g else []
theorem staO_y {g : Gr} (h : chkE g = 0) : staO g = staL g := by rw [staO, if_pos (chkB_iff.2 (chkE_0.1 h))]
theorem staO_n {g : Gr} (h : chkE g ≠ 0) : staO g = [] := by rw [staO, if_neg (fun q => h (chkE_0.2 (chkB_iff.1 q)))]
theorem filt_true (l : List Ed) : l.filter (fun _ => true) = l := List.filter_eq_self.2 fun _ _ => rfl
end Go.Proofs
/- The walk of graph's Starts. Conditions: none. -/
set_option linter.unusedVariables false
set_option linter.unusedSimpArgs false
set_option maxRecDepth 10000
namespace Go.Proofs
open Go Go.Ab
attribute [local irreducible] QR QV OE aops aw dsoup dsoupM dalloc dallocM thn inBlk jsoup jch lsoup
open Go.H
theorem grTrue (e : Ed) : ACall Tryz.prog 101 [.agg (edR e)] [] (fun r h' => h' = [] ∧ r = bv true) := by
  refine acall_of_aw Tryz.func101 rfl rfl rfl ?_
  refine rn ?_
  refine aops_e rfl (oe_box rfl rfl rfl fun b1 => ?_)
  refine rn ?_
  refine rq 1 ?_
  exact ⟨rfl, rfl⟩
theorem st1 {rows : List (List AV)} {k : Nat} {o n : AV} : rows.set k (List.take 0 [o] ++ [n] ++ List.drop (0 + [n].length) [o]) = rows.set k [n] := rfl
set_option maxHeartbeats 4000000 in
theorem grStarts (g : Gr) (hb : g.es.length ≤ 4611686018427387904) : ACall Tryz.prog 81 [.agg (grR g)] [] (fun r h' => h' = [] ∧ r = .tup [intsA (staO g), iv (chkE g)]) := by
  refine acall_of_aw Tryz.func81 rfl rfl rfl ?_
  refine rn ?_
  refine aops_e rfl (oe_box rfl rfl rfl fun b1 => ?_)
  refine rn ?_
  refine qv rfl rfl (qv_call rfl rfl (pcall (grCheck g hb) (Sbs.refl _))) ?_
  refine rn ?_
  refine aw_cond rfl (fun hc11 => ?_) (fun hc11 => ?_)
  · have he : chkE g ≠ 0 := nzT hc11
    refine rn ?_
    exact retq (.cons _ _ _ _ (.tmp _ _ rfl) (.cons _ _ _ _ (.tmp _ _ rfl) .nil)) (.trans (.drop [_] _ _) (.le (Sb.tups (aS := [.v (.slice none 0 0), _]) (bs := [intsA [], _]) ⟨.nil _ _, .refl _, trivial⟩).le)) ⟨rfl, by rw [staO_n he]⟩
  · have he : chkE g = 0 := nzF hc11
    have hn0 := (chkE_0.1 he).n0
    have hn1 := (chkE_0.1 he).n1
    have hnn : ((nG g : Nat) : Int) = g.n := by unfold nG; omega
    refine aw_skip ?_
    refine thn_n ?_
    refine aw_seq (aw_region ?_)
    refine q1 ?_
    refine q1 ?_
    refine qq rfl rfl (qr_as (qr_ari rfl rfl rfl (by omega)) (show iv _ = iv ((nG g + 1 : Nat) : Int) from congrArg iv (by omega))) ?_
    refine aops_e rfl (oe_makeSlice rfl rfl rfl (by omega) (hk := fun bm => ?_))
    refine aops_slice (.slice (some ⟨bm, 0, none⟩) (nG g + 1) (nG g + 1)) fun sv hsv => ?_
    rw [hsv]
    clear hsv
    rw [rwI_zero]
    refine aops_e rfl (oe_alloc rfl fun b5 => ?_)
    refine rn ?_
    refine aops_e rfl (oe_call rfl rfl (FCall.of_fun (grEdges g (.fn (.func 101) [] []) rfl _)) rfl ?_)
    rintro _ _ ⟨bh, bg, rfl, rfl⟩
    refine rn ?_
    refine aw_ent (s' := ⟨[(18, .fn (.func 111) [] [.v (.pointer (some ⟨bg, 0, none⟩)), .v (.pointer (some ⟨bh, 0, none⟩))]), (5, .v (.pointer (some ⟨b5, 0, none⟩))), (1, .v (.pointer (some ⟨b1, 0, none⟩)))], .box bh 135 [(.fn (.func 101) [] [])] :: .box bg 24 (grR g) :: .box b5 30 [.v sv.v] :: .row sv.v 1 3 (rwI (nG g + 1) (cntS ([]))) :: .box b1 24 (grR g) :: [], []⟩) es ?_
    refine aw_rf (fun pend h'' => pend = none ∧ h'' = .box bh 135 [(.fn (.func 101) [] [])] :: .box bg 24 (grR g) :: .box b5 30 [.v sv.v] :: .row sv.v 1 3 (rwI (nG g + 1) (cntS (g.es))) :: .box b1 24 (grR g) :: []) rfl (fun fn l q lp hlp => ?_) (fun q h'' hK => ?_) (fun q h'' c hK => ?_)
    · suffices hy : ∀ pre d rest (s : Unit), g.es.filter idB = pre ++ d :: rest → FCall Tryz.prog (yv l) [.agg (edR d)] (.box bh 135 [(.fn (.func 101) [] [])] :: .box bg 24 (grR g) :: lp .ready none :: .defs q :: .box b5 30 [.v sv.v] :: .row sv.v 1 3 (rwI (nG g + 1) (cntS (pre))) :: .box b1 24 (grR g) :: []) (fun r h' => ∃ s' : Unit, r = bv true ∧ h' = .box bh 135 [(.fn (.func 101) [] [])] :: .box bg 24 (grR g) :: lp .ready none :: .defs q :: .box b5 30 [.v sv.v] :: .row sv.v 1 3 (rwI (nG g + 1) (cntS (pre ++ [d]))) :: .box b1 24 (grR g) :: []) by
        refine ACall.mono (ACall.perm ((pt2 _ _ _ _).trans (.cons _ (pt2 _ _ _ _))) (edTell g hb (.fn (.func 101) [] []) idB (fun e _ => FCall.of_fun (grTrue e)) (yv l) bg bh (fun pre _ => lp .ready none :: .defs q :: .box b5 30 [.v sv.v] :: .row sv.v 1 3 (rwI (nG g + 1) (cntS (pre))) :: .box b1 24 (grR g) :: []) () hy)) ?_
        rintro _ _ ⟨_, rfl⟩
        exact ⟨none, .ready, _, ((pt2 _ _ _ _).trans (.cons _ (pt2 _ _ _ _))), by simp, rfl, by rw [filt_true]⟩
      intro pre d rest s hpre
      rw [filt_true] at hpre
      have hd := edge_iff.1 ((chkE_0.1 he).each d (by rw [hpre]; simp))
      have hlen : pre.length < g.es.length := by rw [hpre, List.length_append, List.length_cons]; omega
      have hm := (chkE_0.1 he).many
      have hdt : (d.f + 1).toNat < nG g + 1 := by unfold nG; omega
      have hcn := cntS_nn pre (d.f + 1).toNat
      refine FCall.perm (pt2 _ _ _ _) (FCall.ventE ?_)
      refine fcall_yl2 hlp rfl rfl ?_
      refine rn ?_
      refine aops_e rfl (oe_alloc rfl fun b6 => ?_)
      refine rn ?_
      refine ⟨[(6, .v (.pointer (some ⟨b6, 0, none⟩))), (5, .v (.pointer (some ⟨b5, 0, none⟩)))], .box b6 53 (edR d) :: .box bh 135 [(.fn (.func 101) [] [])] :: .box bg 24 (grR g) :: .defs q :: .box b5 30 [.v sv.v] :: .row sv.v 1 3 (rwI (nG g + 1) (cntS (pre))) :: .box b1 24 (grR g) :: [], ent_trans (ent_perm (pt1 _ _ _)) es, ?_⟩
      refine aw_block ?_
      refine aw_region ?_
      refine q1 ?_
      refine q1 ?_
      refine q1 ?_
      refine qq rfl rfl (qr_as (qr_ari rfl rfl rfl (by omega)) (show iv _ = iv (((d.f + 1).toNat : Nat) : Int) from congrArg iv (by omega))) ?_
      refine qq rfl rfl (qr_index_row (k := (d.f + 1).toNat) rfl rfl (by rw [rwI_len]; exact hdt)) ?_
      refine qq rfl rfl (qr_load_rp_one rfl (rwI_at _ hdt) rfl) ?_
      refine q1 ?_
      refine qq rfl rfl (qr_index_row (k := (d.f + 1).toNat) rfl rfl (by rw [rwI_len]; exact hdt)) ?_
      refine aops_e rfl (oe_store_rp (k := (d.f + 1).toNat) rfl rfl rfl (rwI_at _ hdt) rfl (Nat.le_of_ble_eq_true rfl) ?_)
      rw [st1, rwI_set]
      refine rn ?_
      exact round_n (.refl _) ⟨_, _, .trans (.perm ((pt1 _ _ _).trans (.cons _ ((pt1 _ _ _).trans (.cons _ (pt1 _ _ _))))) _) (.drop [_] _ _), (), rfl, by rw [cntS_app (by omega)]⟩
    · obtain ⟨_, rfl⟩ := hK
      refine rn ?_
      rw [← staF_0 (chkE_0.1 he)]
      refine aw_range (nG g) (fun _ => True) (fun k => ⟨[(30, iv k), (5, .v (.pointer (some ⟨b5, 0, none⟩))), (29, iv g.n)], .defs q :: .box bh 135 [(.fn (.func 101) [] [])] :: .box bg 24 (grR g) :: .box b5 30 [.v sv.v] :: .row sv.v 1 3 (rwI (nG g + 1) (staF g k)) :: .box b1 24 (grR g) :: [], [q]⟩) trivial es ?_
      intro k lk _
      refine rn ?_
      refine aw_cond rfl (fun hc31 => ?_) (fun hc31 => ?_)
      · have hk : k < nG g := by have q := of_decide_eq_true hc31; omega
        have hs1 := staF_nn (chkE_0.1 he) (v := k) (i := k + 1)
        have hs2 := staF_nn (chkE_0.1 he) (v := k) (i := k)
        refine rn ?_
        refine aw_draw 9 rfl ?_
        refine dq rfl rfl qrA ?_
        refine dq rfl rfl qrA ?_
        refine dq rfl rfl (qr_as (qr_ari rfl rfl rfl (by omega)) (show iv _ = iv ((k + 1 : Nat) : Int) from congrArg iv (by omega))) ?_
        refine dq rfl rfl (qr_index_row (k := k + 1) rfl rfl (by rw [rwI_len]; omega)) ?_
        refine dq rfl rfl (qr_load_rp_one rfl (rwI_at _ (by omega)) rfl) ?_
        refine dq rfl rfl qrA ?_
        refine dq rfl rfl qrA ?_
        refine dq rfl rfl (qr_index_row (k := k) rfl rfl (by rw [rwI_len]; omega)) ?_
        refine dq rfl rfl (qr_load_rp_one rfl (rwI_at _ (by omega)) rfl) ?_
        refine rn2 ?_
        refine q1 ?_
        refine qq rfl rfl (qr_index_row (k := k + 1) rfl rfl (by rw [rwI_len]; omega)) ?_
        refine aops_e rfl (oe_store_rp (k := k + 1) rfl rfl rfl (rwI_at _ (by omega)) rfl (Nat.le_of_ble_eq_true rfl) ?_)
        rw [st1, rwI_set]
        refine rn ?_
        exact ⟨hk, trivial, by rw [staF_s (chkE_0.1 he)]; exact eA⟩
      · have qk : k = nG g := by have q := of_decide_eq_false hc31; omega
        refine rn ?_
        exact retqd (.refl _) (.cons _ _ _ _ (.tmp _ _ rfl) (.cons _ _ _ _ (.tmp _ _ rfl) .nil)) (.trans (.perm (pt3 _ _ _ _ _) _) (.trans (vent_freeze_tup [] [_]) (.drop [_, _, _, _] _ _))) ⟨rfl, by rw [staO_y he, he, qk, staF_n]; rfl⟩
    · obtain ⟨hc, _⟩ := hK
      exact absurd hc (by simp)
end Go.Proofs
/- The walk of scc's enter. Conditions: none. -/
set_option linter.unusedVariables false
set_option linter.unusedSimpArgs false
set_option maxRecDepth 10000
namespace Go.Proofs
open Go Go.Ab
attribute [local irreducible] QR QV OE aops aw dsoup dsoupM dalloc dallocM thn inBlk jsoup jch lsoup
open Go.H
abbrev frR (c : Nat × Nat) : List AV := [iv (c.1 : Int), iv (c.2 : Int)]
theorem clsA_fr {u d : Nat} {r : List (Nat × Nat)} : (clsA ((u, d) :: r))[r.length]? = some (frR (u, d)) := clsA_top
theorem seen_st {n : Nat} {f : Nat → Nat} {k b : Nat} : (seenA n f).set k [AV.v (.int .i64 (b : Int))] = seenA n (upd f k b) := seenA_set n f k b
theorem open_st {n : Nat} {l : List Nat} {k : Nat} : (openA n l).set k [AV.v (.bool true)] = openA n (k :: l) := openA_in n l k
theorem st2 {rows : List (List AV)} {k : Nat} {o p n : AV} : rows.set k (List.take 1 [o, p] ++ [n] ++ List.drop (1 + [n].length) [o, p]) = rows.set k [o, n] := rfl
theorem stkA_len (l : List Nat) : (stkA l).length = l.length := by simp [stkA]
set_option maxHeartbeats 4000000 in
theorem scEnter (g : Gr) (w : TJ) (sn lw op st ca : SV) (bw : Nat) (C : List (List AV)) (v : Nat) (hv : v < nG g) (hm : w.many ≤ 1000) (hs : w.stk.length ≤ 1000) (hc : C.length ≤ 1000) : ACall Tryz.prog 103 [.v (.pointer (some ⟨bw, 0, none⟩)), iv (v : Int)] (.box bw 140 [iv g.n, edsA g.es, intsA (staL g), .v sn.v, .v lw.v, .v op.v, .v st.v, .v ca.v, iv (w.many : Nat)] :: .row sn.v 1 3 (seenA (nG g) w.seen) :: .row lw.v 1 3 (seenA (nG g) w.low) :: .row op.v 1 4 (openA (nG g) w.stk) :: .row st.v 1 3 (stkA w.stk) :: .row ca.v 2 149 (C) :: []) (fun r h' => ∃ st' ca' : SV, h' = .box bw 140 [iv g.n, edsA g.es, intsA (staL g), .v sn.v, .v lw.v, .v op.v, .v st'.v, .v ca'.v, iv ((w.enter v).many : Nat)] :: .row sn.v 1 3 (seenA (nG g) (w.enter v).seen) :: .row lw.v 1 3 (seenA (nG g) (w.enter v).low) :: .row op.v 1 4 (openA (nG g) (w.enter v).stk) :: .row st'.v 1 3 (stkA (w.enter v).stk) :: .row ca'.v 2 149 (C ++ [frR (v, 0)]) :: [] ∧ r = .tup []) := by
  refine acall_of_aw Tryz.func103 rfl rfl rfl ?_
  refine aw_seq (aw_region ?_)
  refine q1 ?_
  refine q1 ?_
  refine q1 ?_
  refine q1 ?_
  refine qq rfl rfl (qr_as (qr_ari rfl rfl rfl (by omega)) (show iv _ = iv ((w.many + 1 : Nat) : Int) from congrArg iv (by omega))) ?_
  refine rn0 ?_
  refine aw_seq ?_
  refine aw_drawX 27 [24, 26] [] (fun he => ∃ x y : List (List AV), he = .box bw 140 [iv g.n, edsA g.es, intsA (staL g), .v sn.v, .v lw.v, .v op.v, .v st.v, .v ca.v, iv (w.many + 1 : Nat)] :: .row sn.v 1 3 x :: .row lw.v 1 3 y :: .row op.v 1 4 (openA (nG g) w.stk) :: .row st.v 1 3 (stkA w.stk) :: .row ca.v 2 149 (C) :: [] ∧ x.length = nG g ∧ y.length = nG g) rfl rfl ⟨_, _, rfl, seenA_len _ _, seenA_len _ _⟩ ?_
  refine jq rfl (fun he hC => by obtain ⟨x, y, rfl, h1, h2⟩ := hC <;> exact qrA) ?_
  refine jq rfl (fun he hC => by obtain ⟨x, y, rfl, h1, h2⟩ := hC <;> exact qrA) ?_
  refine jq rfl (fun he hC => by obtain ⟨x, y, rfl, h1, h2⟩ := hC <;> exact qrA) ?_
  refine jq rfl (fun he hC => by obtain ⟨x, y, rfl, h1, h2⟩ := hC <;> exact qrA) ?_
  refine jq rfl (fun he hC => by obtain ⟨x, y, rfl, h1, h2⟩ := hC <;> exact qrA) ?_
  refine jq rfl (fun he hC => by obtain ⟨x, y, rfl, h1, h2⟩ := hC <;> exact qrA) ?_
  refine jq rfl (fun he hC => by obtain ⟨x, y, rfl, h1, h2⟩ := hC <;> exact qrA) ?_
  refine jq rfl (fun he hC => by obtain ⟨x, y, rfl, h1, h2⟩ := hC <;> exact qrA) ?_
  refine jq rfl (fun he hC => by obtain ⟨x, y, rfl, h1, h2⟩ := hC <;> exact qrA) ?_
  refine jq rfl (fun he hC => by obtain ⟨x, y, rfl, h1, h2⟩ := hC <;> exact qrA) ?_
  refine jq rfl (fun he hC => by obtain ⟨x, y, rfl, h1, h2⟩ := hC <;> exact qrA) ?_
  refine jq rfl (fun he hC => by obtain ⟨x, y, rfl, h1, h2⟩ := hC <;> exact qrA) ?_
  refine jq rfl (fun he hC => by obtain ⟨x, y, rfl, h1, h2⟩ := hC <;> exact qrA) ?_
  refine jq rfl (fun he hC => by obtain ⟨x, y, rfl, h1, h2⟩ := hC <;> exact qrA) ?_
  refine jq rfl (fun he hC => by obtain ⟨x, y, rfl, h1, h2⟩ := hC <;> exact qrA) ?_
  refine jq rfl (fun he hC => by obtain ⟨x, y, rfl, h1, h2⟩ := hC <;> exact qrA) ?_
  refine jq rfl (fun he hC => by obtain ⟨x, y, rfl, h1, h2⟩ := hC <;> exact qrA) ?_
  refine jq rfl (fun he hC => by obtain ⟨x, y, rfl, h1, h2⟩ := hC <;> exact qrA) ?_
  refine jq rfl (fun he hC => by obtain ⟨x, y, rfl, h1, h2⟩ := hC <;> exact qrA) ?_
  refine jq rfl (fun he hC => by obtain ⟨x, y, rfl, h1, h2⟩ := hC <;> exact qrA) ?_
  refine jq rfl (fun he hC => by obtain ⟨x, y, rfl, h1, h2⟩ := hC <;> exact qrA) ?_
  refine jq rfl (fun he hC => by obtain ⟨x, y, rfl, h1, h2⟩ := hC <;> exact qrA) ?_
  refine jq rfl (fun he hC => by obtain ⟨x, y, rfl, h1, h2⟩ := hC <;> exact qrA) ?_
  refine jq rfl (fun he hC => by obtain ⟨x, y, rfl, h1, h2⟩ := hC <;> exact (by exact qr_index_row (k := v) rfl rfl (by rw [h1]; exact hv))) ?_
  refine je rfl ?_
  refine jq rfl (fun he hC => by obtain ⟨x, y, rfl, h1, h2⟩ := hC <;> exact (by exact qr_index_row (k := v) rfl rfl (by rw [h2]; exact hv))) ?_
  refine je rfl ?_
  refine jnil ?_
  refine jce rfl fun u => ?_
  refine oe_store_rp (k := v) rfl rfl rfl (seenA_at _ hv) rfl (Nat.le_of_ble_eq_true rfl) ?_
  rw [st1, seen_st]
  refine ⟨.any, _, rfl, ⟨_, _, rfl, seenA_len _ _, seenA_len _ _⟩, ?_⟩
  refine jce rfl fun u => ?_
  refine oe_store_rp (k := v) rfl rfl rfl (seenA_at _ hv) rfl (Nat.le_of_ble_eq_true rfl) ?_
  rw [st1, seen_st]
  refine ⟨.any, _, rfl, ⟨_, _, rfl, seenA_len _ _, seenA_len _ _⟩, ?_⟩
  refine jcn ?_
  refine ln ?_
  refine qq rfl rfl (qr_index_row (k := v) rfl rfl (by rw [openA_len]; exact hv)) ?_
  refine aops_e rfl (oe_store_rp (k := v) rfl rfl rfl (openA_at _ hv) rfl (Nat.le_of_ble_eq_true rfl) ?_)
  rw [st1, open_st]
  refine rn ?_
  refine qv rfl rfl (qv_buildSlice rfl rfl) ?_
  refine aops_e rfl (oe_append_row rfl rfl (by rw [stkA_len]; simp only [List.length_cons, List.length_nil]; omega) rfl (fun s27 => ?_) (fun r hr => by rw [List.mem_singleton.1 hr]; rfl))
  refine aops_slice s27 fun st' hst => ?_
  subst hst
  refine rn ?_
  refine qv rfl rfl (qv_buildSlice rfl rfl) ?_
  refine aops_e rfl (oe_append_row rfl rfl (by simp only [List.length_cons, List.length_nil]; omega) rfl (fun s28 => ?_) (fun r hr => by rw [List.mem_singleton.1 hr]; rfl))
  refine aops_slice s28 fun ca' hca => ?_
  subst hca
  refine rn ?_
  first | exact retq_n .nil (.refl _ _) ⟨st', ca', rfl, rfl⟩ | exact retq_n .nil (.refl _ _) ⟨st', ca', by rw [show stkA (w.enter v).stk = _ from stkA_cons v w.stk]; rfl, rfl⟩
end Go.Proofs
/- The walk of scc's step. Conditions: none. -/
set_option linter.unusedVariables false
set_option linter.unusedSimpArgs false
set_option maxRecDepth 10000
namespace Go.Proofs
open Go Go.Ab
attribute [local irreducible] QR QV OE aops aw dsoup dsoupM dalloc dallocM thn inBlk jsoup jch lsoup
open Go.H
theorem staL_at {g : Gr} {v : Nat} (hv : v ≤ nG g) : ((staL g).map intR)[v]? = some [iv (staG g v : Int)] := by
  have h1 : (staL g)[v]? = some ((staG g v : Nat) : Int) := by
    unfold staL; rw [List.getElem?_map, List.getElem?_range (by omega)]; rfl
  rw [List.getElem?_map, h1]; rfl
theorem edR_at {l : List Ed} {k : Nat} (hk : k < l.length) : (l.map edR)[k]? = some (edR l[k]) := by
  rw [List.getElem?_map, List.getElem?_eq_getElem hk]; rfl
theorem cls_st {u d : Nat} {r : List (Nat × Nat)} : (clsA ((u, d) :: r)).set r.length [AV.v (.int .i64 (u : Int)), AV.v (.int .i64 ((d + 1 : Nat) : Int))] = clsA ((u, d + 1) :: r) := clsA_set
theorem seen_more {f : Nat → Nat} {v m x : Nat} (h : 0 < f x) : 0 < upd f v (m + 1) x := by
  unfold upd; split
  · exact Nat.succ_pos _
  · exact h
theorem min_v (a b : Nat) : min (a : Int) (b : Int) = ((min a b : Nat) : Int) := by omega
set_option maxHeartbeats 4000000 in
theorem scStep (g : Gr) (hok : GOk g) (w : TJ) (hw : TOk (nG g) (adjG g) w) (sn lw op st ca : SV) (bw : Nat) (u d : Nat) (rr : List (Nat × Nat)) (hc : w.cls = (u, d) :: rr) : ACall Tryz.prog 104 [.v (.pointer (some ⟨bw, 0, none⟩))] (.box bw 140 [iv g.n, edsA g.es, intsA (staL g), .v sn.v, .v lw.v, .v op.v, .v st.v, .v ca.v, iv (w.many : Nat)] :: .row sn.v 1 3 (seenA (nG g) w.seen) :: .row lw.v 1 3 (seenA (nG g) w.low) :: .row op.v 1 4 (openA (nG g) w.stk) :: .row st.v 1 3 (stkA w.stk) :: .row ca.v 2 149 (clsA ((u, d) :: rr)) :: []) (fun r h' => ∃ (b : Bool) (w' : TJ) (st' ca' : SV), r = bv b ∧ h' = .box bw 140 [iv g.n, edsA g.es, intsA (staL g), .v sn.v, .v lw.v, .v op.v, .v st'.v, .v ca'.v, iv (w'.many : Nat)] :: .row sn.v 1 3 (seenA (nG g) w'.seen) :: .row lw.v 1 3 (seenA (nG g) w'.low) :: .row op.v 1 4 (openA (nG g) w'.stk) :: .row st'.v 1 3 (stkA w'.stk) :: .row ca'.v 2 149 (clsA w'.cls) :: [] ∧ TOk (nG g) (adjG g) w' ∧ w'.outs = w.outs ∧ (∀ x, 0 < w.seen x → 0 < w'.seen x) ∧ (b = true → muT (nG g) (adjG g) w' < muT (nG g) (adjG g) w) ∧ (b = false → w' = w ∧ d = (adjG g u).length)) := by
  refine acall_of_aw Tryz.func104 rfl rfl rfl ?_
  have hin := hw.inv.clsk (u, d) (by rw [hc]; simp)
  have hun : u < nG g := (hw.inv.stkn u hin.1).1
  have hdle : d ≤ (adjG g u).length := hin.2
  have hsta := sta_s hok u
  have hs0 := sta_le g u
  have hs1 := sta_le g (u + 1)
  have hmany := hok.many
  have hn1 := hok.n1
  have hng : nG g ≤ 300 := by unfold nG; omega
  have hmn : w.many ≤ 1000 := by have := hw.manyle; omega
  have hsk : w.stk.length ≤ 1000 := by have := stk_len hw.inv; omega
  have hcl := cls_len hw.inv
  rw [hc, List.length_cons] at hcl
  have hcL := clsA_len ((u, d) :: rr)
  rw [List.length_cons] at hcL
  have hlw : w.low u ≤ 1000 := by have h1 := (hw.inv.lowk u hin.1).1; have h2 := hw.inv.seenle u; omega
  refine rn ?_
  refine aw_draw 10 rfl ?_
  refine dq rfl rfl qrA ?_
  refine dq rfl rfl qrA ?_
  refine dq rfl rfl qrA ?_
  refine dq rfl rfl qrA ?_
  refine dq rfl rfl qrA ?_
  refine dq rfl rfl qrA ?_
  refine dq rfl rfl qrA ?_
  refine dq rfl rfl qrA ?_
  refine dq rfl rfl qrA ?_
  refine dq rfl rfl (qr_as (qr_ari rfl rfl rfl (by omega)) (show iv _ = iv ((rr.length : Nat) : Int) from congrArg iv (by rw [clsA_len, List.length_cons]; omega))) ?_
  refine rn2 ?_
  refine qq rfl rfl (qr_index_row (k := rr.length) rfl rfl (by rw [clsA_len, List.length_cons]; omega)) ?_
  refine rn ?_
  refine aw_draw 14 rfl ?_
  refine dq rfl rfl qrA ?_
  refine dq rfl rfl qrA ?_
  refine dq rfl rfl qrA ?_
  refine dq rfl rfl qrA ?_
  refine dq rfl rfl qrA ?_
  refine dq rfl rfl qrA ?_
  refine dq rfl rfl qrA ?_
  refine dq rfl rfl (qr_load_rp_one rfl clsA_fr rfl) ?_
  refine dq rfl rfl (qr_index_list (i := u) rfl rfl (staL_at (Nat.le_of_lt hun))) ?_
  refine dq rfl rfl qrA ?_
  refine dq rfl rfl qrA ?_
  refine dq rfl rfl qrA ?_
  refine dq rfl rfl qrA ?_
  refine dq rfl rfl (qr_load_rp_one rfl clsA_fr rfl) ?_
  refine rn2 ?_
  refine qq rfl rfl (qr_as (qr_ari rfl rfl rfl (by omega)) (show iv _ = iv ((staG g u + d : Nat) : Int) from congrArg iv (by omega))) ?_
  refine rn ?_
  refine aw_draw 12 rfl ?_
  refine dq rfl rfl qrA ?_
  refine dq rfl rfl qrA ?_
  refine dq rfl rfl qrA ?_
  refine dq rfl rfl qrA ?_
  refine dq rfl rfl qrA ?_
  refine dq rfl rfl qrA ?_
  refine dq rfl rfl qrA ?_
  refine dq rfl rfl qrA ?_
  refine dq rfl rfl (qr_load_rp_one rfl clsA_fr rfl) ?_
  refine dq rfl rfl (qr_as (qr_ari rfl rfl rfl (by omega)) (show iv _ = iv ((u + 1 : Nat) : Int) from congrArg iv (by omega))) ?_
  refine dq rfl rfl (qr_index_list (i := u + 1) rfl rfl (staL_at hun)) ?_
  refine rn ?_
  refine aw_cond rfl (fun hc45 => ?_) (fun hc45 => ?_)
  · have hd : d = (adjG g u).length := by have q := of_decide_eq_true hc45; omega
    refine rn ?_
    exact retq (.cons _ _ _ _ (.tmp _ _ rfl) .nil) (.refl _ _) ⟨false, w, st, ca, rfl, by rw [hc], hw, rfl, fun _ q => q, fun q => absurd q (by decide), fun _ => ⟨rfl, hd⟩⟩
  · have hdl : d < (adjG g u).length := by have q := of_decide_eq_false hc45; omega
    obtain ⟨hix, _, het⟩ := sta_at hok hdl
    have hv : (adjG g u)[d] < nG g := hw.inv.adjn u hun _ (List.getElem_mem hdl)
    have hget : (adjG g u)[d]? = some (adjG g u)[d] := List.getElem?_eq_getElem hdl
    have hnat := (ed_nat hok (List.getElem_mem hix)).2.2.2.1
    rw [← het] at hnat
    generalize (adjG g u)[d] = v at hv hget hnat het
    refine aw_skip ?_
    refine thn_n ?_
    refine aw_seq (aw_region ?_)
    refine q1 ?_
    refine q1 ?_
    refine q1 ?_
    refine qq rfl rfl (qr_load_rp_one rfl clsA_fr rfl) ?_
    refine qq rfl rfl (qr_as (qr_ari rfl rfl rfl (by omega)) (show iv _ = iv ((d + 1 : Nat) : Int) from congrArg iv (by omega))) ?_
    refine rn ?_
    refine aops_e rfl (oe_store_rp (k := rr.length) rfl rfl rfl clsA_fr rfl (Nat.le_of_ble_eq_true rfl) ?_)
    rw [st2, cls_st]
    refine rn ?_
    refine aw_draw 14 rfl ?_
    refine dq rfl rfl qrA ?_
    refine dq rfl rfl qrA ?_
    refine dq rfl rfl qrA ?_
    refine dq rfl rfl (qr_load_rp_one rfl clsA_fr rfl) ?_
    refine dq rfl rfl qrA ?_
    refine dq rfl rfl qrA ?_
    refine dq rfl rfl qrA ?_
    refine dq rfl rfl qrA ?_
    refine dq rfl rfl qrA ?_
    refine dq rfl rfl qrA ?_
    refine dq rfl rfl (qr_index_list (i := staG g u + d) rfl rfl (edR_at hix)) ?_
    refine dq rfl rfl qrA ?_
    refine dq rfl rfl (qr_as (qr_load_pp_one rfl rfl) (show iv _ = iv (v : Int) from congrArg iv hnat.symm)) ?_
    refine rn2 ?_
    refine q1 ?_
    refine aops_nil (thn_n ?_)
    refine aw_seq ?_
    refine aw_block ?_
    refine aw_seq (aw_region ?_)
    refine q1 ?_
    refine q1 ?_
    refine q1 ?_
    refine q1 ?_
    refine q1 ?_
    refine qq rfl rfl (qr_index_row (k := v) rfl rfl (by rw [seenA_len]; exact hv)) ?_
    refine qq rfl rfl (qr_load_rp_one rfl (seenA_at _ hv) rfl) ?_
    refine rn ?_
    refine aw_cond rfl (fun hc66 => ?_) (fun hc66 => ?_)
    · have h0 : w.seen v = 0 := by have q := of_decide_eq_true hc66; omega
      have hok2 := hw.down hc hget h0
      refine rn ?_
      refine aops_e rfl (oe_call rfl rfl (FCall.of_fun (scEnter g w sn lw op st ca bw (clsA ((u, d + 1) :: rr)) v hv hmn hsk (by rw [clsA_len, List.length_cons]; omega))) rfl ?_)
      rintro _ _ ⟨st', ca', rfl, rfl⟩
      refine rn ?_
      first | exact retq (.cons _ _ _ _ (.tmp _ _ rfl) .nil) (.refl _ _) ⟨true, w.enter v, st', ca', rfl, by rw [show clsA (w.enter v).cls = clsA ((u, d + 1) :: rr) ++ [frR (v, 0)] by show clsA ((v, 0) :: w.cls) = _; rw [hc]; exact clsA_cons v], hok2, rfl, fun x q => seen_more q, fun _ => mu_enter hv h0, fun q => absurd q (by decide)⟩ | exact retq (.cons _ _ _ _ (.tmp _ _ rfl) .nil) (.refl _ _) ⟨true, w.over u d v rr, st, ca, rfl, by rw [show (w.over u d v rr).low = upd w.low u (min (w.low u) (w.seen v)) from if_pos hm]; rfl, hok2, rfl, fun _ q => q, fun _ => mu_over hc hget, fun q => absurd q (by decide)⟩ | exact retq (.cons _ _ _ _ (.tmp _ _ rfl) .nil) (.refl _ _) ⟨true, w.over u d v rr, st, ca, rfl, by rw [show (w.over u d v rr).low = w.low from if_neg hm]; rfl, hok2, rfl, fun _ q => q, fun _ => mu_over hc hget, fun q => absurd q (by decide)⟩
    · have h0 : 0 < w.seen v := by have q := of_decide_eq_false hc66; omega
      have hok2 := hw.over hc hget h0
      refine aw_seq (aw_region ?_)
      refine q1 ?_
      refine q1 ?_
      refine q1 ?_
      refine q1 ?_
      refine q1 ?_
      refine qq rfl rfl (qr_index_row (k := v) rfl rfl (by rw [openA_len]; exact hv)) ?_
      refine qq rfl rfl (qr_load_rp_one rfl (openA_at _ hv) rfl) ?_
      refine rn ?_
      refine aw_cond rfl (fun hc78 => ?_) (fun hc78 => ?_)
      · have hm : v ∈ w.stk := by have q := hc78; simpa using q
        refine aw_draw 20 rfl ?_
        refine dq rfl rfl qrA ?_
        refine dq rfl rfl qrA ?_
        refine dq rfl rfl qrA ?_
        refine dq rfl rfl qrA ?_
        refine dq rfl rfl qrA ?_
        refine dq rfl rfl qrA ?_
        refine dq rfl rfl qrA ?_
        refine dq rfl rfl qrA ?_
        refine dq rfl rfl qrA ?_
        refine dq rfl rfl qrA ?_
        refine dq rfl rfl (qr_index_row (k := u) rfl rfl (by rw [seenA_len]; exact hun)) ?_
        refine dq rfl rfl (qr_load_rp_one rfl (seenA_at _ hun) rfl) ?_
        refine dq rfl rfl qrA ?_
        refine dq rfl rfl qrA ?_
        refine dq rfl rfl qrA ?_
        refine dq rfl rfl qrA ?_
        refine dq rfl rfl qrA ?_
        refine dq rfl rfl (qr_index_row (k := v) rfl rfl (by rw [seenA_len]; exact hv)) ?_
        refine dq rfl rfl (qr_load_rp_one rfl (seenA_at _ hv) rfl) ?_
        refine dq rfl rfl (qr_as (qr_min2 rfl rfl) (show iv _ = iv ((min (w.low u) (w.seen v) : Nat) : Int) from congrArg iv (min_v _ _))) ?_
        refine rn2 ?_
        refine qq rfl rfl (qr_index_row (k := u) rfl rfl (by rw [seenA_len]; exact hun)) ?_
        refine aops_e rfl (oe_store_rp (k := u) rfl rfl rfl (seenA_at _ hun) rfl (Nat.le_of_ble_eq_true rfl) ?_)
        rw [st1, seen_st]
        refine rn ?_
        first | exact retq (.cons _ _ _ _ (.tmp _ _ rfl) .nil) (.refl _ _) ⟨true, w.enter v, st', ca', rfl, by rw [show clsA (w.enter v).cls = clsA ((u, d + 1) :: rr) ++ [frR (v, 0)] by show clsA ((v, 0) :: w.cls) = _; rw [hc]; exact clsA_cons v], hok2, rfl, fun x q => seen_more q, fun _ => mu_enter hv h0, fun q => absurd q (by decide)⟩ | exact retq (.cons _ _ _ _ (.tmp _ _ rfl) .nil) (.refl _ _) ⟨true, w.over u d v rr, st, ca, rfl, by rw [show (w.over u d v rr).low = upd w.low u (min (w.low u) (w.seen v)) from if_pos hm]; rfl, hok2, rfl, fun _ q => q, fun _ => mu_over hc hget, fun q => absurd q (by decide)⟩ | exact retq (.cons _ _ _ _ (.tmp _ _ rfl) .nil) (.refl _ _) ⟨true, w.over u d v rr, st, ca, rfl, by rw [show (w.over u d v rr).low = w.low from if_neg hm]; rfl, hok2, rfl, fun _ q => q, fun _ => mu_over hc hget, fun q => absurd q (by decide)⟩
      · have hm : v ∉ w.stk := by have q := hc78; simpa using q
        refine rn ?_
        first | exact retq (.cons _ _ _ _ (.tmp _ _ rfl) .nil) (.refl _ _) ⟨true, w.enter v, st', ca', rfl, by rw [show clsA (w.enter v).cls = clsA ((u, d + 1) :: rr) ++ [frR (v, 0)] by show clsA ((v, 0) :: w.cls) = _; rw [hc]; exact clsA_cons v], hok2, rfl, fun x q => seen_more q, fun _ => mu_enter hv h0, fun q => absurd q (by decide)⟩ | exact retq (.cons _ _ _ _ (.tmp _ _ rfl) .nil) (.refl _ _) ⟨true, w.over u d v rr, st, ca, rfl, by rw [show (w.over u d v rr).low = upd w.low u (min (w.low u) (w.seen v)) from if_pos hm]; rfl, hok2, rfl, fun _ q => q, fun _ => mu_over hc hget, fun q => absurd q (by decide)⟩ | exact retq (.cons _ _ _ _ (.tmp _ _ rfl) .nil) (.refl _ _) ⟨true, w.over u d v rr, st, ca, rfl, by rw [show (w.over u d v rr).low = w.low from if_neg hm]; rfl, hok2, rfl, fun _ q => q, fun _ => mu_over hc hget, fun q => absurd q (by decide)⟩
end Go.Proofs
/- copy: into a row of one's own, out of what is only read. Conditions: none (rules over any program). -/
set_option linter.unusedVariables false
set_option linter.unusedSimpArgs false
namespace Go.Ab
open Go
/-- The first cells of a slice. -/
theorem run_firstN {P : Program} {w : World} {O : Nat → Prop} {full : Bool} {sz n : Nat} {rows : List (List AV)} {v : Value} (hr : Rel w O (.list full sz rows) v) (hn : n ≤ rows.length) :
    ∃ c : Array Value, (∀ w' : World, w'.heap = w.heap → (Builtin.firstCells sz n v).run P w' = .ok c w') ∧ c.size = n * sz ∧ (∀ i (hi : i < n) j (hj : j < (rows[i]'(by omega)).length), ∃ u, c[i * sz + j]? = some u ∧ Rel w O (rows[i]'(by omega))[j] u) ∧ ∀ i (hi : i < n), (rows[i]'(by omega)).length = sz := by
  cases hr with
  | lnil _ _ a cap h =>
    obtain rfl : n = 0 := by simpa using hn
    refine ⟨#[], fun w' _ => ?_, by simp, fun i hi => absurd hi (Nat.not_lt_zero i), fun i hi => absurd hi (Nat.not_lt_zero i)⟩
    cases a with
    | none => rfl
    | some a => simp only [Builtin.firstCells, Nat.zero_mul]; rfl
  | list _ _ _ b off cap g h1 h2 h3 h4 h5 h6 h7 =>
    have hcell : ∀ k, k < n * sz → w.cell? ⟨b, off + k, none⟩ = some ((w.cell? ⟨b, off + k, none⟩).getD undef) := fun k hk => by
      have hsz : 0 < sz := by
        rcases Nat.eq_zero_or_pos sz with h | h
        · subst h; simp at hk
        · exact h
      have hi : k / sz < n := (Nat.div_lt_iff_lt_mul hsz).2 hk
      have hi' : k / sz < rows.length := by omega
      have hj : k % sz < rows[k / sz].length := by rw [h5 _ hi']; exact Nat.mod_lt _ hsz
      have e := h6 _ hi' _ hj
      have ek : off + k / sz * sz + k % sz = off + k := by have := Nat.div_add_mod k sz; rw [Nat.mul_comm] at this; omega
      rw [ek] at e
      rw [e]; rfl
    refine ⟨((List.range (n * sz)).map fun k => (w.cell? ⟨b, off + k, none⟩).getD undef).toArray, fun w' hw' => ?_, by simp, fun i hi j hj => ⟨g i j, ?_, h7 i (by omega) j hj⟩, fun i hi => h5 i (by omega)⟩
    · simp only [Builtin.firstCells]
      exact run_loadCells w' _ _ _ fun k hk => by rw [add_none, cell_congr (show w'.heap[b]? = w.heap[b]? by rw [hw'])]; exact hcell k hk
    · have hj' : j < sz := by rw [← h5 i (by omega)]; exact hj
      have hlt : i * sz + j < n * sz := by
        have : (i + 1) * sz ≤ n * sz := Nat.mul_le_mul_right _ hi
        rw [Nat.add_mul] at this; omega
      have e := h6 i (by omega) j hj
      rw [Nat.add_assoc] at e
      simp [hlt, e]
section
variable {P : Program} {ro : Option Nat} {nt : Nat} {dst : Option Tmp} {ty : TypeId} {pos : String} {after : Array Edge} {guard : Option (Nat × Bool)} {x y : Operand}
end
end Go.Ab
/- Parts of a row of one's own: cut out, read, written; copy and clear. Conditions: none (rules over any program). -/
set_option linter.unusedVariables false
set_option linter.unusedSimpArgs false
namespace Go.Ab
open Go
/-- A part of a slice. -/
def partV (s : Value) (lo hi sz : Nat) : Value := match s with
  | .slice a _ c => sliced a lo hi c sz
  | v => v
section
variable {P : Program} {ro : Option Nat} {nt : Nat} {h : List Res} {f : Operand → Option AV} {dst : Option Tmp} {ty : TypeId} {pos : String} {after : Array Edge} {guard : Option (Nat × Bool)} {x y z : Operand}
theorem qr_part_l {T E : TypeId} {s : Value} {sz i l : Nat} {E' : TypeId} {rows : List (List AV)} (hx : f x = some (.v s)) [hr : HasRow h s i sz E' rows] (hy : f y = some (.v (.int .i64 l))) (hl : l ≤ rows.length)
    [Und P T (.slice E)] [Siz P E sz] : QR P h f ⟨dst, .slice T x (some y) none none, ty, pos, after, guard⟩ (.v (partV s l rows.length sz)) := fun X ρ w he => by
  obtain ⟨a, cap, es, hcap, _⟩ := row_list he.heap hr.h
  obtain ⟨e1, e2⟩ := und_elem (P := P) (T := T) (E := E)
  have hv := (he.rel x _ hx).v_eq
  refine ⟨partV s l rows.length sz, run_v _ ?_, .v _⟩
  simp only [Option.map_none, Option.map_some]
  rw [run_sliceAt_slice w T _ _ _ _ e2, hv, (he.rel y _ hy).v_eq, es, run_slice_l w T a _ cap e2 .i64 l (by omega) (by omega), e1]
  simp only [run_sizeOf (n := sz), Result.andThen_ok, Int.toNat_natCast]
  rfl
theorem qr_part_h {T E : TypeId} {s : Value} {sz i k : Nat} {E' : TypeId} {rows : List (List AV)} (hx : f x = some (.v s)) [hr : HasRow h s i sz E' rows] (hy : f y = some (.v (.int .i64 k))) (hk : k ≤ rows.length)
    [Und P T (.slice E)] [Siz P E sz] : QR P h f ⟨dst, .slice T x none (some y) none, ty, pos, after, guard⟩ (.v (partV s 0 k sz)) := fun X ρ w he => by
  obtain ⟨a, cap, es, hcap, _⟩ := row_list he.heap hr.h
  obtain ⟨e1, e2⟩ := und_elem (P := P) (T := T) (E := E)
  have hv := (he.rel x _ hx).v_eq
  refine ⟨partV s 0 k sz, run_v _ ?_, .v _⟩
  simp only [Option.map_none, Option.map_some]
  rw [run_sliceAt_slice w T _ _ _ _ e2, hv, (he.rel y _ hy).v_eq, es, run_slice_h w T a _ cap e2 .i64 k (by omega) (by omega), e1]
  simp only [run_sizeOf (n := sz), Result.andThen_ok, Int.toNat_natCast]
  rfl
/-- The first cells of a part of a row. -/
theorem run_firstPart {X : Nat → Prop} {w : World} {i : Nat} {s : Value} {sz lo hi n : Nat} {T : TypeId} {rows : List (List AV)} (hh : HRel X w h) (hr : h[i]? = some (.row s sz T rows)) (hn : n ≤ hi - lo) (hhi : hi ≤ rows.length) :
    ∃ c : Array Value, (∀ w' : World, w'.heap = w.heap → (Builtin.firstCells sz n (partV s lo hi sz)).run P w' = .ok c w') ∧ c.size = n * sz ∧ (∀ i (hi : i < n) j (hj : j < (rows[lo + i]'(by omega)).length), ∃ u, c[i * sz + j]? = some u ∧ Rel w (OO h X) (rows[lo + i]'(by omega))[j] u) ∧ ∀ i (hi : i < n), (rows[lo + i]'(by omega)).length = sz := by
  by_cases h0 : n = 0
  · subst h0
    obtain ⟨a, cap, es, _⟩ := row_list hh hr
    refine ⟨#[], fun w' _ => ?_, by simp, fun i hi => absurd hi (Nat.not_lt_zero i), fun i hi => absurd hi (Nat.not_lt_zero i)⟩
    rw [es]
    simp only [partV, sliced]
    generalize (if cap = lo then a else a.map fun x => x.add (lo * sz)) = q
    cases q with
    | none => rfl
    | some q => simp only [Builtin.firstCells, Nat.zero_mul]; rfl
  · obtain ⟨b, off, cap, c, es, h1, h2, h3, h4, h5⟩ := row_parts hh hr (by intro e; rw [e] at hhi; simp at hhi; omega)
    have e : partV s lo hi sz = .slice (some ⟨b, off + lo * sz, none⟩) (hi - lo) (cap - lo) := by
      rw [es]; simp only [partV, sliced]; rw [if_neg (by omega)]; simp only [Option.map_some, add_none]
    have hcell : ∀ k, k < n * sz → w.cell? ⟨b, off + lo * sz + k, none⟩ = some ((w.cell? ⟨b, off + lo * sz + k, none⟩).getD undef) := fun k hk => by
      have hm : (lo + n) * sz ≤ cap * sz := Nat.mul_le_mul_right _ (by omega)
      rw [Nat.add_mul] at hm
      have : off + lo * sz + k < c.size := by omega
      simp [World.cell?, h1, this]
    refine ⟨((List.range (n * sz)).map fun k => (w.cell? ⟨b, off + lo * sz + k, none⟩).getD undef).toArray, fun w' hw' => ?_, by simp, fun i hi j hj => ?_, fun i hi => h4 _ (by omega)⟩
    · rw [e]
      simp only [Builtin.firstCells]
      exact run_loadCells w' _ _ _ fun k hk => by rw [add_none, cell_congr (show w'.heap[b]? = w.heap[b]? by rw [hw'])]; exact hcell k hk
    · obtain ⟨u, e2, r⟩ := h5 (lo + i) (by omega) j hj
      have hj' : j < sz := by rw [← h4 (lo + i) (by omega)]; exact hj
      have hlt : i * sz + j < n * sz := by
        have : (i + 1) * sz ≤ n * sz := Nat.mul_le_mul_right _ hi
        rw [Nat.add_mul] at this; omega
      refine ⟨u, ?_, r⟩
      have hmm : (lo + i) * sz = lo * sz + i * sz := Nat.add_mul ..
      rw [hmm, ← Nat.add_assoc] at e2
      have hlt2 := (Array.getElem?_eq_some_iff.1 e2).1
      simp only [List.getElem?_toArray, List.getElem?_map, List.getElem?_range hlt, Option.map_some]
      have : w.cell? ⟨b, off + lo * sz + (i * sz + j), none⟩ = some u := by
        simp only [World.cell?, h1]
        rw [show off + lo * sz + (i * sz + j) = off + lo * sz + i * sz + j by omega]
        exact e2
      rw [this]; rfl
end
section
variable {P : Program} {ro : Option Nat} {nt : Nat} {dst : Option Tmp} {ty : TypeId} {pos : String} {after : Array Edge} {guard : Option (Nat × Bool)} {x y : Operand}
/-- copy into a part of a row of one's own. -/
theorem oe_copy_core {T T2 E sz i d hi : Nat} {s : Value} {rows ys : List (List AV)} {t : Fr} {h h' : List Res} {ds : List Nat} {dt : Tmp} {next : St → Prop} (hx : ev t x = some (.v (partV s d hi sz))) [hrow : HasRow h s i sz E rows]
    [Und P T (.slice E)] [Siz P E sz] (hdh : d ≤ hi) (hhi : hi ≤ rows.length)
    (hsrc : ∀ X a w, Sim X nt ⟨t, h, ds⟩ a w → ∃ c2 m, (∀ w' : World, w'.heap = w.heap → (Builtin.lenOf (a.eval y)).run P w' = .ok m w') ∧ Nat.min m (hi - d) = ys.length ∧ (∀ w' : World, w'.heap = w.heap → (Builtin.firstCells sz ys.length (a.eval y)).run P w' = .ok c2 w') ∧ c2.size = ys.length * sz ∧
      (∀ i (hi : i < ys.length) j (hj : j < ys[i].length), ∃ u, c2[i * sz + j]? = some u ∧ Rel w (OO h X) ys[i][j] u) ∧ ∀ i (hi : i < ys.length), ys[i].length = sz)
    (hd : dok nt (some dt) = true) [hset : SetAt h i (.row s sz E (rows.take d ++ (ys ++ rows.drop (d + ys.length)))) h'] (hk : next ⟨(dt, .v (.int .i64 ys.length)) :: t, h', ds⟩) (hone : ∀ r ∈ ys, r.all AV.one = true) :
    OE P ro nt ⟨some dt, .call ⟨.builtin .copy, [x, y].toArray, [T, T2].toArray⟩, ty, pos, after, guard⟩ ⟨t, h, ds⟩ next := by
  intro X a w K Q hs hK
  have ex := (hs.env.rel x _ hx).v_eq
  have hx0 := hs.heap.holds _ (List.mem_of_getElem? hrow.h)
  obtain ⟨ax, cap, es, hcap, hsz, _⟩ := row_list hs.heap hrow.h
  obtain ⟨c2, m, l2, hmin, e2, s2, g2, hlx2⟩ := hsrc X a w hs
  have hcnt : d + ys.length ≤ hi := by have : ys.length ≤ hi - d := hmin ▸ Nat.min_le_right m (hi - d); omega
  have hrun : (execOp a.eval ⟨some dt, .call ⟨.builtin .copy, [x, y].toArray, [T, T2].toArray⟩, ty, pos, after, guard⟩).run P w = ((Builtin.copy_ [T, T2].toArray ty [partV s d hi sz, a.eval y].toArray).run P w).andThen fun v w => .ok (.value v) w := by
    simp only [execOp, resolve, List.map_toArray, List.map_cons, List.map_nil, Sem.run_bind, Sem.run_pure, Result.andThen_ok, invoke, builtin, ex]
  refine ⟨about_true, ?_⟩
  rw [semAt_nd rfl, hrun]
  have hsub : ∀ q c, (Builtin.copy_ [T, T2].toArray ty [.slice q (hi - d) c, a.eval y].toArray).run P w = (((match q with | some a => storeCells a c2.toList | none => pure ()) : Sem Unit).run P w).andThen fun _ w => .ok (goInt ys.length) w := by
    intro q c
    simp only [Builtin.copy_, List.getElem?_toArray, List.getElem?_cons_zero, List.getElem?_cons_succ, Sem.run_bind, run_underlying (d := TypeDesc.slice E), run_sizeOf (n := sz), Result.andThen_ok, Sem.run_pure, l2 w rfl, hmin, e2 w rfl]
    cases q with
    | none => rfl
    | some a2 => simp only [Sem.run_bind, Sem.run_pure]
  by_cases h0 : ys.length = 0
  · obtain rfl : ys = [] := List.eq_nil_of_length_eq_zero h0
    have hc0 : c2 = #[] := by simpa using s2
    have he : h' = h := by
      rw [← hset.h]
      obtain ⟨hlt, e⟩ := List.getElem?_eq_some_iff.1 hrow.h
      rw [List.nil_append, List.length_nil, Nat.add_zero, List.take_append_drop, ← e, List.set_getElem_self]
    rw [es]
    simp only [partV, sliced]
    rw [hsub, hc0]
    have : ∀ q : Option Addr, (((match q with | some a => storeCells a (#[] : Array Value).toList | none => pure ()) : Sem Unit).run P w) = .ok () w := fun q => by cases q <;> rfl
    rw [this]
    simp only [Result.andThen_ok, Oper.uponIn]
    refine hK _ _ _ hk ?_ (by rw [he]; exact .refl _ _)
    have hsim : Sim X nt ⟨t, h', ds⟩ a w := by rw [he]; exact hs
    exact hsim.put (av := .v _) hd (.v _)
  · cases ax with
    | none =>
      rw [es] at hx0
      obtain ⟨q0, _⟩ := hx0
      rw [q0] at hhi
      simp only [List.length_nil] at hhi
      omega
    | some addr =>
    rw [es] at hx0
    obtain ⟨m1, _, m3, m4, c0, m5, m6, m7⟩ := hx0
    obtain ⟨b, off, spot⟩ := addr
    simp only at m1 m5 m6 m7
    subst m1
    have ep : partV s d hi sz = .slice (some ⟨b, off + d * sz, none⟩) (hi - d) (cap - d) := by
      rw [es]; simp only [partV, sliced]; rw [if_neg (by omega)]; simp only [Option.map_some, add_none]
    have hcs : ∀ v ∈ c2.toList, v.oneCell' = true := by
      intro v hv
      obtain ⟨k, hk1, hk2⟩ := List.mem_iff_getElem.1 hv
      have hk3 : k < ys.length * sz := by rw [← s2]; simpa using hk1
      have hsz0 : 0 < sz := by
        rcases Nat.eq_zero_or_pos sz with h | h
        · subst h; simp at hk3
        · exact h
      have hi : k / sz < ys.length := (Nat.div_lt_iff_lt_mul hsz0).2 hk3
      have hj : k % sz < ys[k / sz].length := by rw [hlx2 _ hi]; exact Nat.mod_lt _ hsz0
      obtain ⟨u, e, r⟩ := g2 _ hi _ hj
      have ek : k / sz * sz + k % sz = k := by have := Nat.div_add_mod k sz; rw [Nat.mul_comm] at this; exact this
      rw [ek] at e
      have : u = v := by
        have h2 : c2[k]? = some v := by rw [← hk2]; simp [show k < c2.size by rw [s2]; exact hk3]
        exact Option.some.inj (e.symm.trans h2)
      subst this
      exact r.one (List.all_eq_true.1 (hone _ (List.getElem_mem hi)) _ (List.getElem_mem hj))
    have hmul : (d + ys.length) * sz ≤ cap * sz := Nat.mul_le_mul_right _ (by omega)
    rw [Nat.add_mul] at hmul
    obtain ⟨w', f1, f2, f3, c', f4, f5, f6, ev⟩ := run_storeCells (P := P) c2.toList (off + d * sz) 0 w c0 hcs m5 (by simp [s2]; omega)
    rw [ep, hsub]
    simp only
    rw [f1]
    simp only [Result.andThen_ok, Oper.uponIn]
    have hbown : b ∈ (Res.row s sz E rows).own := by rw [es]; simp [Res.own]
    have hkk : ∀ b', ¬ OO h X b' → b' < w.heap.size → w'.heap[b']? = w.heap[b']? ∧ ¬ OO h X b' := fun b' hb' _ => ⟨f3 b' (fun he => hb' (.inl (mem_owns.2 ⟨_, List.mem_of_getElem? hrow.h, he ▸ hbown⟩))), hb'⟩
    have hoth : ∀ b', b' < w.heap.size → b' ∉ (Res.row s sz E rows).own → w'.heap[b']? = w.heap[b']? := fun b' _ hne => f3 b' fun he => hne (he ▸ hbown)
    have hown : (Res.row s sz E (rows.take d ++ (ys ++ rows.drop (d + ys.length)))).own = (Res.row s sz E rows).own := by rw [es]; rfl
    have hlen : (rows.take d ++ (ys ++ rows.drop (d + ys.length))).length = rows.length := by simp; omega
    have hlow : ∀ k (hk : k < (rows.take d ++ (ys ++ rows.drop (d + ys.length))).length) (h : k < d ∨ d + ys.length ≤ k), (rows.take d ++ (ys ++ rows.drop (d + ys.length)))[k] = rows[k]'(by omega) := fun k hk h => by
      rcases h with h | h
      · rw [List.getElem_append_left (by simp; omega)]; simp
      · rw [List.getElem_append_right (by simp; omega), List.getElem_append_right (by simp; omega), List.getElem_drop]; congr 1; simp; omega
    have hmid : ∀ k (hk : k < (rows.take d ++ (ys ++ rows.drop (d + ys.length))).length) (h1 : d ≤ k) (h2 : k < d + ys.length), (rows.take d ++ (ys ++ rows.drop (d + ys.length)))[k] = ys[k - d]'(by omega) := fun k hk h1 h2 => by
      rw [List.getElem_append_right (by simp; omega), List.getElem_append_left (by simp; omega)]; congr 1; simp; omega
    have hholds : (Res.row s sz E (rows.take d ++ (ys ++ rows.drop (d + ys.length)))).holds w' (OO h X) := by
      rw [es]
      refine ⟨rfl, hlen.symm, hcap, fun k hk => ?_, c', f4, by rw [f5]; exact m6, fun k hk j hj => ?_⟩
      · by_cases h : d ≤ k ∧ k < d + ys.length
        · rw [hmid k hk h.1 h.2]; exact hlx2 _ (by omega)
        · rw [hlow k hk (by omega)]; exact hsz _ (by omega)
      · have hk' : k < rows.length := by rw [← hlen]; exact hk
        by_cases h : d ≤ k ∧ k < d + ys.length
        · simp only [hmid k hk h.1 h.2] at hj ⊢
          obtain ⟨u, e, r⟩ := g2 (k - d) (by omega) j hj
          have hj' : j < sz := by rw [← hlx2 (k - d) (by omega)]; exact hj
          have q1 : (k - d + 1) * sz ≤ ys.length * sz := Nat.mul_le_mul_right _ (by omega)
          rw [Nat.add_mul] at q1
          have q2 : k * sz = d * sz + (k - d) * sz := by rw [← Nat.add_mul]; congr 1; omega
          refine ⟨u, ?_, r.keep (by omega) hkk⟩
          show c'[off + k * sz + j]? = some u
          rw [f6, if_pos (by simp; omega), show off + k * sz + j - (off + d * sz + 0) = (k - d) * sz + j by omega]
          simpa using e
        · simp only [hlow k hk (by omega)] at hj ⊢
          obtain ⟨u, e, r⟩ := m7 k hk' j hj
          have hj' : j < sz := by rw [← hsz k hk']; exact hj
          refine ⟨u, ?_, r.keep (by omega) hkk⟩
          show c'[off + k * sz + j]? = some u
          rw [f6, if_neg ?_]
          · exact e
          · simp only [Array.length_toList, s2]
            rcases Nat.lt_or_ge k d with q | q
            · have : (k + 1) * sz ≤ d * sz := Nat.mul_le_mul_right _ q
              rw [Nat.add_mul] at this; omega
            · have : (d + ys.length) * sz ≤ k * sz := Nat.mul_le_mul_right _ (by omega)
              rw [Nat.add_mul] at this; omega
    refine hK _ _ _ hk ?_ (by rw [← hset.h]; exact Keep.set hrow.h hown (by omega) hoth ev)
    have hO : OO h' X = OO h X := by funext b'; rw [← hset.h]; simp only [OO, owns_set hrow.h hown]
    have hsim : Sim X nt ⟨t, h', ds⟩ a w' := ⟨by rw [← hset.h]; exact hs.heap.set hrow.h hown (by omega) hoth hholds, hs.size, by rw [hO]; exact hs.fr.keep (by omega) hkk, hs.defs⟩
    exact hsim.put (av := .v _) hd (.v _)
/-- Out of what is only read. -/
theorem oe_copy_pl {T T2 E sz i d hi n : Nat} {full : Bool} {s : Value} {rows zs : List (List AV)} {t : Fr} {h h' : List Res} {ds : List Nat} {dt : Tmp} {next : St → Prop} (hx : ev t x = some (.v (partV s d hi sz))) (hy : ev t y = some (.list full sz zs)) [hrow : HasRow h s i sz E rows]
    [Und P T (.slice E)] [Siz P E sz] (hdh : d ≤ hi) (hhi : hi ≤ rows.length) (hn : min zs.length (hi - d) = n)
    (hd : dok nt (some dt) = true) [hset : SetAt h i (.row s sz E (rows.take d ++ (zs.take n ++ rows.drop (d + (zs.take n).length)))) h'] (hk : next ⟨(dt, .v (.int .i64 (zs.take n).length)) :: t, h', ds⟩) (hone : ∀ r ∈ zs, r.all AV.one = true) :
    OE P ro nt ⟨some dt, .call ⟨.builtin .copy, [x, y].toArray, [T, T2].toArray⟩, ty, pos, after, guard⟩ ⟨t, h, ds⟩ next := by
  have hnl : n ≤ zs.length := by omega
  have hl : (zs.take n).length = n := by simp; omega
  refine oe_copy_core hx hdh hhi (fun X a w hs => ?_) hd hk (fun r hr => hone r (List.mem_of_mem_take hr))
  have ry := hs.env.rel y _ hy
  obtain ⟨c2, e2, s2, g2, l2⟩ := run_firstN (P := P) ry hnl
  obtain ⟨q, cap, e, _⟩ := list_slice ry
  refine ⟨c2, zs.length, fun w' _ => by rw [e]; rfl, by rw [hl]; exact hn, by rw [hl]; exact e2, by rw [hl]; exact s2, fun k hk j hj => ?_, fun k hk => ?_⟩
  · have hk' : k < n := by rw [hl] at hk; exact hk
    simp only [List.getElem_take] at hj ⊢
    exact g2 k hk' j hj
  · rw [List.getElem_take]; exact l2 k (by rw [hl] at hk; exact hk)
/-- Out of a part of a row of one's own. -/
theorem oe_copy_pr {T T2 E E2 sz i i2 d hi lo hi2 n : Nat} {s s2 : Value} {rows rows2 : List (List AV)} {t : Fr} {h h' : List Res} {ds : List Nat} {dt : Tmp} {next : St → Prop} (hx : ev t x = some (.v (partV s d hi sz))) (hy : ev t y = some (.v (partV s2 lo hi2 sz))) [hrow : HasRow h s i sz E rows] [hrow2 : HasRow h s2 i2 sz E2 rows2]
    [Und P T (.slice E)] [Siz P E sz] (hdh : d ≤ hi) (hhi : hi ≤ rows.length) (hlo : lo ≤ hi2) (hhi2 : hi2 ≤ rows2.length) (hn : min (hi2 - lo) (hi - d) = n)
    (hd : dok nt (some dt) = true) [hset : SetAt h i (.row s sz E (rows.take d ++ (((rows2.drop lo).take n) ++ rows.drop (d + ((rows2.drop lo).take n).length)))) h'] (hk : next ⟨(dt, .v (.int .i64 ((rows2.drop lo).take n).length)) :: t, h', ds⟩) (hone : ∀ r ∈ rows2, r.all AV.one = true) :
    OE P ro nt ⟨some dt, .call ⟨.builtin .copy, [x, y].toArray, [T, T2].toArray⟩, ty, pos, after, guard⟩ ⟨t, h, ds⟩ next := by
  have hl : ((rows2.drop lo).take n).length = n := by simp; omega
  refine oe_copy_core hx hdh hhi (fun X a w hs => ?_) hd hk (fun r hr => hone r (List.mem_of_mem_drop (List.mem_of_mem_take hr)))
  have hv := (hs.env.rel y _ hy).v_eq
  obtain ⟨c2, e2, s2', g2, l2⟩ := run_firstPart (P := P) (lo := lo) (hi := hi2) (n := n) hs.heap hrow2.h (by omega) hhi2
  obtain ⟨q, cap, e, _⟩ := row_list hs.heap hrow2.h
  refine ⟨c2, hi2 - lo, fun w' _ => by rw [hv, e]; rfl, by rw [hl]; exact hn, by rw [hl, hv]; exact e2, by rw [hl]; exact s2', fun k hk j hj => ?_, fun k hk => ?_⟩
  · have hk' : k < n := by rw [hl] at hk; exact hk
    simp only [List.getElem_take, List.getElem_drop] at hj ⊢
    exact g2 k hk' j hj
  · rw [List.getElem_take, List.getElem_drop]; exact l2 k (by rw [hl] at hk; exact hk)
end
end Go.Ab
/- An array's variable aS a row of one's own: x[:]; a row cut shorter. Conditions: none (rules over any program). -/
set_option linter.unusedVariables false
set_option linter.unusedSimpArgs false
namespace Go.Ab
open Go
theorem HRel.setOwn {X : Nat → Prop} {w : World} {h : List Res} {i : Nat} {r r' : Res} (hh : HRel X w h) (hi : h[i]? = some r) (ho : r'.own = r.own) (hc : ∀ O, r.holds w O → r'.holds w O) : HRel X w (h.set i r') ∧ owns (h.set i r') = owns h := by
  have ho' : owns (h.set i r') = owns h := by
    unfold owns
    rw [List.flatMap_def, List.flatMap_def, List.map_set, ho]
    congr 1
    obtain ⟨hl, e⟩ := List.getElem?_eq_some_iff.1 hi
    refine List.ext_getElem (by simp) fun j h1 h2 => ?_
    rw [List.getElem_set]
    split
    · rename_i e2; subst e2; rw [List.getElem_map, e]
    · rfl
  have hO : OO (h.set i r') X = OO h X := by unfold OO; rw [ho']
  refine ⟨⟨by rw [ho']; exact hh.nodup, by rw [ho']; exact hh.lt, hh.xlt, fun r2 hr => ?_⟩, ho'⟩
  rw [hO]
  rcases List.mem_or_eq_of_mem_set hr with h1 | h1
  · exact hh.holds r2 h1
  · rw [h1]; exact hc _ (hh.holds _ (List.mem_of_getElem? hi))
section
variable {P : Program} {ro : Option Nat} {nt : Nat} {h : List Res} {f : Operand → Option AV} {dst : Option Tmp} {ty : TypeId} {pos : String} {after : Array Edge} {guard : Option (Nat × Bool)} {x y z : Operand}
theorem aops_same {ops : Array Oper} {l : List Oper} {Q : Exit → St → Prop} {t : Fr} {h h' : List Res} {ds : List Nat} {i : Nat} {r r' : Res} (hi : h[i]? = some r) (ho : r'.own = r.own) (hc : ∀ w O, r.holds w O → r'.holds w O) (hset : h.set i r' = h')
    (k : aops P ro nt ops l Q ⟨t, h', ds⟩) : aops P ro nt ops l Q ⟨t, h, ds⟩ := by
  refine aops_ent (s' := ⟨t, h', ds⟩) ?_ k
  refine ⟨fun b hb => ?_, fun X a w hs => ?_⟩
  · have : owns h' = owns h := by
      rw [← hset]
      unfold owns
      rw [List.flatMap_def, List.flatMap_def, List.map_set, ho]
      congr 1
      obtain ⟨hl, e⟩ := List.getElem?_eq_some_iff.1 hi
      refine List.ext_getElem (by simp) fun j h1 h2 => ?_
      rw [List.getElem_set]
      split
      · rename_i e2; subst e2; rw [List.getElem_map, e]
      · rfl
    rw [← this]; exact hb
  · obtain ⟨q1, q2⟩ := hs.heap.setOwn hi ho (hc w)
    rw [hset] at q1 q2
    refine ⟨q1, hs.size, ?_, hs.defs⟩
    have : OO h' X = OO h X := by unfold OO; rw [q2]
    show FrRel w (OO h' X) t a.tmps
    rw [this]; exact hs.fr
/-- A row cut shorter: its room stays. -/
theorem part_0 (a : Addr) (n c k sz : Nat) : partV (.slice (some a) n c) 0 k sz = .slice (some a) k c := by
  unfold partV
  simp only [sliced]
  rw [cut_add]; simp
theorem short_own (s : Value) (k sz : Nat) (T : TypeId) (rows : List (List AV)) : (Res.row (partV s 0 k sz) sz T (rows.take k)).own = (Res.row s sz T rows).own := by
  cases s with
  | slice a n c =>
    cases a with
    | none => unfold partV; simp [sliced, Res.own]
    | some a => rw [part_0]; rfl
  | _ => rfl
theorem short_holds {w : World} {O : Nat → Prop} {s : Value} {k sz : Nat} {T : TypeId} {rows : List (List AV)} (hk : k ≤ rows.length) (h : (Res.row s sz T rows).holds w O) : (Res.row (partV s 0 k sz) sz T (rows.take k)).holds w O := by
  cases s with
  | slice a n c =>
    cases a with
    | none =>
      obtain ⟨rfl, rfl, rfl⟩ := h
      obtain rfl : k = 0 := by simpa using hk
      unfold partV; simp [sliced, Res.holds]
    | some a =>
      obtain ⟨h1, h2, h3, h4, cc, h5, h6, h7⟩ := h
      rw [part_0]
      refine ⟨h1, by simp; omega, by omega, fun i hi => by rw [List.getElem_take]; exact h4 i (by simp at hi; omega), cc, h5, h6, fun i hi j hj => ?_⟩
      simp only [List.getElem_take] at hj ⊢
      exact h7 i (by simp at hi; omega) j hj
  | _ => exact h
theorem aops_short {ops : Array Oper} {l : List Oper} {Q : Exit → St → Prop} {t : Fr} {h h' : List Res} {ds : List Nat} (s : Value) (k : Nat) {i sz : Nat} {T : TypeId} {rows : List (List AV)} [hr : HasRow h s i sz T rows] (hk : k ≤ rows.length) [hset : SetAt h i (.row (partV s 0 k sz) sz T (rows.take k)) h']
    (g : aops P ro nt ops l Q ⟨t, h', ds⟩) : aops P ro nt ops l Q ⟨t, h, ds⟩ := aops_same hr.h (short_own s k sz T rows) (fun _ _ q => short_holds hk q) hset.h g
end
end Go.Ab
/- A slice of one's own row, from its front on, without the room behind it. Conditions: none (rules over any program). -/
set_option linter.unusedVariables false
namespace Go.Ab
open Go
section
variable {P : Program} {ro : Option Nat} {nt : Nat} {h : List Res} {f : Operand → Option AV} {dst : Option Tmp} {ty : TypeId} {pos : String} {after : Array Edge} {guard : Option (Nat × Bool)} {x y z : Operand}
theorem qr_part_hm {T E : TypeId} {s : Value} {sz i k : Nat} {E' : TypeId} {rows : List (List AV)} (hx : f x = some (.v s)) [hr : HasRow h s i sz E' rows] (hy : f y = some (.v (.int .i64 k))) (hz : f z = some (.v (.int .i64 k))) (hk : k ≤ rows.length)
    [Und P T (.slice E)] [Siz P E sz] : QR P h f ⟨dst, .slice T x none (some y) (some z), ty, pos, after, guard⟩ (.v (cutV (partV s 0 k sz) sz)) := fun X ρ w he => by
  obtain ⟨a, cap, es, hcap, _⟩ := row_list he.heap hr.h
  obtain ⟨e1, e2⟩ := und_elem (P := P) (T := T) (E := E)
  have hv := (he.rel x _ hx).v_eq
  refine ⟨cutV (partV s 0 k sz) sz, run_v _ ?_, .v _⟩
  simp only [Option.map_none, Option.map_some]
  rw [run_sliceAt_slice w T _ _ _ _ e2, hv, (he.rel y _ hy).v_eq, (he.rel z _ hz).v_eq, es, run_slice_hm w T a _ cap e2 .i64 .i64 k k (by omega) (by omega) (by omega), e1]
  simp only [run_sizeOf (n := sz), Result.andThen_ok, Int.toNat_natCast]
  cases a with
  | none => rw [show partV (.slice none rows.length cap) 0 k sz = .slice none k cap by simp [partV, sliced], cutV_none]; simp [sliced]
  | some a => rw [part_0, cutV_some]; simp only [sliced]; rw [cut_add, Nat.sub_zero]
end
end Go.Ab
/- The walks of slices.Index of ints, scc's leave. Conditions: none. -/
set_option linter.unusedVariables false
set_option linter.unusedSimpArgs false
set_option maxRecDepth 10000
namespace Go.Proofs
open Go Go.Ab
attribute [local irreducible] QR QV OE aops aw dsoup dsoupM dalloc dallocM thn inBlk jsoup jch lsoup
open Go.H
theorem indexInt {f : Bool} (l : List Int) (s : Int) (hl : l.length ≤ 4611686018427387904) : ACall Tryz.prog 28 [.list f 1 (l.map intR), iv s] [] (fun r h' => h' = [] ∧ r = iv (fidx (fun a => intEq s a) 0 l)) := by
  refine acall_of_aw Tryz.func28 rfl rfl rfl ?_
  refine rn ?_
  refine aw_rng (l.length) (fun k : Nat => fidx (fun a => intEq s a) 0 l = fidx (fun a => intEq s a) k (l.drop k)) (fun k => [(8, iv k)]) [(0, _), (1, _), (7, _)] (by simp) ?_
  intro k lk zk
  refine rn ?_
  refine aw_cond rfl (fun hc9 => ?_) (fun hc9 => ?_)
  · have hk := ltMap hc9
    have rk := atRow (f := intR) hk
    refine rn ?_
    refine aw_cond rfl (fun hc16 => ?_) (fun hc16 => ?_)
    · refine rn ?_
      refine rq 1 ?_
      exact ⟨rfl, congrArg iv (by rw [zk, List.drop_eq_getElem_cons hk, fidx, if_pos (show intEq s l[k] = true from hc16)])⟩
    · refine rn ?_
      exact ⟨hk, by rw [zk, List.drop_eq_getElem_cons hk, fidx, if_neg (by rw [show intEq s l[k] = false from hc16]; decide)], eA⟩
  · have qk := geMap hc9 lk
    refine rn ?_
    refine rq 1 ?_
    exact ⟨rfl, congrArg iv (by rw [zk, qk, List.drop_length]; rfl)⟩
/-- What a leave tells: a component, or none. -/
abbrev oV : Option (SV × List Nat) → AV
  | none => .v (.slice none 0 0)
  | some x => .v x.1.v
abbrev oH (T : TypeId) : Option (SV × List Nat) → List Res
  | none => []
  | some x => [.row x.1.v 1 T (x.2.map natR)]
abbrev oC : Option (SV × List Nat) → List (List Nat)
  | none => []
  | some x => [x.2]
def OOk (n : Nat) : Option (SV × List Nat) → Prop
  | none => True
  | some x => x.2 ≠ [] ∧ x.2.length ≤ n ∧ ∃ a, x.1.a = some a
theorem clsN_len (r : List (Nat × Nat)) : (clsA (nextC r)).length = r.length := by
  rw [clsA_len]; cases r <;> rfl
theorem cls_cut {c : Nat × Nat} {r : List (Nat × Nat)} : (clsA (c :: r)).take r.length = clsA (nextC r) := clsA_take
theorem leave_up {n : Nat} {adj : Nat → List Nat} {w : TJ} (hw : TOk n adj w) {u d : Nat} {r : List (Nat × Nat)} (hc : w.cls = (u, d) :: r) (hr : 0 < r.length) :
    ∃ x y : Nat, x < n ∧ w.low x ≤ w.seen x ∧ (clsA (nextC r))[r.length - 1]? = some [iv (x : Int), iv (y : Int)] ∧ lowP w u r = upd w.low x (min (w.low x) (w.low u)) := by
  cases r with
  | nil => cases hr
  | cons p q =>
    obtain ⟨x, e⟩ := p
    have hx := (hw.inv.clsk (x, e) (by rw [hc]; simp)).1
    exact ⟨x, e + 1, (hw.inv.stkn x hx).1, (hw.inv.lowk x hx).1, clsA_top, rfl⟩
theorem lowP_u {n : Nat} {adj : Nat → List Nat} {w : TJ} (hw : TOk n adj w) {u d : Nat} {r : List (Nat × Nat)} (hc : w.cls = (u, d) :: r) : lowP w u r u = w.low u := by
  cases r with
  | nil => rfl
  | cons p q =>
    show upd w.low p.1 _ u = _
    have h := hw.inv.clss
    rw [hc] at h
    have h1 := ((List.pairwise_cons.1 h).1 p (by simp)).1
    exact upd_ne _ _ fun e => by rw [← e] at h1; exact Nat.lt_irrefl _ h1
theorem lowP_0 {w : TJ} {u : Nat} {r : List (Nat × Nat)} (hr : ¬ 0 < r.length) : lowP w u r = w.low := by
  cases r with
  | nil => rfl
  | cons p q => exact absurd (Nat.succ_pos _) hr
theorem stk_drop {l A B : List Nat} {u : Nat} (hs : l = A ++ u :: B) : (stkA l).drop B.length = (u :: A.reverse).map natR := by
  subst hs; simp [stkA]
theorem stk_cut {l A B : List Nat} {u : Nat} (hs : l = A ++ u :: B) : (stkA l).take B.length = stkA B := by
  subst hs; simp [stkA]
theorem copyC {l A B : List Nat} {u n : Nat} (hs : l = A ++ u :: B) (hn : n = A.length + 1) : List.take 0 (List.replicate n [iv 0]) ++ (List.take n (List.drop B.length (stkA l)) ++ List.drop (0 + (List.take n (List.drop B.length (stkA l))).length) (List.replicate n [iv 0])) = (u :: A.reverse).map natR := by
  subst hn
  rw [List.take_zero, List.nil_append, stk_drop hs, List.take_of_length_le (by simp), List.drop_eq_nil_of_le (by simp), List.append_nil]
theorem stk_C {l A B : List Nat} {u : Nat} (hs : l = A ++ u :: B) : ∀ x ∈ u :: A.reverse, x ∈ l := by
  subst hs
  intro x hx
  rcases List.mem_cons.1 hx with rfl | hx
  · simp
  · exact List.mem_append_left _ (List.mem_reverse.1 hx)
theorem stkA_I (l : List Nat) : stkA l = (rowI l.reverse).map intR := by
  unfold stkA rowI; rw [List.map_map]; rfl
theorem fidx_at {α : Type} {p : α → Bool} {a : α} (h1 : p a = true) : ∀ (L R : List α) (k : Nat), (∀ x ∈ L, p x = false) → fidx p k (L ++ a :: R) = ((k + L.length : Nat) : Int)
  | [], R, k, _ => by rw [List.nil_append, fidx, if_pos h1]; rfl
  | x :: L, R, k, h => by
    rw [List.cons_append, fidx, if_neg (by rw [h x (by simp)]; decide), fidx_at h1 L R (k + 1) (fun y q => h y (List.mem_cons_of_mem _ q))]
    congr 1
    rw [List.length_cons]; omega
theorem openC_at {n : Nat} (l C : List Nat) (k : Nat) {v : Nat} (hv : v < n) : (openC n l C k)[v]? = some [bv (decide (v ∈ l) && !decide (v ∈ C.take k))] := rwB_at _ hv
theorem openC_st {n : Nat} {l C : List Nat} {k : Nat} (hk : k < C.length) : (openC n l C k).set C[k] [AV.v (.bool false)] = openC n l C (k + 1) := openC_s hk
theorem natR_at {l : List Nat} {k : Nat} (hk : k < l.length) : (l.map natR)[k]? = some [iv (l[k] : Int)] := by
  rw [List.getElem?_map, List.getElem?_eq_getElem hk]; rfl
theorem scIndex {f : Bool} {l A B : List Nat} {u : Nat} (hs : l = A ++ u :: B) (hub : u ∉ B) (hl : l.length ≤ 1000) : ACall Tryz.prog 28 [.list f 1 (stkA l), iv (u : Int)] [] (fun r h' => h' = [] ∧ r = iv (B.length : Int)) := by
  rw [stkA_I]
  refine (indexInt (rowI l.reverse) u (by unfold rowI; rw [List.length_map, List.length_reverse]; omega)).mono fun r h' q => ⟨q.1, ?_⟩
  rw [q.2, stk_rev hs]
  have e1 : rowI (B.reverse ++ u :: A.reverse) = rowI B.reverse ++ (u : Int) :: rowI A.reverse := by simp [rowI]
  rw [e1, fidx_at (by simp [intEq])]
  · simp [rowI]
  · intro x hx
    obtain ⟨y, hy, rfl⟩ := List.mem_map.1 hx
    have e2 : u ≠ y := fun q => hub (by rw [q]; exact List.mem_reverse.1 hy)
    simp [intEq]; omega
set_option maxHeartbeats 4000000 in
theorem scLeave (g : Gr) (hok : GOk g) (w : TJ) (hw : TOk (nG g) (adjG g) w) (sn lw op st ca : SV) (bw : Nat) (u d : Nat) (rr : List (Nat × Nat)) (hc : w.cls = (u, d) :: rr) (hd : d = (adjG g u).length) : ACall Tryz.prog 105 [.v (.pointer (some ⟨bw, 0, none⟩))] (.box bw 140 [iv g.n, edsA g.es, intsA (staL g), .v sn.v, .v lw.v, .v op.v, .v st.v, .v ca.v, iv (w.many : Nat)] :: .row sn.v 1 3 (seenA (nG g) w.seen) :: .row lw.v 1 3 (seenA (nG g) w.low) :: .row op.v 1 4 (openA (nG g) w.stk) :: .row st.v 1 3 (stkA w.stk) :: .row ca.v 2 149 (clsA ((u, d) :: rr)) :: []) (fun r h' => ∃ (w' : TJ) (st' ca' : SV) (o : Option (SV × List Nat)), r = oV o ∧ h' = oH 3 o ++ (.box bw 140 [iv g.n, edsA g.es, intsA (staL g), .v sn.v, .v lw.v, .v op.v, .v st'.v, .v ca'.v, iv (w'.many : Nat)] :: .row sn.v 1 3 (seenA (nG g) w'.seen) :: .row lw.v 1 3 (seenA (nG g) w'.low) :: .row op.v 1 4 (openA (nG g) w'.stk) :: .row st'.v 1 3 (stkA w'.stk) :: .row ca'.v 2 149 (clsA w'.cls) :: []) ∧ TOk (nG g) (adjG g) w' ∧ muT (nG g) (adjG g) w' < muT (nG g) (adjG g) w ∧ w'.seen = w.seen ∧ w'.outs = w.outs ++ oC o ∧ OOk (nG g) o) := by
  refine acall_of_aw Tryz.func105 rfl rfl rfl ?_
  have hin := hw.inv.clsk (u, d) (by rw [hc]; simp)
  have hun : u < nG g := (hw.inv.stkn u hin.1).1
  have hn1 := hok.n1
  have hng : nG g ≤ 300 := by unfold nG; omega
  have hst := stk_len hw.inv
  have hsk : w.stk.length ≤ 1000 := by omega
  have hcl := cls_len hw.inv
  rw [hc, List.length_cons] at hcl
  obtain ⟨A, B, hs⟩ := stk_split hw.inv hc
  obtain ⟨hua, hub, hnd⟩ := stk_idx hw.inv hs
  have hsl : w.stk.length = A.length + (B.length + 1) := by rw [hs, List.length_append, List.length_cons]
  have hmC := stk_C hs
  have hcL := clsA_len ((u, d) :: rr)
  rw [List.length_cons] at hcL
  have hsL := stkA_len w.stk
  have hCl : (u :: A.reverse).length = A.length + 1 := by rw [List.length_cons, List.length_reverse]
  refine aw_seq (aw_region ?_)
  refine q1 ?_
  refine aops_nil (thn_n ?_)
  refine aw_seq (aw_region ?_)
  refine q1 ?_
  refine q1 ?_
  refine q1 ?_
  refine q1 ?_
  refine q1 ?_
  refine qq rfl rfl (qr_as (qr_ari rfl rfl rfl (by omega)) (show iv _ = iv ((rr.length : Nat) : Int) from congrArg iv (by rw [clsA_len, List.length_cons]; omega))) ?_
  refine q1 ?_
  refine aops_nil (thn_n ?_)
  refine aw_seq (aw_region ?_)
  refine q1 ?_
  refine q1 ?_
  refine q1 ?_
  refine q1 ?_
  refine q1 ?_
  refine qq rfl rfl (qr_index_row (k := rr.length) rfl rfl (by rw [clsA_len, List.length_cons]; omega)) ?_
  refine q1 ?_
  refine qq rfl rfl (qr_load_rp_one rfl clsA_fr rfl) ?_
  refine q1 ?_
  refine aops_nil (thn_n ?_)
  refine aw_seq ?_
  refine aw_seq (aw_region ?_)
  refine q1 ?_
  refine q1 ?_
  refine q1 ?_
  refine q1 ?_
  refine q1 ?_
  refine q1 ?_
  refine q1 ?_
  refine qq rfl rfl (qr_part_hm (k := rr.length) rfl rfl rfl (by rw [clsA_len, List.length_cons]; omega)) ?_
  refine q1 ?_
  refine q1 ?_
  refine aops_short ca.v rr.length (by rw [clsA_len, List.length_cons]; omega) ?_
  refine aops_cut (partV ca.v 0 rr.length 2) ?_
  refine aops_slice (cutV (partV ca.v 0 rr.length 2) 2) fun ca' hca => ?_
  rw [hca, cls_cut]
  refine rn ?_
  refine aw_cond rfl (fun hc35 => ?_) (fun hc35 => ?_)
  · have hpos : 0 < rr.length := by have q := of_decide_eq_true hc35; omega
    obtain ⟨x, y, hxn, hxl, hat, hlp⟩ := leave_up hw hc hpos
    refine aw_seq (aw_region ?_)
    refine q1 ?_
    refine q1 ?_
    refine q1 ?_
    refine q1 ?_
    refine q1 ?_
    refine qq rfl rfl (qr_as (qr_ari rfl rfl rfl (by omega)) (show iv _ = iv ((rr.length - 1 : Nat) : Int) from congrArg iv (by omega))) ?_
    refine qq rfl rfl (qr_index_row (k := rr.length - 1) rfl rfl (by rw [clsN_len]; omega)) ?_
    refine q1 ?_
    refine qq rfl rfl (qr_load_rp_one rfl hat rfl) ?_
    refine rn ?_
    refine aw_draw 20 rfl ?_
    refine dq rfl rfl qrA ?_
    refine dq rfl rfl qrA ?_
    refine dq rfl rfl qrA ?_
    refine dq rfl rfl qrA ?_
    refine dq rfl rfl qrA ?_
    refine dq rfl rfl qrA ?_
    refine dq rfl rfl qrA ?_
    refine dq rfl rfl qrA ?_
    refine dq rfl rfl qrA ?_
    refine dq rfl rfl qrA ?_
    refine dq rfl rfl (qr_index_row (k := x) rfl rfl (by rw [seenA_len]; exact hxn)) ?_
    refine dq rfl rfl (qr_load_rp_one rfl (seenA_at _ hxn) rfl) ?_
    refine dq rfl rfl qrA ?_
    refine dq rfl rfl qrA ?_
    refine dq rfl rfl qrA ?_
    refine dq rfl rfl qrA ?_
    refine dq rfl rfl qrA ?_
    refine dq rfl rfl (qr_index_row (k := u) rfl rfl (by rw [seenA_len]; exact hun)) ?_
    refine dq rfl rfl (qr_load_rp_one rfl (seenA_at _ hun) rfl) ?_
    refine dq rfl rfl (qr_as (qr_min2 rfl rfl) (show iv _ = iv ((min (w.low x) (w.low u) : Nat) : Int) from congrArg iv (min_v _ _))) ?_
    refine rn2 ?_
    refine qq rfl rfl (qr_index_row (k := x) rfl rfl (by rw [seenA_len]; exact hxn)) ?_
    refine aops_e rfl (oe_store_rp (k := x) rfl rfl rfl (seenA_at _ hxn) rfl (Nat.le_of_ble_eq_true rfl) ?_)
    rw [st1, seen_st, ← hlp]
    refine rn ?_
    refine aw_draw 14 rfl ?_
    refine dq rfl rfl qrA ?_
    refine dq rfl rfl qrA ?_
    refine dq rfl rfl qrA ?_
    refine dq rfl rfl qrA ?_
    refine dq rfl rfl qrA ?_
    refine dq rfl rfl (qr_index_row (k := u) rfl rfl (by rw [seenA_len]; exact hun)) ?_
    refine dq rfl rfl (qr_as (qr_load_rp_one rfl (seenA_at _ hun) rfl) (show iv _ = iv (w.low u : Int) from congrArg (fun z : Nat => iv (z : Int)) (lowP_u hw hc))) ?_
    refine dq rfl rfl qrA ?_
    refine dq rfl rfl qrA ?_
    refine dq rfl rfl qrA ?_
    refine dq rfl rfl qrA ?_
    refine dq rfl rfl qrA ?_
    refine dq rfl rfl (qr_index_row (k := u) rfl rfl (by rw [seenA_len]; exact hun)) ?_
    refine dq rfl rfl (qr_load_rp_one rfl (seenA_at _ hun) rfl) ?_
    refine rn ?_
    refine aw_cond rfl (fun hc80 => ?_) (fun hc80 => ?_)
    · have hlt : w.low u ≠ w.seen u := by have q := hc80; simp at q; omega
      refine rn ?_
      exact retq (.cons _ _ _ _ (.tmp _ _ rfl) .nil) (.refl _ _) ⟨w.leave1 u rr, st, ca', none, rfl, rfl, hw.leave1 hc hd hlt, mu_leave hc rfl rfl, rfl, (List.append_nil _).symm, trivial⟩
    · have heq : w.low u = w.seen u := by have q := hc80; simp at q; omega
      refine rn ?_
      refine qv rfl rfl (qv_call rfl rfl (FCall.lend (R := fun x => x = iv (B.length : Int)) (FCall.of_fun (scIndex hs hub hsk)) (fun r hr => by rw [hr]; rfl) (.refl _ _) ⟨ble_row, .refl _ _, trivial⟩)) ?_
      refine q1 ?_
      refine aops_nil (thn_n ?_)
      refine aw_seq (aw_region ?_)
      refine q1 ?_
      refine q1 ?_
      refine q1 ?_
      refine q1 ?_
      refine q1 ?_
      refine q1 ?_
      refine qq rfl rfl (qr_as (qr_ari rfl rfl rfl (by omega)) (show iv _ = iv ((A.length + 1 : Nat) : Int) from congrArg iv (by rw [stkA_len, hs, List.length_append, List.length_cons]; omega))) ?_
      refine aops_e rfl (oe_makeSlice rfl rfl rfl (by omega) (hk := fun bm => ?_))
      refine aops_slice (.slice (some ⟨bm, 0, none⟩) (A.length + 1) (A.length + 1)) fun sv hsv => ?_
      have hp : partV sv.v 0 (A.length + 1) 1 = sv.v := by rw [← hsv, part_0]
      rw [hsv]
      refine q1 ?_
      refine aops_nil (thn_n ?_)
      refine aw_seq (aw_region ?_)
      refine q1 ?_
      refine q1 ?_
      refine q1 ?_
      refine q1 ?_
      refine q1 ?_
      refine q1 ?_
      refine qq rfl rfl (qr_part_l (l := B.length) rfl rfl (by rw [stkA_len]; omega)) ?_
      refine aops_e rfl (oe_copy_pr (s := sv.v) (d := 0) (hi := A.length + 1) (n := A.length + 1) (by rw [hp]; rfl) rfl (Nat.zero_le _) (by rw [List.length_replicate]; omega) (by rw [stkA_len]; omega) (Nat.le_refl _) (by rw [stkA_len]; omega) rfl (hk := ?_) (by intro r hr; obtain ⟨x, _, rfl⟩ := List.mem_map.1 hr; rfl))
      rw [copyC hs rfl]
      refine aops_nil (thn_n ?_)
      refine aw_seq (aw_region ?_)
      refine q1 ?_
      refine q1 ?_
      refine q1 ?_
      refine q1 ?_
      refine q1 ?_
      refine q1 ?_
      refine qq rfl rfl (qr_part_h (k := B.length) rfl rfl (by rw [stkA_len]; omega)) ?_
      refine q1 ?_
      refine q1 ?_
      refine aops_short st.v B.length (by rw [stkA_len]; omega) ?_
      refine aops_slice (partV st.v 0 B.length 1) fun st' hst => ?_
      rw [hst, stk_cut hs]
      refine rn ?_
      rw [← openC_0 (nG g) w.stk (u :: A.reverse)]
      refine aw_range (u :: A.reverse).length (fun _ => True) (fun k => ⟨[(114, iv k), (0, .v (.pointer (some ⟨bw, 0, none⟩))), (7, .v sv.v), (112, .v sv.v), (113, iv ((u :: A.reverse).map natR).length)], .row sv.v 1 3 ((u :: A.reverse).map natR) :: .box bw 140 [iv g.n, edsA g.es, intsA (staL g), .v sn.v, .v lw.v, .v op.v, .v st'.v, .v ca'.v, iv (w.many : Nat)] :: .row sn.v 1 3 (seenA (nG g) w.seen) :: .row lw.v 1 3 (seenA (nG g) (lowP w u rr)) :: .row op.v 1 4 (openC (nG g) w.stk (u :: A.reverse) k) :: .row st'.v 1 3 (stkA B) :: .row ca'.v 2 149 (clsA (nextC rr)) :: [], []⟩) trivial es ?_
      intro k lk _
      refine rn ?_
      refine aw_cond rfl (fun hc115 => ?_) (fun hc115 => ?_)
      · have hk : k < (u :: A.reverse).length := by have q := of_decide_eq_true hc115; rw [List.length_map] at q; omega
        have hkn : (u :: A.reverse)[k] < nG g := (hw.inv.stkn _ (hmC _ (List.getElem_mem hk))).1
        refine aw_skip ?_
        refine thn_n ?_
        refine aw_seq ?_
        refine aw_block ?_
        refine aw_seq (aw_region ?_)
        refine qq rfl rfl (qr_index_row (k := k) rfl rfl (by rw [List.length_map]; exact hk)) ?_
        refine qq rfl rfl (qr_load_rp_one rfl (natR_at hk) rfl) ?_
        refine q1 ?_
        refine aops_nil (thn_n ?_)
        refine aw_region ?_
        refine q1 ?_
        refine q1 ?_
        refine q1 ?_
        refine q1 ?_
        refine q1 ?_
        refine qq rfl rfl (qr_index_row (k := (u :: A.reverse)[k]) rfl rfl (by rw [openC_len]; exact hkn)) ?_
        refine aops_e rfl (oe_store_rp (k := (u :: A.reverse)[k]) rfl rfl rfl (openC_at _ _ _ hkn) rfl (Nat.le_of_ble_eq_true rfl) ?_)
        rw [st1, openC_st hk]
        refine rn ?_
        exact ⟨hk, trivial, eA⟩
      · have qk : k = (u :: A.reverse).length := by have q := of_decide_eq_false hc115; rw [List.length_map] at q; omega
        refine rn ?_
        exact retq (.cons _ _ _ _ (.tmp _ _ rfl) .nil) (.refl _ _) ⟨w.leave2 u rr B (u :: A.reverse), st', ca', some (sv, (u :: A.reverse)), rfl, by rw [qk, openC_end hs hnd]; rfl, hw.leave2 hc hd heq hs ((A.reverse_perm.cons u).trans (List.perm_append_singleton u A).symm), mu_leave hc rfl rfl, rfl, rfl, List.cons_ne_nil _ _, by rw [List.length_cons, List.length_reverse]; omega, ⟨_, (Value.slice.inj hsv).1.symm⟩⟩
  · have hpos : ¬ 0 < rr.length := by have q := of_decide_eq_false hc35; omega
    rw [← lowP_0 (w := w) (u := u) hpos]
    refine rn ?_
    refine aw_draw 14 rfl ?_
    refine dq rfl rfl qrA ?_
    refine dq rfl rfl qrA ?_
    refine dq rfl rfl qrA ?_
    refine dq rfl rfl qrA ?_
    refine dq rfl rfl qrA ?_
    refine dq rfl rfl (qr_index_row (k := u) rfl rfl (by rw [seenA_len]; exact hun)) ?_
    refine dq rfl rfl (qr_as (qr_load_rp_one rfl (seenA_at _ hun) rfl) (show iv _ = iv (w.low u : Int) from congrArg (fun z : Nat => iv (z : Int)) (lowP_u hw hc))) ?_
    refine dq rfl rfl qrA ?_
    refine dq rfl rfl qrA ?_
    refine dq rfl rfl qrA ?_
    refine dq rfl rfl qrA ?_
    refine dq rfl rfl qrA ?_
    refine dq rfl rfl (qr_index_row (k := u) rfl rfl (by rw [seenA_len]; exact hun)) ?_
    refine dq rfl rfl (qr_load_rp_one rfl (seenA_at _ hun) rfl) ?_
    refine rn ?_
    refine aw_cond rfl (fun hc80 => ?_) (fun hc80 => ?_)
    · have hlt : w.low u ≠ w.seen u := by have q := hc80; simp at q; omega
      refine rn ?_
      exact retq (.cons _ _ _ _ (.tmp _ _ rfl) .nil) (.refl _ _) ⟨w.leave1 u rr, st, ca', none, rfl, rfl, hw.leave1 hc hd hlt, mu_leave hc rfl rfl, rfl, (List.append_nil _).symm, trivial⟩
    · have heq : w.low u = w.seen u := by have q := hc80; simp at q; omega
      refine rn ?_
      refine qv rfl rfl (qv_call rfl rfl (FCall.lend (R := fun x => x = iv (B.length : Int)) (FCall.of_fun (scIndex hs hub hsk)) (fun r hr => by rw [hr]; rfl) (.refl _ _) ⟨ble_row, .refl _ _, trivial⟩)) ?_
      refine q1 ?_
      refine aops_nil (thn_n ?_)
      refine aw_seq (aw_region ?_)
      refine q1 ?_
      refine q1 ?_
      refine q1 ?_
      refine q1 ?_
      refine q1 ?_
      refine q1 ?_
      refine qq rfl rfl (qr_as (qr_ari rfl rfl rfl (by omega)) (show iv _ = iv ((A.length + 1 : Nat) : Int) from congrArg iv (by rw [stkA_len, hs, List.length_append, List.length_cons]; omega))) ?_
      refine aops_e rfl (oe_makeSlice rfl rfl rfl (by omega) (hk := fun bm => ?_))
      refine aops_slice (.slice (some ⟨bm, 0, none⟩) (A.length + 1) (A.length + 1)) fun sv hsv => ?_
      have hp : partV sv.v 0 (A.length + 1) 1 = sv.v := by rw [← hsv, part_0]
      rw [hsv]
      refine q1 ?_
      refine aops_nil (thn_n ?_)
      refine aw_seq (aw_region ?_)
      refine q1 ?_
      refine q1 ?_
      refine q1 ?_
      refine q1 ?_
      refine q1 ?_
      refine q1 ?_
      refine qq rfl rfl (qr_part_l (l := B.length) rfl rfl (by rw [stkA_len]; omega)) ?_
      refine aops_e rfl (oe_copy_pr (s := sv.v) (d := 0) (hi := A.length + 1) (n := A.length + 1) (by rw [hp]; rfl) rfl (Nat.zero_le _) (by rw [List.length_replicate]; omega) (by rw [stkA_len]; omega) (Nat.le_refl _) (by rw [stkA_len]; omega) rfl (hk := ?_) (by intro r hr; obtain ⟨x, _, rfl⟩ := List.mem_map.1 hr; rfl))
      rw [copyC hs rfl]
      refine aops_nil (thn_n ?_)
      refine aw_seq (aw_region ?_)
      refine q1 ?_
      refine q1 ?_
      refine q1 ?_
      refine q1 ?_
      refine q1 ?_
      refine q1 ?_
      refine qq rfl rfl (qr_part_h (k := B.length) rfl rfl (by rw [stkA_len]; omega)) ?_
      refine q1 ?_
      refine q1 ?_
      refine aops_short st.v B.length (by rw [stkA_len]; omega) ?_
      refine aops_slice (partV st.v 0 B.length 1) fun st' hst => ?_
      rw [hst, stk_cut hs]
      refine rn ?_
      rw [← openC_0 (nG g) w.stk (u :: A.reverse)]
      refine aw_range (u :: A.reverse).length (fun _ => True) (fun k => ⟨[(114, iv k), (0, .v (.pointer (some ⟨bw, 0, none⟩))), (7, .v sv.v), (112, .v sv.v), (113, iv ((u :: A.reverse).map natR).length)], .row sv.v 1 3 ((u :: A.reverse).map natR) :: .box bw 140 [iv g.n, edsA g.es, intsA (staL g), .v sn.v, .v lw.v, .v op.v, .v st'.v, .v ca'.v, iv (w.many : Nat)] :: .row sn.v 1 3 (seenA (nG g) w.seen) :: .row lw.v 1 3 (seenA (nG g) (lowP w u rr)) :: .row op.v 1 4 (openC (nG g) w.stk (u :: A.reverse) k) :: .row st'.v 1 3 (stkA B) :: .row ca'.v 2 149 (clsA (nextC rr)) :: [], []⟩) trivial es ?_
      intro k lk _
      refine rn ?_
      refine aw_cond rfl (fun hc115 => ?_) (fun hc115 => ?_)
      · have hk : k < (u :: A.reverse).length := by have q := of_decide_eq_true hc115; rw [List.length_map] at q; omega
        have hkn : (u :: A.reverse)[k] < nG g := (hw.inv.stkn _ (hmC _ (List.getElem_mem hk))).1
        refine aw_skip ?_
        refine thn_n ?_
        refine aw_seq ?_
        refine aw_block ?_
        refine aw_seq (aw_region ?_)
        refine qq rfl rfl (qr_index_row (k := k) rfl rfl (by rw [List.length_map]; exact hk)) ?_
        refine qq rfl rfl (qr_load_rp_one rfl (natR_at hk) rfl) ?_
        refine q1 ?_
        refine aops_nil (thn_n ?_)
        refine aw_region ?_
        refine q1 ?_
        refine q1 ?_
        refine q1 ?_
        refine q1 ?_
        refine q1 ?_
        refine qq rfl rfl (qr_index_row (k := (u :: A.reverse)[k]) rfl rfl (by rw [openC_len]; exact hkn)) ?_
        refine aops_e rfl (oe_store_rp (k := (u :: A.reverse)[k]) rfl rfl rfl (openC_at _ _ _ hkn) rfl (Nat.le_of_ble_eq_true rfl) ?_)
        rw [st1, openC_st hk]
        refine rn ?_
        exact ⟨hk, trivial, eA⟩
      · have qk : k = (u :: A.reverse).length := by have q := of_decide_eq_false hc115; rw [List.length_map] at q; omega
        refine rn ?_
        exact retq (.cons _ _ _ _ (.tmp _ _ rfl) .nil) (.refl _ _) ⟨w.leave2 u rr B (u :: A.reverse), st', ca', some (sv, (u :: A.reverse)), rfl, by rw [qk, openC_end hs hnd]; rfl, hw.leave2 hc hd heq hs ((A.reverse_perm.cons u).trans (List.perm_append_singleton u A).symm), mu_leave hc rfl rfl, rfl, rfl, List.cons_ne_nil _ _, by rw [List.length_cons, List.length_reverse]; omega, ⟨_, (Value.slice.inj hsv).1.symm⟩⟩
end Go.Proofs
/- A slice held against nil; a row that is made among what draws its order. Conditions: none (rules over any program). -/
set_option linter.unusedVariables false
set_option linter.unusedSimpArgs false
namespace Go.Ab
open Go
section
variable {P : Program} {ro : Option Nat} {nt : Nat} {h : List Res} {f : Operand → Option AV} {dst : Option Tmp} {ty : TypeId} {pos : String} {after : Array Edge} {guard : Option (Nat × Bool)} {x y z : Operand}
theorem qr_neqnil {T E T' : TypeId} {a : Option Addr} {n c : Nat} (hx : f x = some (.v (.slice a n c))) (hy : f y = some (.v (.slice none 0 0))) [Und P T (.slice E)] :
    QR P h f ⟨dst, .binOp .neq T x y T', ty, pos, after, guard⟩ (.v (.bool (!a.isNone))) := fun X ρ w he => by
  refine ⟨_, run_v _ ?_, .v _⟩
  rw [(he.rel x _ hx).v_eq, (he.rel y _ hy).v_eq]
  have h1 : (eqGuard .neq T x y (.slice a n c) (.slice none 0 0)) = pure () := rfl
  rw [h1]
  have h3 : (Op.equal T (.slice a n c) (.slice none 0 0)).run P w = .ok a.isNone w := run_eqIn_nil 9999 a n c
  have h2 : (binOp .neq T (.slice a n c) (.slice none 0 0)).run P w = ((Op.equal T (.slice a n c) (.slice none 0 0)).run P w).andThen fun b w => .ok (.bool (!b)) w := by
    simp only [binOp, Sem.run_bind, Sem.run_pure]
  simp only [Sem.run_bind, Sem.run_pure, Result.andThen_ok, h2, h3]
theorem qr_len_nil {T E : TypeId} {tys : List TypeId} (hx : f x = some (.v (.slice none 0 0))) [Und P T (.slice E)] :
    QR P h f ⟨dst, .call ⟨.builtin .len, [x].toArray, (T :: tys).toArray⟩, ty, pos, after, guard⟩ (.v (.int .i64 0)) := fun X ρ w he => by
  have hv := (he.rel x _ hx).v_eq
  refine ⟨_, ?_, .v _⟩
  simp only [execOp, resolve, List.map_toArray, List.map_cons, List.map_nil, hv, Sem.run_bind, Sem.run_pure, Result.andThen_ok, invoke, builtin, Builtin.len_, List.getElem?_toArray, List.getElem?_cons_zero, run_underlying (d := TypeDesc.slice E)]
  rfl
end
section
variable {P : Program} {ro : Option Nat} {nt : Nat} {h : List Res} {dsl : List Nat} {l : List Oper} {sd : List Tmp} {t0 : Fr} {rest : List Oper} {e : Fr} {K : Fr → List (Option CM) → Prop} {d : Tmp} {ty : TypeId} {pos : String} {after : Array Edge} {x y : Operand}
theorem mmake {T E bytes : Nat} {n : Nat} {zv : Value} [hu : Und P T (.slice E)] [hz : ZerV P E zv] [Siz P E 1] [hby : Byt P E bytes] (hd : Nat.blt d nt = true) (hx : evS sd (pdst l ⟨some d, .makeSlice T x y, ty, pos, after, none⟩) e t0 x = some (.v (.int .i64 n)))
    (hy : evS sd (pdst l ⟨some d, .makeSlice T x y, ty, pos, after, none⟩) e t0 y = some (.v (.int .i64 n))) (hn : n ≤ 1099511627776) (hk : dsoupM P ro nt h dsl l sd t0 rest e (fun e ms => K e (some ([], mrow 1 E (List.replicate n [.v zv])) :: ms))) (hb : bytes ≤ 128 := by decide) (hzo : zv.cells = #[zv] := by rfl) :
    dsoupM P ro nt h dsl l sd t0 (⟨some d, .makeSlice T x y, ty, pos, after, none⟩ :: rest) e K := by
  refine .inr ⟨([], mrow 1 E (List.replicate n [.v zv])), ⟨d, rfl, hd, rfl, fun X a w K Q hsz hdf he hK => ?_⟩, hk⟩
  refine ⟨about_true, ?_⟩
  have hbi := hby.h
  cases hi : P.info? E with
  | none => simp [hi] at hbi
  | some inf =>
    simp [hi] at hbi
    have hw : IntKind.i64.wrap (n : Int) = n := IntWalk.i64_in _ ⟨by omega, by omega⟩
    have hcells : (if n * 1 = 0 then (#[] : Array Value) else (Array.range (n * 1)).map (fun i => zv.cells[i % zv.cells.size]!)) = Array.replicate n zv := by
      split
      · have : n = 0 := by omega
        subst this; rfl
      · apply Array.ext
        · simp
        · intro i h1 h2
          simp only [Array.getElem_map, Array.getElem_range, hzo, Array.getElem_replicate]
          have : (#[zv] : Array Value).size = 1 := rfl
          rw [this, Nat.mod_one]; rfl
    have hmul : inf.bytes * n ≤ 128 * 1099511627776 := Nat.mul_le_mul (by omega) hn
    have hl1 : ¬ ((n : Int) < 0) := by omega
    have hl2 : ¬ ((inf.bytes : Int) * (n : Int) > 2 ^ 48) := by
      rw [← Int.natCast_mul]
      generalize inf.bytes * n = m at hmul ⊢
      omega
    have e : (execOp a.eval (⟨some d, .makeSlice T x y, ty, pos, after, none⟩ : Oper)).run P w = .ok (.value (.slice (some ⟨w.heap.size, 0, none⟩) n n)) { w with heap := w.heap.push (.cells (Array.replicate n zv) E (0, 0)) } := by
      refine run_v _ ?_
      rw [(he.rel x _ hx).v_eq, (he.rel y _ hy).v_eq]
      have hai : ∀ w : World, (asInt (.int .i64 (n : Int))).run P w = .ok (n : Int) w := fun w => rfl
      have e1 : ∀ w : World, (Instr.makeSlice T (.int .i64 (n : Int)) (.int .i64 (n : Int))).run P w = .ok (.slice (some ⟨w.heap.size, 0, none⟩) n n) { w with heap := w.heap.push (.cells (if n * 1 = 0 then (#[] : Array Value) else (Array.range (n * 1)).map (fun i => zv.cells[i % zv.cells.size]!)) E (0, 0)) } := by
        intro w
        simp only [Instr.makeSlice, Sem.run_bind, run_underlying (h := hu), hai, Result.andThen_ok, run_typeInfo hi, hw]
        rw [if_neg (by simp only [Bool.or_eq_true, decide_eq_true_eq, not_or]; exact ⟨⟨⟨hl1, hl2⟩, hl1⟩, by omega⟩)]
        simp only [Sem.run_bind, run_askRoom, Result.andThen_ok, run_sizeOf (n := 1), Int.toNat_natCast]
        by_cases h0 : n * 1 = 0
        · have : n = 0 := by omega
          subst this
          have hr0 : Array.range 0 = #[] := by simp
          simp [newRow, hr0]
        · have h0' : ¬ n = 0 := by omega
          simp [h0', newRow, run_zeroValue hz.h]
      rw [e1, hcells]
    rw [semAt_nd rfl, e]
    have hx2 : Res.holds { w with heap := w.heap.push (.cells (Array.replicate n zv) E (0, 0)) } (OO (.row (.slice (some ⟨w.heap.size, 0, none⟩) n n) 1 E (List.replicate n [.v zv]) :: h) X) (.row (.slice (some ⟨w.heap.size, 0, none⟩) n n) 1 E (List.replicate n [.v zv])) := by
      refine ⟨rfl, by simp, Nat.le_refl _, by simp, Array.replicate n zv, by simp, by simp, fun i hi j hj => ?_⟩
      simp at hi hj
      subst hj
      exact ⟨zv, by simp [hi], by simpa using Rel.v _⟩
    have hk2 : Keep (owns h) w (owns (.row (.slice (some ⟨w.heap.size, 0, none⟩) n n) 1 E (List.replicate n [.v zv]) :: h)) { w with heap := w.heap.push (.cells (Array.replicate n zv) E (0, 0)) } := Keep.alloc (h := h) (.cells (Array.replicate n zv) E (0, 0)) (.row (.slice (some ⟨w.heap.size, 0, none⟩) n n) 1 E (List.replicate n [.v zv])) rfl
    have hh2 := he.heap.alloc (.cells (Array.replicate n zv) E (0, 0)) (.row (.slice (some ⟨w.heap.size, 0, none⟩) n n) 1 E (List.replicate n [.v zv])) rfl hx2
    exact hK ⟨[⟨some ⟨w.heap.size, 0, none⟩, n, n⟩], []⟩ _ _ (.v _) hh2 hk2
end
end Go.Ab
