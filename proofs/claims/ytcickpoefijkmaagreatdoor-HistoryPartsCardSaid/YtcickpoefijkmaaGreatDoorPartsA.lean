/- The abstract logic, part 1: abstract values, resources, what they say of memory; the abstract wp of code; contracts of functions. Conditions: none (definitions and lemmas over any program). -/
import Derived.CallsIn
import Derived.OrdersIn
import Derived.RangeFuncIn
import Derived.RangeFuncLeaves
import Derived.KernelRfl
import Derived.TacticsIn
import Derived.Laws.Cells
import Derived.Laws.World
import Derived.Laws.Rows
import Derived.Laws.Entries
import Derived.Laws.Small
import Derived.Laws.Slices
import Derived.IntWalk
import Derived.ChangeArms
import Derived.SizedLaws
import Derived.Laws.Append
set_option linter.unusedVariables false
namespace Go.Ab
open Go
inductive AV where
  | any
  | v (x : Value)
  | list (full : Bool) (sz : Nat) (rows : List (List AV))
  | pp (cells : List AV)
  | rp (s : Value) (sz i off : Nat)
  | agg (cells : List AV)
  | tup (vs : List AV)
  | fn (f : Fn) (first captured : List AV)
inductive Rel (w : World) (O : Nat → Prop) : AV → Value → Prop where
  | any (x : Value) : Rel w O .any x
  | v (x : Value) : Rel w O (.v x) x
  | lnil (full : Bool) (sz : Nat) (a : Option Addr) (cap : Nat) : (full = true → cap = 0) → Rel w O (.list full sz []) (.slice a 0 cap)
  | list (full : Bool) (sz : Nat) (rows : List (List AV)) (b off cap : Nat) (g : Nat → Nat → Value) :
      (full = true → cap = rows.length) → rows.length ≤ cap → ¬ O b → b < w.heap.size →
      (∀ i (hi : i < rows.length), rows[i].length = sz) →
      (∀ i (hi : i < rows.length) j (hj : j < rows[i].length), w.cell? ⟨b, off + i * sz + j, none⟩ = some (g i j)) →
      (∀ i (hi : i < rows.length) j (hj : j < rows[i].length), Rel w O rows[i][j] (g i j)) →
      Rel w O (.list full sz rows) (.slice (some ⟨b, off, none⟩) rows.length cap)
  | pp (cells : List AV) (b off : Nat) (g : Nat → Value) : ¬ O b → b < w.heap.size →
      (∀ j (hj : j < cells.length), w.cell? ⟨b, off + j, none⟩ = some (g j)) →
      (∀ j (hj : j < cells.length), Rel w O cells[j] (g j)) →
      Rel w O (.pp cells) (.pointer (some ⟨b, off, none⟩))
  | rp (a : Addr) (len cap sz i off : Nat) : Rel w O (.rp (.slice (some a) len cap) sz i off) (.pointer (some (a.add (i * sz + off))))
  | agg (cells : List AV) (cs : Array Value) : cells.length = cs.size →
      (∀ j (h1 : j < cells.length) (h2 : j < cs.size), Rel w O cells[j] cs[j]) → Rel w O (.agg cells) (.agg cs)
  | tup (vs : List AV) (cs : Array Value) : vs.length = cs.size →
      (∀ j (h1 : j < vs.length) (h2 : j < cs.size), Rel w O vs[j] cs[j]) → Rel w O (.tup vs) (.tuple cs)
  | fn (f : Fn) (fs cs : List AV) (fa ca : Array Value) : fs.length = fa.size → cs.length = ca.size →
      (∀ j (h1 : j < fs.length) (h2 : j < fa.size), Rel w O fs[j] fa[j]) →
      (∀ j (h1 : j < cs.length) (h2 : j < ca.size), Rel w O cs[j] ca[j]) → Rel w O (.fn f fs cs) (.func f fa ca)
theorem cell_congr {w w' : World} {b o : Nat} (h : w'.heap[b]? = w.heap[b]?) : w'.cell? ⟨b, o, none⟩ = w.cell? ⟨b, o, none⟩ := by
  simp [World.cell?, h]
theorem Rel.keep {w w' : World} {O O' : Nat → Prop} {av : AV} {v : Value} (hs : w.heap.size ≤ w'.heap.size)
    (hk : ∀ b, ¬ O b → b < w.heap.size → w'.heap[b]? = w.heap[b]? ∧ ¬ O' b) (h : Rel w O av v) : Rel w' O' av v := by
  induction h with
  | any x => exact .any x
  | v x => exact .v x
  | lnil full sz a cap h => exact .lnil full sz a cap h
  | list full sz rows b off cap g h1 h2 h3 h4 h5 h6 _ ih =>
    obtain ⟨e, n⟩ := hk b h3 h4
    exact .list full sz rows b off cap g h1 h2 n (Nat.lt_of_lt_of_le h4 hs) h5 (fun i hi j hj => by rw [cell_congr e]; exact h6 i hi j hj) ih
  | pp cells b off g h3 h4 h6 _ ih =>
    obtain ⟨e, n⟩ := hk b h3 h4
    exact .pp cells b off g n (Nat.lt_of_lt_of_le h4 hs) (fun j hj => by rw [cell_congr e]; exact h6 j hj) ih
  | rp a len cap sz i off => exact .rp a len cap sz i off
  | agg cells cs h1 _ ih => exact .agg cells cs h1 ih
  | tup cells cs h1 _ ih => exact .tup cells cs h1 ih
  | fn f fs cs fa ca h1 h2 _ _ ih1 ih2 => exact .fn f fs cs fa ca h1 h2 ih1 ih2
theorem Rel.v_eq {w : World} {O : Nat → Prop} {x v : Value} (h : Rel w O (.v x) v) : v = x := by cases h; rfl
/-- The frame: temporaries that are spoken of, the newest first. -/
abbrev Fr := List (Nat × AV)
def lk : Fr → Nat → Option AV
  | [], _ => none
  | (j, a) :: r, i => match Nat.beq j i with
    | true => some a
    | false => lk r i
def FrRel (w : World) (O : Nat → Prop) (t : Fr) (tmps : Array Value) : Prop :=
  ∀ i av, lk t i = some av → ∃ v, tmps[i]? = some v ∧ Rel w O av v
inductive Res where
  | box (b : Nat) (T : TypeId) (cells : List AV)
  | row (s : Value) (sz : Nat) (T : TypeId) (rows : List (List AV))
  | map (r : Nat) (es : List (Value × AV))
  | loop (l : Nat) (st : LoopState) (pend : Option Code) (fn : FuncId) (nt : Nat) (t : Fr) (ps : Array Tmp) (asn body : Code) (ds : Nat)
  | defs (r : Nat)
  | obj (b : Nat) (o : Obj)
  | mapr (r : Nat) (es : List (Value × AV)) (b : Nat) (seen : List Nat)
  | glob (b : Nat) (T : TypeId) (cells : List AV)
def Res.own : Res → List Nat
  | .box b _ _ => [b]
  | .row (.slice (some a) _ _) _ _ _ => [a.block]
  | .row _ _ _ _ => []
  | .map r _ => [r]
  | .loop l _ _ _ _ _ _ _ _ _ => [l]
  | .defs r => [r]
  | .obj b _ => [b]
  | .mapr r _ b _ => [r, b]
  | .glob _ _ _ => []
def owns (h : List Res) : List Nat := h.flatMap Res.own
def OO (h : List Res) (X : Nat → Prop) : Nat → Prop := fun b => b ∈ owns h ∨ X b
def Res.holds (w : World) (O : Nat → Prop) : Res → Prop
  | .box b T cells => ∃ c : Array Value, w.heap[b]? = some (.cells c T (0, 0)) ∧ cells.length = c.size ∧
      ∀ j (h1 : j < cells.length) (h2 : j < c.size), Rel w O cells[j] c[j]
  | .row (.slice none len cap) _ _ rows => rows = [] ∧ len = 0 ∧ cap = 0
  | .row (.slice (some a) len cap) sz T rows => a.spot = none ∧ len = rows.length ∧ len ≤ cap ∧
      (∀ i (hi : i < rows.length), rows[i].length = sz) ∧ ∃ c : Array Value, w.heap[a.block]? = some (.cells c T (0, 0)) ∧ a.off + cap * sz ≤ c.size ∧
      ∀ i (hi : i < rows.length) j (hj : j < rows[i].length), ∃ v, c[a.off + i * sz + j]? = some v ∧ Rel w O rows[i][j] v
  | .row _ _ _ _ => False
  | .map r es => ∃ (ents : Array MapEntry) (clock : Nat), w.heap[r]? = some (.map ents clock) ∧ es.length = ents.size ∧
      (∀ i (h1 : i < es.length) (h2 : i < ents.size), es[i].1 = ents[i].key ∧ Rel w O es[i].2 ents[i].val) ∧
      (∀ i (h : i < ents.size), ents[i].born < clock) ∧ (∀ i j (hi : i < ents.size) (hj : j < ents.size), i < j → ents[i].born < ents[j].born)
  | .loop l st pend fn nt t ps asn body ds => ∃ tmps : Array Value, w.heap[l]? = some (.loop { state := st, pending := pend, fn, tmps, params := ps, assign := asn, body, defers := ds }) ∧
      tmps.size = nt ∧ FrRel w O t tmps
  | .defs r => w.heap[r]? = some (.deferred (some []))
  | .obj b o => w.heap[b]? = some o ∧ (∀ c T f, o ≠ .cells c T f)
  | .mapr r es b seen => ∃ (ents : Array MapEntry) (clock : Nat) (sa : Array Nat), w.heap[r]? = some (.map ents clock) ∧ es.length = ents.size ∧
      (∀ i (h1 : i < es.length) (h2 : i < ents.size), es[i].1 = ents[i].key ∧ Rel w O es[i].2 ents[i].val) ∧
      (∀ i (h : i < ents.size), ents[i].born < clock) ∧ (∀ i j (hi : i < ents.size) (hj : j < ents.size), i < j → ents[i].born < ents[j].born) ∧
      w.heap[b]? = some (.mapIter (some r) clock sa clock) ∧ (∀ x, x ∈ sa ↔ ∃ i, ∃ (h : i < ents.size), i ∈ seen ∧ ents[i].born = x) ∧ ∀ i, seen.head? = some i → ∃ h : i < ents.size, sa.back? = some ents[i].born
  | .glob b T cells => ¬ O b ∧ b < w.heap.size ∧ ∃ (c : Array Value) (T0 : TypeId) (fr : Nat × Nat), w.heap[b]? = some (.cells c T0 fr) ∧ cells.length = c.size ∧
      ∀ j (h1 : j < cells.length) (h2 : j < c.size), Rel w O cells[j] c[j]
structure HRel (X : Nat → Prop) (w : World) (h : List Res) : Prop where
  nodup : (owns h).Nodup
  lt : ∀ b ∈ owns h, b < w.heap.size ∧ ¬ X b
  xlt : ∀ b, X b → b < w.heap.size
  holds : ∀ r ∈ h, r.holds w (OO h X)
structure Keep (own : List Nat) (w : World) (own' : List Nat) (w' : World) : Prop where
  size : w.heap.size ≤ w'.heap.size
  same : ∀ b, b < w.heap.size → b ∉ own → w'.heap[b]? = w.heap[b]? ∧ b ∉ own'
  env : w'.os = w.os ∧ w'.output = w.output := by exact ⟨rfl, rfl⟩
theorem Keep.refl (own : List Nat) (w : World) : Keep own w own w := ⟨Nat.le_refl _, fun _ _ h => ⟨rfl, h⟩, rfl, rfl⟩
theorem Keep.trans {o1 o2 o3 : List Nat} {w1 w2 w3 : World} (h : Keep o1 w1 o2 w2) (k : Keep o2 w2 o3 w3) : Keep o1 w1 o3 w3 :=
  ⟨Nat.le_trans h.size k.size, fun b hb ho =>
    let ⟨e, n⟩ := h.same b hb ho
    let ⟨e', n'⟩ := k.same b (Nat.lt_of_lt_of_le hb h.size) n
    ⟨e'.trans e, n'⟩, k.env.1.trans h.env.1, k.env.2.trans h.env.2⟩
theorem FrRel.keep {w w' : World} {O O' : Nat → Prop} {t : Fr} {tmps : Array Value} (hs : w.heap.size ≤ w'.heap.size)
    (hk : ∀ b, ¬ O b → b < w.heap.size → w'.heap[b]? = w.heap[b]? ∧ ¬ O' b) (h : FrRel w O t tmps) : FrRel w' O' t tmps :=
  fun i av e => let ⟨v, e1, r⟩ := h i av e; ⟨v, e1, r.keep hs hk⟩
theorem Keep.oo {h h' : List Res} {w w' : World} {X : Nat → Prop} (k : Keep (owns h) w (owns h') w') :
    ∀ b, ¬ OO h X b → b < w.heap.size → w'.heap[b]? = w.heap[b]? ∧ ¬ OO h' X b := fun b hb hlt => by
  have hb' : b ∉ owns h ∧ ¬ X b := ⟨fun h1 => hb (.inl h1), fun h1 => hb (.inr h1)⟩
  obtain ⟨e, n⟩ := k.same b hlt hb'.1
  exact ⟨e, fun h1 => h1.elim n hb'.2⟩
/-- A resource whose own block stays aS it is holds on. -/
theorem Res.holds_keep {w w' : World} {O O' : Nat → Prop} {r : Res} (hs : w.heap.size ≤ w'.heap.size)
    (hk : ∀ b, ¬ O b → b < w.heap.size → w'.heap[b]? = w.heap[b]? ∧ ¬ O' b) (hr : ∀ b ∈ r.own, w'.heap[b]? = w.heap[b]?) (h : r.holds w O) : r.holds w' O' := by
  cases r with
  | box b T cells =>
    obtain ⟨c, h1, h2, h3⟩ := h
    exact ⟨c, by rw [hr b (by simp [Res.own])]; exact h1, h2, fun j a b => (h3 j a b).keep hs hk⟩
  | row s sz T rows =>
    cases s <;> try exact h.elim
    rename_i a len cap
    cases a with
    | none => exact h
    | some a =>
      obtain ⟨h1, h2, h3, h4, c, h5, h6, h7⟩ := h
      refine ⟨h1, h2, h3, h4, c, by rw [hr a.block (by simp [Res.own])]; exact h5, h6, fun i hi j hj => ?_⟩
      obtain ⟨v, e, r⟩ := h7 i hi j hj
      exact ⟨v, e, r.keep hs hk⟩
  | map r es =>
    obtain ⟨ents, clock, h1, h2, h3, h4⟩ := h
    exact ⟨ents, clock, by rw [hr r (by simp [Res.own])]; exact h1, h2, fun i a b => ⟨(h3 i a b).1, (h3 i a b).2.keep hs hk⟩, h4⟩
  | loop l st pend fn nt t ps asn body ds =>
    obtain ⟨tmps, h1, h2, h3⟩ := h
    exact ⟨tmps, by rw [hr l (by simp [Res.own])]; exact h1, h2, h3.keep hs hk⟩
  | defs r => exact (hr r (by simp [Res.own])).trans h
  | obj b o => exact ⟨(hr b (by simp [Res.own])).trans h.1, h.2⟩
  | mapr r es b seen =>
    obtain ⟨ents, clock, sa, h1, h2, h3, h4, h5, h6, h7⟩ := h
    exact ⟨ents, clock, sa, by rw [hr r (by simp [Res.own])]; exact h1, h2, fun i a b => ⟨(h3 i a b).1, (h3 i a b).2.keep hs hk⟩, h4, h5, by rw [hr b (by simp [Res.own])]; exact h6, h7⟩
  | glob b T cells =>
    obtain ⟨g1, g2, c, T0, fr, h1, h2, h3⟩ := h
    obtain ⟨e1, e2⟩ := hk b g1 g2
    exact ⟨e2, Nat.lt_of_lt_of_le g2 hs, c, T0, fr, by rw [e1]; exact h1, h2, fun j a b => (h3 j a b).keep hs hk⟩
/-- The state: frame, resources, the blocks of the loops' deferred calls. -/
structure St where
  t : Fr
  h : List Res
  d : List Nat
def St.put (s : St) (d : Option Tmp) (av : AV) : St := match d with
  | some d => { s with t := (d, av) :: s.t }
  | none => s
def markOf (r : Nat) : Deferred := { target := .collected r, args := #[] }
structure Sim (X : Nat → Prop) (nt : Nat) (s : St) (a : Act) (w : World) : Prop where
  heap : HRel X w s.h
  size : a.tmps.size = nt
  fr : FrRel w (OO s.h X) s.t a.tmps
  defs : a.defers = s.d.map markOf
abbrev FW (ro : Option Nat) : Fence := { Fence.wide with round := ro }
theorem fenced_FW (P : Program) (ro : Option Nat) (m : Machine) : m.fenced P (FW ro) := fenced_wide P m
theorem room_FW (ro : Option Nat) (n : Nat) : (FW ro).room n := room_wide n
/-- The abstract wp of code. -/
def aw (P : Program) (ro : Option Nat) (nt : Nat) (c : Code) (Q : Exit → St → Prop) (s : St) : Prop :=
  ∀ X a w, Sim X nt s a w → c.wpIn (FW ro) 0 P (fun e a' w' => ∃ s', Q e s' ∧ Sim X nt s' a' w' ∧ Keep (owns s.h) w (owns s'.h) w') a w
def AOut (X : Nat → Prop) (nt : Nat) (s : St) (w : World) (Q : Exit → St → Prop) : Exit → Act → World → Prop :=
  fun e a' w' => ∃ s', Q e s' ∧ Sim X nt s' a' w' ∧ Keep (owns s.h) w (owns s'.h) w'
/-- What may be known of less: every memory that fits s fits s'. -/
def Ent (nt : Nat) (s s' : St) : Prop := (∀ b ∈ owns s'.h, b ∈ owns s.h) ∧ ∀ X a w, Sim X nt s a w → Sim X nt s' a w
theorem keep_of_sub {o o' o'' : List Nat} {w w' : World} (hs : ∀ b ∈ o', b ∈ o) (k : Keep o' w o'' w') : Keep o w o'' w' :=
  ⟨k.size, fun b hb ho => k.same b hb (fun h => ho (hs b h)), k.env⟩
section
variable {P : Program} {ro : Option Nat} {nt : Nat} {Q : Exit → St → Prop} {s : St}
theorem aw_mono {c : Code} {Q' : Exit → St → Prop} (hq : ∀ e s, Q e s → Q' e s) (h : aw P ro nt c Q s) : aw P ro nt c Q' s :=
  fun X a w hs => wpIn_mono (h X a w hs) fun e a w ⟨s', q, r⟩ => ⟨s', hq _ _ q, r⟩
theorem aw_ent {c : Code} {s' : St} (he : Ent nt s s') (h : aw P ro nt c Q s') : aw P ro nt c Q s :=
  fun X a w hs => wpIn_mono (h X a w (he.2 X a w hs)) fun _ _ _ ⟨s'', q, r, k⟩ => ⟨s'', q, r, keep_of_sub he.1 k⟩
theorem aw_skip (h : Q .normal s) : aw P ro nt .skip Q s := fun _ _ _ hs => wpIn_skip ⟨s, h, hs, .refl _ _⟩
theorem aw_label {l : Nat} (h : Q .normal s) : aw P ro nt (.label l) Q s := fun _ _ _ hs => wpIn_label ⟨s, h, hs, .refl _ _⟩
theorem aw_exit {id : Nat} (h : Q (.exit id) s) : aw P ro nt (.exit id) Q s := fun _ _ _ hs => wpIn_exit ⟨s, h, hs, .refl _ _⟩
theorem aw_goto {l : Nat} (h : Q (.goto l) s) : aw P ro nt (.goto l) Q s := fun _ _ _ hs => wpIn_goto ⟨s, h, hs, .refl _ _⟩
theorem aw_ret (h : Q .ret s) : aw P ro nt .ret Q s := fun _ _ _ hs => wpIn_ret ⟨s, h, hs, .refl _ _⟩
/-- Go on where a piece of code ends normally; every other way out is the whole's. -/
def thn (next : St → Prop) (Q : Exit → St → Prop) : Exit → St → Prop
  | .normal, s => next s
  | e, s => Q e s
theorem aw_seq {x y : Code} (h : aw P ro nt x (thn (aw P ro nt y Q) Q) s) : aw P ro nt (.seq x y) Q s := fun X a w hs => by
  refine wpIn_seq (wpIn_mono (h X a w hs) ?_)
  rintro e a' w' ⟨s', q, r, k⟩
  cases e with
  | normal => exact wpIn_mono (q X a' w' r) fun _ _ _ ⟨s'', q', r', k'⟩ => ⟨s'', q', r', k.trans k'⟩
  | _ => exact ⟨s', q, r, k⟩
def inBlk (id : Nat) (Q : Exit → St → Prop) : Exit → St → Prop
  | .exit id', s => if id' = id then Q .normal s else Q (.exit id') s
  | e, s => Q e s
theorem aw_block {id : Nat} {c : Code} (h : aw P ro nt c (inBlk id Q) s) : aw P ro nt (.block id c) Q s := fun X a w hs => by
  refine wpIn_block (wpIn_mono (h X a w hs) ?_)
  rintro e a' w' ⟨s', q, r, k⟩
  cases e with
  | exit id' =>
    simp only [Exit.inBlock, inBlk] at q ⊢
    split
    · rename_i hid; simp only [hid, if_true] at q; exact ⟨s', q, r, k⟩
    · rename_i hid; simp only [hid, if_false] at q; exact ⟨s', q, r, k⟩
  | _ => exact ⟨s', q, r, k⟩
theorem aw_loop {σ : Type} {c : Code} (inv : σ → St → Prop) (μ : σ → Nat) (x0 : σ) (h0 : inv x0 s)
    (round : ∀ x s, inv x s → aw P ro nt c (thn (fun s' => ∃ x', inv x' s' ∧ μ x' < μ x) Q) s) : aw P ro nt (.loop c) Q s := fun X a w hs b k cs hro hb hr => by
  have hfen : ∀ m, Machine.fenced P (FW ro) m := fenced_FW P ro
  have key : ∀ n x s' a' w', μ x = n → inv x s' → Sim X nt s' a' w' → Keep (owns s.h) w (owns s'.h) w' →
      ∃ e a2 w2, AOut X nt s w Q e a2 w2 ∧ ArrivesIn (Machine.fenced P (FW ro)) P (lone (b.atR a' (.code c :: .inLoop c :: k)) cs w') b k cs e a2 w2 := by
    intro n
    induction n using Nat.strongRecOn with
    | _ n ih =>
      intro x s' a' w' hn hi hsim hk
      obtain ⟨e, a1, w1, ⟨s1, q1, r1, k1⟩, harr⟩ := round x s' hi X a' w' hsim b (.inLoop c :: k) cs hro hb hr
      cases e with
      | normal =>
        obtain ⟨x', hi', hlt⟩ := q1
        obtain ⟨e2, a2, w2, hq2, harr2⟩ := ih (μ x') (hn ▸ hlt) x' s1 a1 w1 rfl hi' r1 (hk.trans k1)
        exact ⟨e2, a2, w2, hq2, .of_steps (StepsIn.trans harr (.one (hfen _) stepR_inLoop)) harr2⟩
      | exit id => exact ⟨_, a1, w1, ⟨s1, q1, r1, hk.trans k1⟩, .pass (x := .inLoop c) rfl (fun _ _ => .inl (by simp)) harr⟩
      | goto l => exact ⟨_, a1, w1, ⟨s1, q1, r1, hk.trans k1⟩, .pass (x := .inLoop c) rfl (fun _ _ => .inl (by simp)) harr⟩
      | ret => exact ⟨_, a1, w1, ⟨s1, q1, r1, hk.trans k1⟩, .pass (x := .inLoop c) rfl (fun _ _ => .inl (by simp)) harr⟩
      | panic ch => exact ⟨_, a1, w1, ⟨s1, q1, r1, hk.trans k1⟩, .pass (x := .inLoop c) rfl (fun _ _ => .inl (by simp)) harr⟩
      | outgrown => exact ⟨_, a1, w1, ⟨s1, q1, r1, hk.trans k1⟩, .pass (x := .inLoop c) rfl (fun _ _ => .inl (by simp)) harr⟩
  obtain ⟨e, a', w', hq, harr⟩ := key _ x0 s a w rfl h0 hs (.refl _ _)
  exact ⟨e, a', w', hq, .of_steps (.one (hfen _) stepR_loop) harr⟩
end
end Go.Ab
/- The abstract logic, part 2: how resources stand over changes of memory; contracts, operations, regions. Conditions: none (lemmas over any program). -/
set_option linter.unusedVariables false
namespace Go.Ab
open Go
theorem mem_owns {h : List Res} {b : Nat} : b ∈ owns h ↔ ∃ r ∈ h, b ∈ r.own := by simp [owns]
theorem owns_cons (r : Res) (h : List Res) : owns (r :: h) = r.own ++ owns h := by simp [owns]
theorem owns_append (h h' : List Res) : owns (h ++ h') = owns h ++ owns h' := by simp [owns]
theorem owns_perm {h h' : List Res} (p : h.Perm h') : (owns h).Perm (owns h') := p.flatMap_right _
theorem OO_perm {h h' : List Res} {X : Nat → Prop} (p : h.Perm h') : OO h X = OO h' X := by
  funext b; simp only [OO, (owns_perm p).mem_iff]
theorem HRel.perm {X : Nat → Prop} {w : World} {h h' : List Res} (p : h.Perm h') (r : HRel X w h) : HRel X w h' :=
  ⟨(owns_perm p).nodup_iff.1 r.nodup, fun b hb => r.lt b ((owns_perm p).mem_iff.2 hb), r.xlt, fun x hx => OO_perm p ▸ r.holds x (p.mem_iff.2 hx)⟩
theorem Keep.perm_right {o : List Nat} {w w' : World} {h h' : List Res} (p : h.Perm h') (k : Keep o w (owns h) w') : Keep o w (owns h') w' :=
  ⟨k.size, fun b hb ho => ⟨(k.same b hb ho).1, fun hm => (k.same b hb ho).2 ((owns_perm p).mem_iff.2 hm)⟩, k.env⟩
theorem Keep.perm_left {o : List Nat} {w w' : World} {h h' : List Res} (p : h.Perm h') (k : Keep (owns h) w o w') : Keep (owns h') w o w' :=
  ⟨k.size, fun b hb ho => k.same b hb (fun hm => ho ((owns_perm p).mem_iff.1 hm)), k.env⟩
/-- Resources given up. -/
theorem HRel.drop {X : Nat → Prop} {w : World} {h h' : List Res} (r : HRel X w (h ++ h')) : HRel X w h' := by
  have e : ∀ b, ¬ OO (h ++ h') X b → b < w.heap.size → w.heap[b]? = w.heap[b]? ∧ ¬ OO h' X b := fun b hb _ => ⟨rfl, fun hm => hb (hm.imp (fun h => by rw [owns_append]; exact List.mem_append_right _ h) id)⟩
  refine ⟨?_, fun b hb => r.lt b (by rw [owns_append]; exact List.mem_append_right _ hb), r.xlt, fun x hx => ?_⟩
  · have := r.nodup; rw [owns_append] at this; exact (List.nodup_append.1 this).2.1
  · exact Res.holds_keep (Nat.le_refl _) e (fun _ _ => rfl) (r.holds x (List.mem_append_right _ hx))
theorem OO_drop {h h' : List Res} {X : Nat → Prop} (w : World) : ∀ b, ¬ OO (h ++ h') X b → b < w.heap.size → w.heap[b]? = w.heap[b]? ∧ ¬ OO h' X b :=
  fun b hb _ => ⟨rfl, fun hm => hb (hm.imp (fun h => by rw [owns_append]; exact List.mem_append_right _ h) id)⟩
/-- Memory grows, nothing that is owned or looked at turns. -/
theorem HRel.grow {X : Nat → Prop} {w w' : World} {h : List Res} (r : HRel X w h) (hs : w.heap.size ≤ w'.heap.size)
    (he : ∀ b, b < w.heap.size → w'.heap[b]? = w.heap[b]?) : HRel X w' h :=
  ⟨r.nodup, fun b hb => ⟨Nat.lt_of_lt_of_le (r.lt b hb).1 hs, (r.lt b hb).2⟩, fun b hb => Nat.lt_of_lt_of_le (r.xlt b hb) hs,
    fun x hx => Res.holds_keep hs (fun b hb hl => ⟨he b hl, hb⟩) (fun b hb => he b (r.lt b (mem_owns.2 ⟨x, hx, hb⟩)).1) (r.holds x hx)⟩
theorem Keep.grow {o : List Nat} {w w' : World} (hs : w.heap.size ≤ w'.heap.size) (he : ∀ b, b < w.heap.size → w'.heap[b]? = w.heap[b]?) (hv : w'.os = w.os ∧ w'.output = w.output := by exact ⟨rfl, rfl⟩) : Keep o w o w' :=
  ⟨hs, fun b hb ho => ⟨he b hb, ho⟩, hv⟩
theorem push_old {w : World} {o : Obj} {b : Nat} (h : b < w.heap.size) : (w.heap.push o)[b]? = w.heap[b]? := by
  rw [Array.getElem?_push]; simp [Nat.ne_of_lt h]
theorem push_new {w : World} {o : Obj} : (w.heap.push o)[w.heap.size]? = some o := by simp
/-- A new block with its resource. -/
theorem HRel.alloc {X : Nat → Prop} {w : World} {h : List Res} (r : HRel X w h) (o : Obj) (x : Res) (hown : x.own = [w.heap.size])
    (hx : x.holds { w with heap := w.heap.push o } (OO (x :: h) X)) : HRel X { w with heap := w.heap.push o } (x :: h) := by
  have hfresh : w.heap.size ∉ owns h := fun hm => Nat.lt_irrefl _ (r.lt _ hm).1
  have hk : ∀ b, ¬ OO h X b → b < w.heap.size → (w.heap.push o)[b]? = w.heap[b]? ∧ ¬ OO (x :: h) X b := fun b hb hl =>
    ⟨push_old hl, fun hm => by
      rcases hm with hm | hm
      · rw [owns_cons, hown] at hm
        simp only [List.singleton_append, List.mem_cons] at hm
        rcases hm with rfl | hm
        · exact Nat.lt_irrefl _ hl
        · exact hb (.inl hm)
      · exact hb (.inr hm)⟩
  refine ⟨by rw [owns_cons, hown]; simp [hfresh, r.nodup], fun b hb => ?_, fun b hb => by have := r.xlt b hb; simp; omega, fun y hy => ?_⟩
  · rw [owns_cons, hown] at hb
    simp only [List.singleton_append, List.mem_cons] at hb
    rcases hb with rfl | hb
    · exact ⟨by simp, fun hX => Nat.lt_irrefl _ (r.xlt _ hX)⟩
    · exact ⟨by have := (r.lt b hb).1; simp; omega, (r.lt b hb).2⟩
  · rcases List.mem_cons.1 hy with rfl | hy
    · exact hx
    · exact Res.holds_keep (by simp) hk (fun b hb => push_old (r.lt b (mem_owns.2 ⟨y, hy, hb⟩)).1) (r.holds y hy)
theorem Keep.alloc {w : World} {h : List Res} (o : Obj) (x : Res) (hown : x.own = [w.heap.size]) : Keep (owns h) w (owns (x :: h)) { w with heap := w.heap.push o } :=
  ⟨by simp, fun b hb ho => ⟨push_old hb, fun hm => by
    rw [owns_cons, hown] at hm
    simp only [List.singleton_append, List.mem_cons] at hm
    rcases hm with rfl | hm
    · exact Nat.lt_irrefl _ hb
    · exact ho hm⟩, rfl, rfl⟩
theorem owns_set {h : List Res} {i : Nat} {x y : Res} (hi : h[i]? = some x) (ho : y.own = x.own) : owns (h.set i y) = owns h := by
  induction h generalizing i with
  | nil => simp at hi
  | cons r h ih =>
    cases i with
    | zero => simp only [List.getElem?_cons_zero, Option.some.injEq] at hi; subst hi; simp [owns_cons, ho]
    | succ i => simp only [List.getElem?_cons_succ] at hi; simp [owns_cons, ih hi]
theorem owns_disj {h : List Res} {i j : Nat} {x y : Res} {b : Nat} (hn : (owns h).Nodup) (hi : h[i]? = some x) (hj : h[j]? = some y) (hne : i ≠ j) (hx : b ∈ x.own) (hy : b ∈ y.own) : False := by
  induction h generalizing i j with
  | nil => simp at hi
  | cons r h ih =>
    rw [owns_cons, List.nodup_append] at hn
    cases i with
    | zero =>
      cases j with
      | zero => exact hne rfl
      | succ j =>
        simp only [List.getElem?_cons_zero, Option.some.injEq, List.getElem?_cons_succ] at hi hj
        subst hi
        exact hn.2.2 b hx b (mem_owns.2 ⟨y, List.mem_of_getElem? hj, hy⟩) rfl
    | succ i =>
      cases j with
      | zero =>
        simp only [List.getElem?_cons_zero, Option.some.injEq, List.getElem?_cons_succ] at hi hj
        subst hj
        exact hn.2.2 b hy b (mem_owns.2 ⟨x, List.mem_of_getElem? hi, hx⟩) rfl
      | succ j =>
        simp only [List.getElem?_cons_succ] at hi hj
        exact ih hn.2.1 hi hj (by omega)
/-- A resource whose own blocks turn. -/
theorem HRel.set {X : Nat → Prop} {w w' : World} {h : List Res} {i : Nat} {x y : Res} (r : HRel X w h) (hi : h[i]? = some x) (ho : y.own = x.own)
    (hs : w.heap.size ≤ w'.heap.size) (he : ∀ b, b < w.heap.size → b ∉ x.own → w'.heap[b]? = w.heap[b]?) (hy : y.holds w' (OO h X)) : HRel X w' (h.set i y) := by
  have hO : OO (h.set i y) X = OO h X := by funext b; simp only [OO, owns_set hi ho]
  have hxm : x ∈ h := List.mem_of_getElem? hi
  have hk : ∀ b, ¬ OO h X b → b < w.heap.size → w'.heap[b]? = w.heap[b]? ∧ ¬ OO h X b := fun b hb hl => ⟨he b hl (fun hm => hb (.inl (mem_owns.2 ⟨x, hxm, hm⟩))), hb⟩
  refine ⟨by rw [owns_set hi ho]; exact r.nodup, fun b hb => ?_, fun b hb => Nat.lt_of_lt_of_le (r.xlt b hb) hs, fun z hz => ?_⟩
  · rw [owns_set hi ho] at hb; exact ⟨Nat.lt_of_lt_of_le (r.lt b hb).1 hs, (r.lt b hb).2⟩
  · rw [hO]
    obtain ⟨j, hj⟩ := List.getElem?_of_mem hz
    by_cases hji : j = i
    · subst hji
      have : z = y := by
        rw [List.getElem?_set_self (List.getElem?_eq_some_iff.1 hi).1] at hj
        exact (Option.some.inj hj).symm
      exact this ▸ hy
    · rw [List.getElem?_set_ne (Ne.symm hji)] at hj
      refine Res.holds_keep hs hk (fun b hb => he b (r.lt b (mem_owns.2 ⟨z, List.mem_of_getElem? hj, hb⟩)).1 (fun hbx => ?_)) (r.holds z (List.mem_of_getElem? hj))
      exact owns_disj r.nodup hj hi hji hb hbx
theorem Keep.set {w w' : World} {h : List Res} {i : Nat} {x y : Res} (hi : h[i]? = some x) (ho : y.own = x.own)
    (hs : w.heap.size ≤ w'.heap.size) (he : ∀ b, b < w.heap.size → b ∉ x.own → w'.heap[b]? = w.heap[b]?) (hv : w'.os = w.os ∧ w'.output = w.output := by exact ⟨rfl, rfl⟩) : Keep (owns h) w (owns (h.set i y)) w' := by
  rw [owns_set hi ho]
  exact ⟨hs, fun b hb hn => ⟨he b hb (fun hm => hn (mem_owns.2 ⟨x, List.mem_of_getElem? hi, hm⟩)), hn⟩, hv⟩
end Go.Ab
/- The abstract logic, part 3: contracts, the general rules of operations, regions in text order, function bodies. Conditions: none (lemmas over any program). -/
set_option linter.unusedVariables false
namespace Go.Ab
open Go
def Rels (w : World) (O : Nat → Prop) : List AV → List Value → Prop
  | [], [] => True
  | a :: aS, v :: vs => Rel w O a v ∧ Rels w O aS vs
  | _, _ => False
theorem Rels.length {w : World} {O : Nat → Prop} : ∀ {aS : List AV} {vs : List Value}, Rels w O aS vs → aS.length = vs.length
  | [], [], _ => rfl
  | _ :: _, _ :: _, h => by simp [Rels.length h.2]
  | [], _ :: _, h => h.elim
  | _ :: _, [], h => h.elim
theorem Rels.get {w : World} {O : Nat → Prop} : ∀ {aS : List AV} {vs : List Value}, Rels w O aS vs → ∀ j (h1 : j < aS.length) (h2 : j < vs.length), Rel w O aS[j] vs[j]
  | _ :: _, _ :: _, h, 0, _, _ => h.1
  | _ :: _, _ :: _, h, j + 1, h1, h2 => Rels.get h.2 j (by simpa using h1) (by simpa using h2)
theorem Rels.of_get {w : World} {O : Nat → Prop} : ∀ {aS : List AV} {vs : List Value}, aS.length = vs.length → (∀ j (h1 : j < aS.length) (h2 : j < vs.length), Rel w O aS[j] vs[j]) → Rels w O aS vs
  | [], [], _, _ => trivial
  | a :: aS, v :: vs, hl, h => ⟨h 0 (by simp) (by simp), Rels.of_get (by simpa using hl) fun j h1 h2 => h (j + 1) (by simpa using h1) (by simpa using h2)⟩
  | [], _ :: _, hl, _ => by simp at hl
  | _ :: _, [], hl, _ => by simp at hl
theorem Rels.append {w : World} {O : Nat → Prop} {aS bs : List AV} {vs us : List Value} (h : Rels w O aS vs) (k : Rels w O bs us) : Rels w O (aS ++ bs) (vs ++ us) := by
  induction aS generalizing vs with
  | nil => cases vs with
    | nil => exact k
    | cons v vs => exact h.elim
  | cons a aS ih => cases vs with
    | nil => exact h.elim
    | cons v vs => exact ⟨h.1, ih h.2⟩
theorem Rels.keep {w w' : World} {O O' : Nat → Prop} (hs : w.heap.size ≤ w'.heap.size) (hk : ∀ b, ¬ O b → b < w.heap.size → w'.heap[b]? = w.heap[b]? ∧ ¬ O' b) :
    ∀ {aS : List AV} {vs : List Value}, Rels w O aS vs → Rels w' O' aS vs
  | [], [], _ => trivial
  | _ :: _, _ :: _, h => ⟨h.1.keep hs hk, Rels.keep hs hk h.2⟩
  | [], _ :: _, h => h.elim
  | _ :: _, [], h => h.elim
/-- What a call is held to. -/
def CPost (X : Nat → Prop) (w : World) (h : List Res) (R : AV → List Res → Prop) : Ending → World → Prop :=
  fun e w' => ∃ v av h', e = .returned v ∧ R av h' ∧ Rel w' (OO h' X) av v ∧ HRel X w' h' ∧ Keep (owns h) w (owns h') w'
/-- The contract of a function of the program. -/
def ACall (P : Program) (f : FuncId) (args : List AV) (h : List Res) (R : AV → List Res → Prop) : Prop :=
  ∀ X w vs, HRel X w h → Rels w (OO h X) args vs → CallsIn (FW none) 0 P f vs.toArray w (CPost X w h R)
/-- What a function value does. -/
def NextOk (P : Program) (Post : Ending → World → Prop) : Result Next → Prop
  | .ok (.enter f args) w => CallsIn (FW none) 0 P f args w Post
  | .ok (.round l f tmps asn body) w => RoundIn (FW none) 0 P l f tmps asn body w Post
  | _ => False
def callV (v : Value) (vs : Array Value) : Sem Next := do let d ← Deferred.ofValue v vs; invoke d.target d.args
def FCall (P : Program) (fv : AV) (args : List AV) (h : List Res) (R : AV → List Res → Prop) : Prop :=
  ∀ X w v vs, HRel X w h → Rel w (OO h X) fv v → Rels w (OO h X) args vs → NextOk P (CPost X w h R) ((callV v vs.toArray).run P w)
/-- A function with a body, entered aS such. -/
class Enters (P : Program) (f : FuncId) : Prop where
  h : ∃ fn, P.funcs[f]? = some fn ∧ (fn.name == "runtime.NumGoroutine") = false ∧ fn.body.isNone = false
theorem run_callFunc {P : Program} {f : FuncId} [he : Enters P f] (args : Array Value) (w : World) : (callFunc f args).run P w = .ok (.enter f args) w := by
  obtain ⟨fn, h1, h2, h3⟩ := he.h
  simp only [callFunc, Sem.run_bind, run_program, Result.andThen_ok, h1, h2, h3, Bool.false_eq_true, if_false, Sem.run_pure]
theorem FCall.of_acall {P : Program} {f : FuncId} [Enters P f] {fs cs args : List AV} {h : List Res} {R : AV → List Res → Prop} (hc : ACall P f (fs ++ args ++ cs) h R) :
    FCall P (.fn (.func f) fs cs) args h R := by
  intro X w v vs hr hv ha
  cases hv with
  | fn f' fs' cs' fa ca h1 h2 h3 h4 =>
    have : (callV (.func (.func f) fa ca) vs.toArray).run P w = .ok (.enter f (fa ++ vs.toArray ++ ca)) w := by
      simp only [callV, Deferred.ofValue, Sem.run_bind, Sem.run_pure, Result.andThen_ok, invoke, run_callFunc]
    rw [this]
    have h5 := hc X w (fa.toList ++ vs ++ ca.toList) hr
      (((Rels.of_get (by simpa using h1) fun j a b => by simpa using h3 j a (by simpa using b)).append ha).append (Rels.of_get (by simpa using h2) fun j a b => by simpa using h4 j a (by simpa using b)))
    have e : fa ++ vs.toArray ++ ca = (fa.toList ++ vs ++ ca.toList).toArray := by apply Array.ext'; simp
    show CallsIn _ _ _ _ _ _ _
    rw [e]; exact h5
theorem CPost.mono {X : Nat → Prop} {w : World} {h : List Res} {R R' : AV → List Res → Prop} (hr : ∀ av h', R av h' → R' av h') {e : Ending} {w' : World} (p : CPost X w h R e w') : CPost X w h R' e w' :=
  let ⟨v, av, h', e1, e2, r⟩ := p
  ⟨v, av, h', e1, hr _ _ e2, r⟩
theorem ACall.mono {P : Program} {f : FuncId} {args : List AV} {h : List Res} {R R' : AV → List Res → Prop} (hc : ACall P f args h R) (hr : ∀ av h', R av h' → R' av h') : ACall P f args h R' :=
  fun X w vs a b => (hc X w vs a b).mono fun _ _ p => p.mono hr
theorem NextOk.mono {P : Program} {Post Post' : Ending → World → Prop} {r : Result Next} (h : NextOk P Post r) (hp : ∀ e w, Post e w → Post' e w) : NextOk P Post' r := by
  cases r with
  | ok n w => cases n <;> first | exact CallsIn.mono h hp | exact RoundIn.mono h hp | exact h
  | halt x w => exact h
theorem FCall.mono {P : Program} {fv : AV} {args : List AV} {h : List Res} {R R' : AV → List Res → Prop} (hc : FCall P fv args h R) (hr : ∀ av h', R av h' → R' av h') : FCall P fv args h R' :=
  fun X w v vs a b c => (hc X w v vs a b c).mono fun _ _ p => p.mono hr
/-! The frame: a call under more resources than its contract names. -/
def Sub (X : Nat → Prop) (o : List Nat) : Nat → Prop := fun b => X b ∨ b ∈ o
theorem OO_sub (h1 h2 : List Res) (X : Nat → Prop) : OO h1 (Sub X (owns h2)) = OO (h1 ++ h2) X := by
  funext b; simp only [OO, Sub, owns_append, List.mem_append, eq_iff_iff]
  exact ⟨fun h => by rcases h with h | h | h <;> simp [h], fun h => by rcases h with (h | h) | h <;> simp [h]⟩
theorem HRel.part {X : Nat → Prop} {w : World} {h1 h2 : List Res} (r : HRel X w (h1 ++ h2)) : HRel (Sub X (owns h2)) w h1 := by
  have hn := r.nodup
  rw [owns_append, List.nodup_append] at hn
  refine ⟨hn.1, fun b hb => ⟨(r.lt b (by rw [owns_append]; exact List.mem_append_left _ hb)).1, fun hx => ?_⟩, fun b hb => ?_, fun x hx => ?_⟩
  · rcases hx with hx | hx
    · exact (r.lt b (by rw [owns_append]; exact List.mem_append_left _ hb)).2 hx
    · exact hn.2.2 b hb b hx rfl
  · rcases hb with hb | hb
    · exact r.xlt b hb
    · exact (r.lt b (by rw [owns_append]; exact List.mem_append_right _ hb)).1
  · rw [OO_sub]; exact r.holds x (List.mem_append_left _ hx)
theorem HRel.join {X : Nat → Prop} {w w' : World} {h1 h1' h2 : List Res} (r : HRel X w (h1 ++ h2)) (k : HRel (Sub X (owns h2)) w' h1') (hk : Keep (owns h1) w (owns h1') w') :
    HRel X w' (h1' ++ h2) ∧ Keep (owns (h1 ++ h2)) w (owns (h1' ++ h2)) w' := by
  have hn := r.nodup
  rw [owns_append, List.nodup_append] at hn
  have h2lt : ∀ b ∈ owns h2, b < w.heap.size ∧ b ∉ owns h1 := fun b hb => ⟨(r.lt b (by rw [owns_append]; exact List.mem_append_right _ hb)).1, fun h => hn.2.2 b h b hb rfl⟩
  have hkk : ∀ b, ¬ OO (h1 ++ h2) X b → b < w.heap.size → w'.heap[b]? = w.heap[b]? ∧ ¬ OO (h1' ++ h2) X b := fun b hb hl => by
    have hb' : b ∉ owns h1 ∧ b ∉ owns h2 ∧ ¬ X b := by
      simp only [OO, owns_append, List.mem_append, not_or] at hb; exact ⟨hb.1.1, hb.1.2, hb.2⟩
    obtain ⟨e, n⟩ := hk.same b hl hb'.1
    refine ⟨e, ?_⟩
    simp only [OO, owns_append, List.mem_append, not_or]
    exact ⟨⟨n, hb'.2.1⟩, hb'.2.2⟩
  refine ⟨⟨?_, fun b hb => ?_, fun b hb => Nat.lt_of_lt_of_le (r.xlt b hb) hk.size, fun x hx => ?_⟩, hk.size, fun b hl hb => ?_, hk.env⟩
  · rw [owns_append, List.nodup_append]
    exact ⟨k.nodup, hn.2.1, fun a ha b hb hab => (k.lt a ha).2 (.inr (hab ▸ hb))⟩
  · rw [owns_append, List.mem_append] at hb
    rcases hb with hb | hb
    · exact ⟨(k.lt b hb).1, fun hx => (k.lt b hb).2 (.inl hx)⟩
    · exact ⟨Nat.lt_of_lt_of_le (h2lt b hb).1 hk.size, (r.lt b (by rw [owns_append]; exact List.mem_append_right _ hb)).2⟩
  · rcases List.mem_append.1 hx with hx | hx
    · rw [← OO_sub]; exact k.holds x hx
    · refine Res.holds_keep hk.size hkk (fun b hb => ?_) (r.holds x (List.mem_append_right _ hx))
      have := h2lt b (mem_owns.2 ⟨x, hx, hb⟩)
      exact (hk.same b this.1 this.2).1
  · rw [owns_append, List.mem_append, not_or] at hb
    obtain ⟨e, n⟩ := hk.same b hl hb.1
    exact ⟨e, by rw [owns_append, List.mem_append, not_or]; exact ⟨n, hb.2⟩⟩
/-- What may be known of less, of one value, the memory being h. -/
def Le (h : List Res) (a b : AV) : Prop := ∀ X w v, HRel X w h → Rel w (OO h X) a v → Rel w (OO h X) b v
theorem Le.refl (h : List Res) (a : AV) : Le h a a := fun _ _ _ _ r => r
theorem FCall.frame {P : Program} {fv : AV} {args : List AV} {h1 : List Res} {R : AV → List Res → Prop} (h2 : List Res) (hc : FCall P fv args h1 R) :
    FCall P fv args (h1 ++ h2) (fun av h' => ∃ h1', h' = h1' ++ h2 ∧ R av h1') := by
  intro X w v vs hr hv ha
  refine (hc (Sub X (owns h2)) w v vs hr.part (by rw [OO_sub]; exact hv) (by rw [OO_sub]; exact ha)).mono ?_
  rintro e w' ⟨v', av, h1', e1, hR, hrel, hh, hk⟩
  obtain ⟨a, b⟩ := hr.join hh hk
  exact ⟨v', av, h1' ++ h2, e1, ⟨h1', rfl, hR⟩, by rw [← OO_sub]; exact hrel, a, b⟩
theorem ACall.frame {P : Program} {f : FuncId} {args : List AV} {h1 : List Res} {R : AV → List Res → Prop} (h2 : List Res) (hc : ACall P f args h1 R) :
    ACall P f args (h1 ++ h2) (fun av h' => ∃ h1', h' = h1' ++ h2 ∧ R av h1') := by
  intro X w vs hr ha
  refine (hc (Sub X (owns h2)) w vs hr.part (by rw [OO_sub]; exact ha)).mono ?_
  rintro e w' ⟨v', av, h1', e1, hR, hrel, hh, hk⟩
  obtain ⟨a, b⟩ := hr.join hh hk
  exact ⟨v', av, h1' ++ h2, e1, ⟨h1', rfl, hR⟩, by rw [← OO_sub]; exact hrel, a, b⟩
theorem FCall.perm {P : Program} {fv : AV} {args : List AV} {h h' : List Res} {R : AV → List Res → Prop} (p : h.Perm h') (hc : FCall P fv args h' R) : FCall P fv args h R := by
  intro X w v vs hr hv ha
  refine (hc X w v vs (hr.perm p) (by rw [← OO_perm p]; exact hv) (by rw [← OO_perm p]; exact ha)).mono ?_
  rintro e w' ⟨v', av, h1', e1, hR, hrel, hh, hk⟩
  exact ⟨v', av, h1', e1, hR, hrel, hh, hk.perm_left p.symm⟩
/-! Operations. -/
def ev (t : Fr) : Operand → Option AV
  | .tmp i => lk t i
  | .const x => some (.v x)
  | .global g => some (.v (.pointer (some ⟨g, 0, none⟩)))
  | .func f => some (.fn (.func f) [] [])
def evs (f : Operand → Option AV) : List Operand → Option (List AV)
  | [] => some []
  | x :: xs => match f x, evs f xs with
    | some a, some aS => some (a :: aS)
    | _, _ => none
structure Env (X : Nat → Prop) (h : List Res) (f : Operand → Option AV) (ρ : Operand → Value) (w : World) : Prop where
  heap : HRel X w h
  rel : ∀ x av, f x = some av → Rel w (OO h X) av (ρ x)
theorem env_of_fr {X : Nat → Prop} {h : List Res} {t : Fr} {a : Act} {w : World} (hh : HRel X w h) (hf : FrRel w (OO h X) t a.tmps) : Env X h (ev t) a.eval w :=
  ⟨hh, fun x av hx => by
    cases x with
    | tmp i =>
      obtain ⟨v, e, r⟩ := hf i av hx
      have : a.eval (.tmp i) = v := by simp [Act.eval, Array.getD_eq_getD_getElem?, e]
      rw [this]; exact r
    | const x => cases hx; exact .v x
    | global g => cases hx; exact .v _
    | func f => cases hx; exact .fn _ _ _ _ _ rfl rfl (fun j h => absurd h (Nat.not_lt_zero j)) (fun j h => absurd h (Nat.not_lt_zero j))⟩
theorem Sim.env {X : Nat → Prop} {nt : Nat} {s : St} {a : Act} {w : World} (hs : Sim X nt s a w) : Env X s.h (ev s.t) a.eval w := env_of_fr hs.heap hs.fr
theorem Env.evs {X : Nat → Prop} {h : List Res} {f : Operand → Option AV} {ρ : Operand → Value} {w : World} (he : Env X h f ρ w) :
    ∀ {xs : List Operand} {avs : List AV}, evs f xs = some avs → Rels w (OO h X) avs (xs.map ρ)
  | [], avs, e => by cases e; trivial
  | x :: xs, avs, e => by
    simp only [Ab.evs] at e
    split at e
    · rename_i a aS h1 h2
      cases e
      exact ⟨he.rel x a h1, he.evs h2⟩
    · cases e
/-- An operation that only reckons, or reads. -/
def QR (P : Program) (h : List Res) (f : Operand → Option AV) (o : Oper) (av : AV) : Prop :=
  ∀ X ρ w, Env X h f ρ w → ∃ v, (execOp ρ o).run P w = .ok (.value v) w ∧ Rel w (OO h X) av v
/-- An operation that leaves what is known of memory. -/
def QV (P : Program) (ro : Option Nat) (h : List Res) (f : Operand → Option AV) (o : Oper) (av : AV) : Prop :=
  ∀ X a w K Q, Env X h f a.eval w → (∀ v w', Rel w' (OO h X) av v → HRel X w' h → Keep (owns h) w (owns h) w' → K (a.put o.dst v) w') → o.wpIn (FW ro) 0 P a w K Q
def notDefer (o : Oper) : Bool := match o.op with
  | .defer _ => false
  | _ => true
theorem semAt_nd {o : Oper} (h : notDefer o = true) (ro : Option Nat) (ρ : Operand → Value) : o.semAt ro ρ = execOp ρ o :=
  Oper.semAt_eq ro ρ o fun c hc => by simp [notDefer, hc] at h
theorem about_true {P : Program} {ro : Option Nat} {o : Oper} {w : World} {ρ : Operand → Value} : ∀ f, o.about P w ρ = some f → (FW ro).fn f := fun _ _ => trivial
theorem qv_of_qr {P : Program} {ro : Option Nat} {h : List Res} {f : Operand → Option AV} {o : Oper} {av : AV} (hq : QR P h f o av) (hn : notDefer o = true := by rfl) : QV P ro h f o av := by
  intro X a w K Q he hk
  obtain ⟨v, e, r⟩ := hq X a.eval w he
  refine ⟨about_true, ?_⟩
  rw [semAt_nd hn, e]
  exact hk v w r he.heap (.refl _ _)
/-- Operations aS they stand, the abstract way. -/
def aops (P : Program) (ro : Option Nat) (nt : Nat) (ops : Array Oper) (l : List Oper) (Q : Exit → St → Prop) (s : St) : Prop :=
  ∀ X a w, Sim X nt s a w → wpListIn (FW ro) 0 P ops (AOut X nt s w Q) l a w
def OE (P : Program) (ro : Option Nat) (nt : Nat) (o : Oper) (s : St) (next : St → Prop) : Prop :=
  ∀ X a w K Q, Sim X nt s a w → (∀ s' a' w', next s' → Sim X nt s' a' w' → Keep (owns s.h) w (owns s'.h) w' → K a' w') → o.wpIn (FW ro) 0 P a w K Q
def gd (ops : Array Oper) (t : Fr) (o : Oper) : Option Bool := match o.guard with
  | none => some true
  | some (j, want) => match (ops[j]?).bind (·.dst) with
    | some d => match lk t d with
      | some (.v (.bool b)) => some (b == want)
      | some (.v (.tuple _)) => some false
      | _ => none
    | none => none
theorem gd_wanted {X : Nat → Prop} {nt : Nat} {ops : Array Oper} {s : St} {a : Act} {w : World} {o : Oper} {b : Bool} (hs : Sim X nt s a w) (h : gd ops s.t o = some b) :
    Region.wanted o (yielded ops a.tmps) = b := by
  unfold gd at h
  unfold Region.wanted
  split at h
  · rename_i hg; rw [hg]; simpa using h
  · rename_i j want hg
    rw [hg]
    simp only
    split at h
    · rename_i d hd
      split at h
      · rename_i c hc
        obtain ⟨v, e, r⟩ := hs.fr d _ hc
        rw [r.v_eq] at e
        simp only [Option.some.injEq] at h
        subst h
        simp only [yielded, hd, Option.bind_some, e]
        cases c <;> cases want <;> rfl
      · rename_i c hc
        obtain ⟨v, e, r⟩ := hs.fr d _ hc
        rw [r.v_eq] at e
        simp only [Option.some.injEq] at h
        subst h
        simp only [yielded, hd, Option.bind_some, e]
        cases want <;> rfl
      · cases h
    · cases h
def dok (nt : Nat) : Option Tmp → Bool
  | none => true
  | some d => Nat.blt d nt
theorem Sim.put {X : Nat → Prop} {nt : Nat} {s : St} {a : Act} {w : World} {d : Option Tmp} {av : AV} {v : Value} (hs : Sim X nt s a w) (hd : dok nt d = true) (hr : Rel w (OO s.h X) av v) :
    Sim X nt (s.put d av) (a.put d v) w := by
  cases d with
  | none => exact hs
  | some d =>
    have hd' : d < nt := Nat.le_of_ble_eq_true hd
    refine ⟨hs.heap, by simp [Act.put, hs.size], fun i b hi => ?_, hs.defs⟩
    simp only [St.put, lk] at hi
    split at hi
    · rename_i e
      have : d = i := Nat.eq_of_beq_eq_true e
      subst this
      cases hi
      exact ⟨v, by simp [Act.put, hs.size, hd'], hr⟩
    · rename_i e
      have hne : d ≠ i := fun h => by subst h; simp at e
      obtain ⟨u, e1, r1⟩ := hs.fr i b hi
      exact ⟨u, by simp [Act.put, hne, e1], r1⟩
theorem Sim.world {X : Nat → Prop} {nt : Nat} {s : St} {a : Act} {w w' : World} (hs : Sim X nt s a w) (hh : HRel X w' s.h) (hk : Keep (owns s.h) w (owns s.h) w') : Sim X nt s a w' :=
  ⟨hh, hs.size, hs.fr.keep hk.size (fun b hb hl => hk.oo b hb hl), hs.defs⟩
section
variable {P : Program} {ro : Option Nat} {nt : Nat} {ops : Array Oper} {rest : List Oper} {o : Oper} {Q : Exit → St → Prop} {s : St}
theorem aops_nil (h : Q .normal s) : aops P ro nt ops [] Q s := fun _ _ _ hs => ⟨s, h, hs, .refl _ _⟩
theorem wpListIn_aout_mono {X : Nat → Prop} {s s' : St} {w w' : World} {l : List Oper} {a : Act} {ops : Array Oper} (hk : Keep (owns s.h) w (owns s'.h) w')
    (h : wpListIn (FW ro) 0 P ops (AOut X nt s' w' Q) l a w') : wpListIn (FW ro) 0 P ops (AOut X nt s w Q) l a w' := by
  suffices h' : ∀ (l : List Oper) a w1, wpListIn (FW ro) 0 P ops (AOut X nt s' w' Q) l a w1 → wpListIn (FW ro) 0 P ops (AOut X nt s w Q) l a w1 from h' _ _ _ h
  intro l
  induction l with
  | nil => rintro a w1 ⟨s2, q, r, k⟩; exact ⟨s2, q, r, hk.trans k⟩
  | cons o l ih =>
    intro a w1 h
    simp only [wpListIn] at h ⊢
    split
    · rename_i hw
      simp only [hw, if_true] at h
      refine ⟨h.1, ?_⟩
      have h2 := h.2
      revert h2
      generalize (o.semAt (FW ro).round a.eval).run P w1 = r
      intro h2
      have hpan : ∀ chain a0 w0, AOut X nt s' w' Q (.panic chain) a0 w0 → AOut X nt s w Q (.panic chain) a0 w0 := fun _ _ _ ⟨s2, q, r, k⟩ => ⟨s2, q, r, hk.trans k⟩
      have hout : LetsOut (AOut X nt s' w' Q) → LetsOut (AOut X nt s w Q) := fun ⟨a0, w0, s2, q, r, k⟩ => ⟨a0, w0, s2, q, r, hk.trans k⟩
      cases r with
      | ok n w2 =>
        cases n <;> simp only [Oper.uponIn] at h2 ⊢ <;>
          first
            | exact ih _ _ h2
            | exact ⟨h2.1, h2.2.mono fun e w'' he => by cases e <;> first | exact ih _ _ he | exact hpan _ _ _ he | exact hout he⟩
            | exact ⟨h2.1, h2.2.mono fun _ _ he => ih _ _ he⟩
      | halt x w2 => cases x <;> simp only [Oper.uponIn] at h2 ⊢ <;> exact hpan _ _ _ h2
    · rename_i hw
      simp only [hw, if_false, Bool.false_eq_true] at h
      exact ⟨h.1, ih _ _ h.2⟩
theorem aops_e (hg : gd ops s.t o = some true) (h : OE P ro nt o s (aops P ro nt ops rest Q)) : aops P ro nt ops (o :: rest) Q s := fun X a w hs => by
  simp only [wpListIn, gd_wanted hs hg, if_true]
  exact h X a w _ _ hs fun s' a' w' hn hs' hk => wpListIn_aout_mono hk (hn X a' w' hs')
theorem oe_of_qv {av : AV} {next : St → Prop} (hd : dok nt o.dst = true) (hq : QV P ro s.h (ev s.t) o av) (hk : next (s.put o.dst av)) : OE P ro nt o s next := fun X a w K Q hs hK =>
  hq X a w K Q hs.env fun v w' hr hh hkeep => hK _ _ _ hk ((hs.world hh hkeep).put hd hr) (by cases o.dst <;> exact hkeep)
theorem aops_q {av : AV} (hg : gd ops s.t o = some true) (hd : dok nt o.dst = true) (hq : QV P ro s.h (ev s.t) o av) (hk : aops P ro nt ops rest Q (s.put o.dst av)) :
    aops P ro nt ops (o :: rest) Q s := aops_e hg (oe_of_qv hd hq hk)
/-- An operation that is passed over. -/
theorem aops_s (hg : gd ops s.t o = some false) (hd : dok nt o.dst = true) (hk : aops P ro nt ops rest Q (s.put o.dst (.v undef))) : aops P ro nt ops (o :: rest) Q s := fun X a w hs => by
  simp only [wpListIn, gd_wanted hs hg, if_false, Bool.false_eq_true]
  have h1 := hk X _ _ (hs.put hd (.v undef))
  exact ⟨about_true, wpListIn_aout_mono (s' := s.put o.dst (.v undef)) (by cases o.dst <;> exact .refl _ _) h1⟩
theorem aw_region {id : Nat} {l : List Oper} (h : aops P ro nt l.toArray l Q s) : aw P ro nt (.region id l.toArray false) Q s := fun X a w hs => wpIn_region_lit (h X a w hs)
theorem aops_mono {l : List Oper} {Q' : Exit → St → Prop} (hq : ∀ e s, Q e s → Q' e s) (h : aops P ro nt ops l Q s) : aops P ro nt ops l Q' s := by
  intro X a w hs
  have h1 := h X a w hs
  suffices h' : ∀ (l : List Oper) a w1, wpListIn (FW ro) 0 P ops (AOut X nt s w Q) l a w1 → wpListIn (FW ro) 0 P ops (AOut X nt s w Q') l a w1 from h' _ _ _ h1
  have hm : ∀ e a0 w0, AOut X nt s w Q e a0 w0 → AOut X nt s w Q' e a0 w0 := fun _ _ _ ⟨s2, q, r, k⟩ => ⟨s2, hq _ _ q, r, k⟩
  intro l
  induction l with
  | nil => intro a w1 h; exact hm _ _ _ h
  | cons o l ih =>
    intro a w1 h
    simp only [wpListIn] at h ⊢
    split
    · rename_i hw
      simp only [hw, if_true] at h
      refine ⟨h.1, ?_⟩
      have h2 := h.2
      revert h2
      generalize (o.semAt (FW ro).round a.eval).run P w1 = r
      intro h2
      cases r with
      | ok n w2 =>
        cases n <;> simp only [Oper.uponIn] at h2 ⊢ <;>
          first
            | exact ih _ _ h2
            | exact ⟨h2.1, h2.2.mono fun e w'' he => by cases e <;> first | exact ih _ _ he | exact hm _ _ _ he | exact (let ⟨a0, w0, q⟩ := he; ⟨a0, w0, hm _ _ _ q⟩)⟩
            | exact ⟨h2.1, h2.2.mono fun _ _ he => ih _ _ he⟩
      | halt x w2 => cases x <;> simp only [Oper.uponIn] at h2 ⊢ <;> exact hm _ _ _ h2
    · rename_i hw
      simp only [hw, if_false, Bool.false_eq_true] at h
      exact ⟨h.1, ih _ _ h.2⟩
theorem aw_cond {c : Operand} {x y : Code} {b : Bool} (hc : ev s.t c = some (.v (.bool b))) (ht : b = true → aw P ro nt x Q s) (hf : b = false → aw P ro nt y Q s) : aw P ro nt (.cond c x y) Q s := by
  intro X a w hs
  have := hs.env.rel c _ hc
  refine wpIn_cond_split (t := b) this.v_eq (fun h => ht h X a w hs) (fun h => hf h X a w hs)
end
end Go.Ab
/- The abstract logic, part 4: types' facts, reading and writing cells, the rules of plain operations. Conditions: none (lemmas over any program). -/
set_option linter.unusedVariables false
namespace Go.Ab
open Go
/-! Types. -/
class Und (P : Program) (T : TypeId) (d : outParam TypeDesc) : Prop where
  h : P.underlying T = some d
class Siz (P : Program) (T : TypeId) (n : outParam Nat) : Prop where
  h : (P.info? T).map (·.size) = some n
class Byt (P : Program) (T : TypeId) (n : outParam Nat) : Prop where
  h : (P.info? T).map (·.bytes) = some n
/-- The cells of a type's zero value. -/
class Zer (P : Program) (T : TypeId) (zs : outParam (List Value)) : Prop where
  h : ∃ z, (P.info? T).bind (·.zero) = some z ∧ z.cells.toList = zs ∧ (∀ x ∈ zs, x.oneCell' = true)
class ZerV (P : Program) (T : TypeId) (z : outParam Value) : Prop where
  h : (P.info? T).bind (·.zero) = some z
class Fld (P : Program) (T : TypeId) (k : Nat) (off : outParam Nat) (FT : outParam TypeId) : Prop where
  h : ∃ fs f, P.underlying T = some (.struct fs) ∧ fs[k]? = some f ∧ f.offset = off ∧ f.type = FT
def aggB : TypeDesc → Bool
  | .struct _ | .array _ _ => true
  | _ => false
/-- Is the type a struct or an array? -/
class IsA (P : Program) (T : TypeId) (b : outParam Bool) : Prop where
  h : ∃ d, P.underlying T = some d ∧ aggB d = b
/-- Where a struct's fields stand, and how many cells they have. -/
class Plc (P : Program) (T : TypeId) (pl : outParam (List (Nat × Nat))) : Prop where
  h : ∃ fs, P.underlying T = some (.struct fs) ∧ fs.toList.mapM (fun f => (P.info? f.type).map fun i => (f.offset, i.size)) = some pl
section
variable {P : Program} {w : World} {T : TypeId} {d : TypeDesc} {n : Nat}
theorem run_underlying [h : Und P T d] : (underlying T).run P w = .ok d w := by
  simp only [underlying, Sem.run_bind, run_program, Result.andThen_ok, h.h]; rfl
theorem run_typeInfo {i : TypeInfo} (h : P.info? T = some i) : (typeInfo T).run P w = .ok i w := by
  simp only [typeInfo, Sem.run_bind, run_program, Result.andThen_ok, h]; rfl
theorem run_sizeOf [h : Siz P T n] : (sizeOf T).run P w = .ok n w := by
  have h1 := h.h
  cases hi : P.info? T with
  | none => simp [hi] at h1
  | some i =>
    simp [hi] at h1
    simp only [sizeOf, Sem.run_bind, run_typeInfo hi, Result.andThen_ok, h1, Sem.run_pure]
theorem run_zeroValue {z : Value} (h : (P.info? T).bind (·.zero) = some z) : (zeroValue T).run P w = .ok z w := by
  cases hi : P.info? T with
  | none => simp [hi] at h
  | some i =>
    simp [hi] at h
    simp only [zeroValue, Sem.run_bind, run_typeInfo hi, Result.andThen_ok, h]; rfl
theorem run_isAgg {b : Bool} [h : IsA P T b] : (isAgg T).run P w = .ok b w := by
  obtain ⟨d, h1, h2⟩ := h.h
  have : (underlying T).run P w = .ok d w := by simp only [underlying, Sem.run_bind, run_program, Result.andThen_ok, h1]; rfl
  simp only [isAgg, Sem.run_bind, this, Result.andThen_ok]
  cases d <;> exact h2 ▸ rfl
theorem add_none (b o n : Nat) : Addr.add ⟨b, o, none⟩ n = ⟨b, o + n, none⟩ := Addr.add_lit b o n
theorem run_loadVar_agg [IsA P T true] [Siz P T n] {b off : Nat} (g : Nat → Value) (h : ∀ j, j < n → w.cell? ⟨b, off + j, none⟩ = some (g j)) :
    (loadVar T ⟨b, off, none⟩).run P w = .ok (.agg ((List.range n).map g).toArray) w := by
  simp only [loadVar, Sem.run_bind, run_isAgg (b := true), Result.andThen_ok, if_true, run_sizeOf (n := n)]
  rw [run_loadCells w _ n g (fun j hj => by rw [add_none]; exact h j hj)]
  rfl
theorem run_loadVar_one [IsA P T false] {a : Addr} {v : Value} (h : w.cell? a = some v) : (loadVar T a).run P w = .ok v w := by
  simp only [loadVar, Sem.run_bind, run_isAgg (b := false), Result.andThen_ok, if_false, Bool.false_eq_true, run_load, h]
end
/-! Finding resources by what names them. -/
class HasBox (h : List Res) (b : Nat) (i : outParam Nat) (T : outParam TypeId) (cells : outParam (List AV)) : Prop where
  h : h[i]? = some (.box b T cells)
instance HasBox.head {b : Nat} {T : TypeId} {cells : List AV} {h : List Res} : HasBox (.box b T cells :: h) b 0 T cells := ⟨rfl⟩
instance HasBox.tail {b i : Nat} {T : TypeId} {cells : List AV} {r : Res} {h : List Res} [k : HasBox h b i T cells] : HasBox (r :: h) b (i + 1) T cells := ⟨by simpa using k.h⟩
/-- A box of our own, or one that is only looked at. -/
class HasB (h : List Res) (b : Nat) (T : outParam TypeId) (cells : outParam (List AV)) : Prop where
  h : Res.box b T cells ∈ h ∨ Res.glob b T cells ∈ h
instance HasB.head {b : Nat} {T : TypeId} {cells : List AV} {h : List Res} : HasB (.box b T cells :: h) b T cells := ⟨.inl (by simp)⟩
instance HasB.headG {b : Nat} {T : TypeId} {cells : List AV} {h : List Res} : HasB (.glob b T cells :: h) b T cells := ⟨.inr (by simp)⟩
instance HasB.tail {b : Nat} {T : TypeId} {cells : List AV} {r : Res} {h : List Res} [k : HasB h b T cells] : HasB (r :: h) b T cells := ⟨k.h.imp (List.mem_cons_of_mem _) (List.mem_cons_of_mem _)⟩
theorem HasB.of {h : List Res} {b i : Nat} {T : TypeId} {cells : List AV} (k : HasBox h b i T cells) : HasB h b T cells := ⟨.inl (List.mem_of_getElem? k.h)⟩
class HasRow (h : List Res) (s : Value) (i : outParam Nat) (sz : outParam Nat) (T : outParam TypeId) (rows : outParam (List (List AV))) : Prop where
  h : h[i]? = some (.row s sz T rows)
instance HasRow.head {s : Value} {sz : Nat} {T : TypeId} {rows : List (List AV)} {h : List Res} : HasRow (.row s sz T rows :: h) s 0 sz T rows := ⟨rfl⟩
instance HasRow.tail {s : Value} {i sz : Nat} {T : TypeId} {rows : List (List AV)} {r : Res} {h : List Res} [k : HasRow h s i sz T rows] : HasRow (r :: h) s (i + 1) sz T rows := ⟨by simpa using k.h⟩
class HasMap (h : List Res) (r : Nat) (i : outParam Nat) (es : outParam (List (Value × AV))) : Prop where
  h : h[i]? = some (.map r es)
instance HasMap.head {r : Nat} {es : List (Value × AV)} {h : List Res} : HasMap (.map r es :: h) r 0 es := ⟨rfl⟩
instance HasMap.tail {r i : Nat} {es : List (Value × AV)} {x : Res} {h : List Res} [k : HasMap h r i es] : HasMap (x :: h) r (i + 1) es := ⟨by simpa using k.h⟩
theorem box_cells {X : Nat → Prop} {w : World} {h : List Res} {b i : Nat} {T : TypeId} {cells : List AV} (hh : HRel X w h) (hb : h[i]? = some (.box b T cells)) :
    ∃ c : Array Value, w.heap[b]? = some (.cells c T (0, 0)) ∧ cells.length = c.size ∧ ∀ j (h1 : j < cells.length) (h2 : j < c.size), Rel w (OO h X) cells[j] c[j] :=
  hh.holds _ (List.mem_of_getElem? hb)
theorem boxB_cells {X : Nat → Prop} {w : World} {h : List Res} {b : Nat} {T : TypeId} {cells : List AV} (hh : HRel X w h) (hb : HasB h b T cells) :
    ∃ (c : Array Value) (T0 : TypeId) (fr : Nat × Nat), w.heap[b]? = some (.cells c T0 fr) ∧ cells.length = c.size ∧ ∀ j (h1 : j < cells.length) (h2 : j < c.size), Rel w (OO h X) cells[j] c[j] := by
  rcases hb.h with k | k
  · obtain ⟨c, h⟩ := hh.holds _ k
    exact ⟨c, _, _, h⟩
  · exact (hh.holds _ k).2.2
/-! Reading. -/
section
variable {P : Program} {h : List Res} {f : Operand → Option AV} {dst : Option Tmp} {ty : TypeId} {pos : String} {after : Array Edge} {guard : Option (Nat × Bool)} {x : Operand}
theorem qr_move {av : AV} (hx : f x = some av) : QR P h f ⟨dst, .move x, ty, pos, after, guard⟩ av :=
  fun X ρ w he => ⟨ρ x, rfl, he.rel x av hx⟩
theorem qr_assign {av : AV} (hx : f x = some av) : QR P h f ⟨dst, .assign x, ty, pos, after, guard⟩ av :=
  fun X ρ w he => ⟨ρ x, rfl, he.rel x av hx⟩
theorem qr_pick_t {y z : Operand} {av : AV} (hx : f x = some (.v (.bool true))) (hy : f y = some av) : QR P h f ⟨dst, .pick x y z, ty, pos, after, guard⟩ av :=
  fun X ρ w he => ⟨ρ y, by simp [execOp, (he.rel x _ hx).v_eq, asBool], he.rel y av hy⟩
theorem qr_pick_f {y z : Operand} {av : AV} (hx : f x = some (.v (.bool false))) (hz : f z = some av) : QR P h f ⟨dst, .pick x y z, ty, pos, after, guard⟩ av :=
  fun X ρ w he => ⟨ρ z, by simp [execOp, (he.rel x _ hx).v_eq, asBool], he.rel z av hz⟩
theorem run_v (s : Sem Value) {P : Program} {w w' : World} {v : Value} (h : s.run P w = .ok v w') : ((do pure (Next.value (← s))) : Sem Next).run P w = .ok (.value v) w' := by
  simp [h]
theorem qr_load_agg {T T' : TypeId} {b off n : Nat} {cells : List AV} (hx : f x = some (.v (.pointer (some ⟨b, off, none⟩)))) [hb : HasB h b T' cells] [Siz P T n] [IsA P T true]
    (hle : off + n ≤ cells.length) : QR P h f ⟨dst, .load T x, ty, pos, after, guard⟩ (.agg ((cells.drop off).take n)) := by
  intro X ρ w he
  obtain ⟨c, T0, fr, h1, h2, h3⟩ := boxB_cells he.heap hb
  have hv := (he.rel x _ hx).v_eq
  refine ⟨.agg ((List.range n).map fun j => c[off + j]?.getD undef).toArray, ?_, ?_⟩
  · refine run_v _ ?_
    rw [hv]
    simp only [Instr.loadAt, Instr.sureAddr, Sem.run_bind, Sem.run_pure, Result.andThen_ok]
    refine run_loadVar_agg (n := n) _ fun j hj => ?_
    have : off + j < c.size := by omega
    simp [World.cell?, h1, this]
  · refine .agg _ _ (by simp; omega) fun j a b' => ?_
    have a' : j < n := by simp at a; omega
    have := h3 (off + j) (by omega) (by omega)
    simpa [show off + j < c.size by omega] using this
theorem qr_load_one {T T' : TypeId} {b off : Nat} {cells : List AV} {av : AV} (hx : f x = some (.v (.pointer (some ⟨b, off, none⟩)))) [hb : HasB h b T' cells] [IsA P T false]
    (hc : cells[off]? = some av) : QR P h f ⟨dst, .load T x, ty, pos, after, guard⟩ av := by
  intro X ρ w he
  obtain ⟨c, T0, fr, h1, h2, h3⟩ := boxB_cells he.heap hb
  have hv := (he.rel x _ hx).v_eq
  obtain ⟨hlt, hcv⟩ := List.getElem?_eq_some_iff.1 hc
  refine ⟨c[off]'(by omega), ?_, ?_⟩
  · refine run_v _ ?_
    rw [hv]
    simp only [Instr.loadAt, Instr.sureAddr, Sem.run_bind, Sem.run_pure, Result.andThen_ok]
    exact run_loadVar_one (by simp [World.cell?, h1, show off < c.size by omega])
  · have := h3 off hlt (by omega)
    rw [hcv] at this; exact this
theorem qr_load_pp_agg {T : TypeId} {n : Nat} {cells : List AV} (hx : f x = some (.pp cells)) [Siz P T n] [IsA P T true] (hle : n ≤ cells.length) :
    QR P h f ⟨dst, .load T x, ty, pos, after, guard⟩ (.agg (cells.take n)) := by
  intro X ρ w he
  have hr := he.rel x _ hx
  generalize hv : ρ x = v at hr
  cases hr with
  | pp _ b off g h1 h2 h3 h4 =>
    refine ⟨.agg ((List.range n).map g).toArray, run_v _ ?_, .agg _ _ (by simp; omega) fun j a b' => ?_⟩
    · rw [hv]
      simp only [Instr.loadAt, Instr.sureAddr, Sem.run_bind, Sem.run_pure, Result.andThen_ok]
      exact run_loadVar_agg (n := n) g fun j hj => h3 j (by omega)
    · simpa using h4 j (by simp at a; omega)
theorem qr_load_pp_one {T : TypeId} {cells : List AV} {av : AV} (hx : f x = some (.pp cells)) [IsA P T false] (hc : cells[0]? = some av) :
    QR P h f ⟨dst, .load T x, ty, pos, after, guard⟩ av := by
  intro X ρ w he
  have hr := he.rel x _ hx
  generalize hv : ρ x = v at hr
  obtain ⟨hlt, hcv⟩ := List.getElem?_eq_some_iff.1 hc
  cases hr with
  | pp _ b off g h1 h2 h3 h4 =>
    refine ⟨g 0, run_v _ ?_, ?_⟩
    · rw [hv]
      simp only [Instr.loadAt, Instr.sureAddr, Sem.run_bind, Sem.run_pure, Result.andThen_ok]
      exact run_loadVar_one (by simpa using h3 0 hlt)
    · have := h4 0 hlt; rw [hcv] at this; exact this
theorem run_fieldPlace {T FT : TypeId} {k off n : Nat} {fs : Array Field} {fl : Field} {w : World} {b o : Nat} [Siz P FT n] (hn : n ≠ 0) (h3 : fl.offset = off) (h4 : fl.type = FT) :
    (fieldPlace ⟨b, o, none⟩ fl).run P w = .ok ⟨b, o + off, none⟩ w := by
  subst h3 h4
  simp only [fieldPlace, Sem.run_bind, run_sizeOf (n := n), Result.andThen_ok, hn, if_false, Sem.run_pure, add_none]
theorem run_fieldAt {T FT : TypeId} {k off n : Nat} {w : World} {b o : Nat} [hf : Fld P T k off FT] [Siz P FT n] (hn : n ≠ 0) :
    (Instr.fieldAt T (.pointer (some ⟨b, o, none⟩)) k).run P w = .ok (.pointer (some ⟨b, o + off, none⟩)) w := by
  obtain ⟨fs, fl, h1, h2, h3, h4⟩ := hf.h
  have : (underlying T).run P w = .ok (.struct fs) w := by simp only [underlying, Sem.run_bind, run_program, Result.andThen_ok, h1]; rfl
  simp only [Instr.fieldAt, Sem.run_bind, this, Result.andThen_ok, h2, Instr.sureAddr, Sem.run_pure, run_fieldPlace (T := T) (k := k) (fs := fs) (FT := FT) hn h3 h4]
theorem qr_fieldAddr {T FT : TypeId} {k b o off n : Nat} (hx : f x = some (.v (.pointer (some ⟨b, o, none⟩)))) [hf : Fld P T k off FT] [Siz P FT n] (hn : n ≠ 0) :
    QR P h f ⟨dst, .fieldAddr T x k, ty, pos, after, guard⟩ (.v (.pointer (some ⟨b, o + off, none⟩))) := fun X ρ w he =>
  ⟨_, run_v _ (by rw [(he.rel x _ hx).v_eq]; exact run_fieldAt (n := n) (FT := FT) hn), .v _⟩
theorem qr_fieldAddr_pp {T FT : TypeId} {k off n : Nat} {cells : List AV} (hx : f x = some (.pp cells)) [hf : Fld P T k off FT] [Siz P FT n] (hn : n ≠ 0) :
    QR P h f ⟨dst, .fieldAddr T x k, ty, pos, after, guard⟩ (.pp (cells.drop off)) := fun X ρ w he => by
  have hr := he.rel x _ hx
  generalize hv : ρ x = v at hr
  cases hr with
  | pp _ b o g h1 h2 h3 h4 =>
    refine ⟨_, run_v _ (by rw [hv]; exact run_fieldAt (n := n) (FT := FT) hn), .pp _ b (o + off) (fun j => g (off + j)) h1 h2 (fun j hj => ?_) fun j hj => ?_⟩
    · have := h3 (off + j) (by simp at hj; omega); rw [← Nat.add_assoc] at this; exact this
    · simpa using h4 (off + j) (by simp at hj; omega)
theorem qr_fieldAddr_rp {T FT : TypeId} {k sz i kk off n b o len cap : Nat} (hx : f x = some (.rp (.slice (some ⟨b, o, none⟩) len cap) sz i kk)) [hf : Fld P T k off FT] [Siz P FT n] (hn : n ≠ 0) :
    QR P h f ⟨dst, .fieldAddr T x k, ty, pos, after, guard⟩ (.rp (.slice (some ⟨b, o, none⟩) len cap) sz i (kk + off)) := fun X ρ w he => by
  have hr := he.rel x _ hx
  generalize hv : ρ x = v at hr
  cases hr with
  | rp a _ _ _ _ _ =>
    refine ⟨_, run_v _ (by rw [hv, add_none]; exact run_fieldAt (n := n) (FT := FT) hn), ?_⟩
    have := Rel.rp (w := w) (O := OO h X) ⟨b, o, none⟩ len cap sz i (kk + off)
    rw [add_none, ← Nat.add_assoc (i * sz), ← Nat.add_assoc o] at this
    exact this
theorem qr_nilCheck {a : Addr} (hx : f x = some (.v (.pointer (some a)))) : QR P h f ⟨dst, .nilCheck x, ty, pos, after, guard⟩ (.v (.pointer (some a))) := fun X ρ w he =>
  ⟨_, by simp only [execOp, (he.rel x _ hx).v_eq]; rfl, .v _⟩
theorem qr_nilCheck_pp {cells : List AV} (hx : f x = some (.pp cells)) : QR P h f ⟨dst, .nilCheck x, ty, pos, after, guard⟩ (.pp cells) := fun X ρ w he => by
  have hr := he.rel x _ hx
  generalize hv : ρ x = v at hr
  cases hr with
  | pp _ b o g h1 h2 h3 h4 => exact ⟨_, by simp only [execOp, hv]; rfl, .pp _ b o g h1 h2 h3 h4⟩
theorem qr_nilCheck_rp {s : Value} {sz i k : Nat} (hx : f x = some (.rp s sz i k)) : QR P h f ⟨dst, .nilCheck x, ty, pos, after, guard⟩ (.rp s sz i k) := fun X ρ w he => by
  have hr := he.rel x _ hx
  generalize hv : ρ x = v at hr
  cases hr with
  | rp a l c _ _ _ => exact ⟨_, by simp only [execOp, hv]; rfl, .rp a l c sz i k⟩
/-! Slices that are only read. -/
theorem qr_len_list {T E : TypeId} {tys : List TypeId} {full : Bool} {sz : Nat} {rows : List (List AV)} (hx : f x = some (.list full sz rows)) [Und P T (.slice E)] :
    QR P h f ⟨dst, .call ⟨.builtin .len, [x].toArray, (T :: tys).toArray⟩, ty, pos, after, guard⟩ (.v (.int .i64 rows.length)) := fun X ρ w he => by
  have hr := he.rel x _ hx
  generalize hv : ρ x = v at hr
  have key : ∀ a n c, v = .slice a n c → n = rows.length → ∃ v, (execOp ρ ⟨dst, .call ⟨.builtin .len, [x].toArray, (T :: tys).toArray⟩, ty, pos, after, guard⟩).run P w = .ok (.value v) w ∧ Rel w (OO h X) (.v (.int .i64 rows.length)) v := by
    rintro a n c rfl rfl
    refine ⟨_, ?_, .v _⟩
    simp only [execOp, resolve, List.map_toArray, List.map_cons, List.map_nil, hv, Sem.run_bind, Sem.run_pure, Result.andThen_ok, invoke, builtin, Builtin.len_, List.getElem?_toArray, List.getElem?_cons_zero, run_underlying (d := TypeDesc.slice E)]
    rfl
  cases hr with
  | lnil _ _ a cap _ => exact key _ _ _ rfl rfl
  | list _ _ _ b off cap g => exact key _ _ _ rfl rfl
theorem qr_index_list {T E : TypeId} {full : Bool} {sz i : Nat} {rows : List (List AV)} {y : Operand} {row : List AV} (hx : f x = some (.list full sz rows)) (hy : f y = some (.v (.int .i64 i))) [Und P T (.slice E)] [Siz P E sz]
    (hi : rows[i]? = some row) : QR P h f ⟨dst, .indexAddr T x y, ty, pos, after, guard⟩ (.pp row) := fun X ρ w he => by
  have hr := he.rel x _ hx
  have hyv := (he.rel y _ hy).v_eq
  obtain ⟨hlt, hrow⟩ := List.getElem?_eq_some_iff.1 hi
  generalize hv : ρ x = v at hr
  cases hr with
  | lnil _ _ a cap _ => simp at hlt
  | list _ _ _ b off cap g h1 h2 h3 h4 h5 h6 h7 =>
    refine ⟨.pointer (some ⟨b, off + i * sz, none⟩), run_v _ ?_, ?_⟩
    · rw [hv, hyv]
      simp only [Instr.indexAt, asIntOf, Sem.run_bind, Sem.run_pure, Result.andThen_ok, run_underlying (d := TypeDesc.slice E)]
      rw [if_pos (by omega)]
      simp only [Sem.run_bind, run_sizeOf (n := sz), Result.andThen_ok, Sem.run_pure, add_none, Int.toNat_natCast]
    · subst hrow
      refine .pp _ b (off + i * sz) (g i) h3 h4 (fun j hj => h6 i hlt j hj) (fun j hj => h7 i hlt j hj)
theorem rel_sliced {w : World} {O : Nat → Prop} {full full' : Bool} {sz l k m len cap : Nat} {rows : List (List AV)} {a : Option Addr} (hr : Rel w O (.list full sz rows) (.slice a len cap))
    (hl : l ≤ k) (hk : k ≤ rows.length) (hkm : k ≤ m) (hm : m ≤ cap) (hf : full' = true → m = k) :
    Rel w O (.list full' sz ((rows.take k).drop l)) (sliced a l k m sz) := by
  have hlen : ((rows.take k).drop l).length = k - l := by simp; omega
  by_cases hkl : k = l
  · have e : (rows.take k).drop l = [] := List.eq_nil_of_length_eq_zero (by omega)
    rw [e, sliced, show k - l = 0 by omega]
    exact .lnil _ _ _ _ fun h => by have := hf h; omega
  · cases hr with
    | lnil _ _ a cap _ => simp at hk; omega
    | list _ _ _ b off cap g h1 h2 h3 h4 h5 h6 h7 =>
      have e : sliced (some ⟨b, off, none⟩) l k m sz = .slice (some ⟨b, off + l * sz, none⟩) ((rows.take k).drop l).length (m - l) := by
        rw [sliced, if_neg (by omega), hlen]; simp [add_none]
      rw [e]
      have get : ∀ i (hi : i < ((rows.take k).drop l).length), ((rows.take k).drop l)[i] = rows[l + i]'(by omega) := fun i hi => by simp
      refine .list _ _ _ b (off + l * sz) (m - l) (fun i j => g (l + i) j) (fun h => by have := hf h; omega) (by omega) h3 h4 (fun i hi => ?_) (fun i hi j hj => ?_) (fun i hi j hj => ?_)
      · rw [get i hi]; exact h5 (l + i) (by omega)
      · have hj' : j < (rows[l + i]'(by omega)).length := by rw [← get i hi]; exact hj
        have := h6 (l + i) (by omega) j hj'
        rw [show off + l * sz + i * sz + j = off + (l + i) * sz + j by rw [Nat.add_mul]; omega]
        exact this
      · have hj' : j < (rows[l + i]'(by omega)).length := by rw [← get i hi]; exact hj
        have := h7 (l + i) (by omega) j hj'
        simpa [get i hi] using this
theorem list_slice {w : World} {O : Nat → Prop} {full : Bool} {sz : Nat} {rows : List (List AV)} {v : Value} (hr : Rel w O (.list full sz rows) v) : ∃ a cap, v = .slice a rows.length cap ∧ rows.length ≤ cap := by
  cases hr with
  | lnil _ _ a cap _ => exact ⟨a, cap, rfl, Nat.zero_le _⟩
  | list _ _ _ b off cap g h1 h2 => exact ⟨_, cap, rfl, h2⟩
theorem und_elem {T E : TypeId} [hu : Und P T (.slice E)] : P.elem T = E ∧ P.underlying T = some (.slice (P.elem T)) := by
  have : P.elem T = E := by simp [Program.elem, hu.h]
  exact ⟨this, by rw [this]; exact hu.h⟩
theorem qr_slice_h {T E : TypeId} {full : Bool} {sz k : Nat} {rows : List (List AV)} {y : Operand} (hx : f x = some (.list full sz rows)) (hy : f y = some (.v (.int .i64 k))) (hk : k ≤ rows.length)
    [Und P T (.slice E)] [Siz P E sz] : QR P h f ⟨dst, .slice T x none (some y) none, ty, pos, after, guard⟩ (.list false sz (rows.take k)) := fun X ρ w he => by
  have hr := he.rel x _ hx
  obtain ⟨a, cap, e, hc⟩ := list_slice hr
  obtain ⟨e1, e2⟩ := und_elem (P := P) (T := T) (E := E)
  refine ⟨sliced a 0 k cap sz, run_v _ ?_, ?_⟩
  · simp only [Option.map_none, Option.map_some]
    rw [run_sliceAt_slice w T _ _ _ _ e2, e, (he.rel y _ hy).v_eq, run_slice_h w T a _ cap e2 .i64 k (by omega) (by omega), e1]
    simp only [run_sizeOf (n := sz), Result.andThen_ok, Int.toNat_natCast]
  · rw [e] at hr
    exact rel_sliced (l := 0) hr (by omega) hk (by omega) (by omega) (by simp)
theorem qr_slice_l {T E : TypeId} {full : Bool} {sz l : Nat} {rows : List (List AV)} {y : Operand} (hx : f x = some (.list full sz rows)) (hy : f y = some (.v (.int .i64 l))) (hl : l ≤ rows.length)
    [Und P T (.slice E)] [Siz P E sz] : QR P h f ⟨dst, .slice T x (some y) none none, ty, pos, after, guard⟩ (.list false sz (rows.drop l)) := fun X ρ w he => by
  have hr := he.rel x _ hx
  obtain ⟨a, cap, e, hc⟩ := list_slice hr
  obtain ⟨e1, e2⟩ := und_elem (P := P) (T := T) (E := E)
  refine ⟨sliced a l rows.length cap sz, run_v _ ?_, ?_⟩
  · simp only [Option.map_none, Option.map_some]
    rw [run_sliceAt_slice w T _ _ _ _ e2, e, (he.rel y _ hy).v_eq, run_slice_l w T a _ cap e2 .i64 l (by omega) (by omega), e1]
    simp only [run_sizeOf (n := sz), Result.andThen_ok, Int.toNat_natCast]
  · rw [e] at hr
    have := rel_sliced (full' := false) (l := l) (k := rows.length) (m := cap) hr hl (Nat.le_refl _) hc (by omega) (by simp)
    simpa using this
theorem qr_slice_lh {T E : TypeId} {full : Bool} {sz l k : Nat} {rows : List (List AV)} {y z : Operand} (hx : f x = some (.list full sz rows)) (hy : f y = some (.v (.int .i64 l))) (hz : f z = some (.v (.int .i64 k)))
    (hl : l ≤ k) (hk : k ≤ rows.length) [Und P T (.slice E)] [Siz P E sz] : QR P h f ⟨dst, .slice T x (some y) (some z) none, ty, pos, after, guard⟩ (.list false sz ((rows.take k).drop l)) := fun X ρ w he => by
  have hr := he.rel x _ hx
  obtain ⟨a, cap, e, hc⟩ := list_slice hr
  obtain ⟨e1, e2⟩ := und_elem (P := P) (T := T) (E := E)
  refine ⟨sliced a l k cap sz, run_v _ ?_, ?_⟩
  · simp only [Option.map_none, Option.map_some]
    rw [run_sliceAt_slice w T _ _ _ _ e2, e, (he.rel y _ hy).v_eq, (he.rel z _ hz).v_eq, run_slice_lh w T a _ cap e2 .i64 .i64 l k (by omega) (by omega) (by omega), e1]
    simp only [run_sizeOf (n := sz), Result.andThen_ok, Int.toNat_natCast]
  · rw [e] at hr
    exact rel_sliced hr hl hk (by omega) (by omega) (by simp)
theorem qr_slice_hm {T E : TypeId} {full : Bool} {sz k : Nat} {rows : List (List AV)} {y z : Operand} (hx : f x = some (.list full sz rows)) (hy : f y = some (.v (.int .i64 k))) (hz : f z = some (.v (.int .i64 k)))
    (hk : k ≤ rows.length) [Und P T (.slice E)] [Siz P E sz] : QR P h f ⟨dst, .slice T x none (some y) (some z), ty, pos, after, guard⟩ (.list true sz (rows.take k)) := fun X ρ w he => by
  have hr := he.rel x _ hx
  obtain ⟨a, cap, e, hc⟩ := list_slice hr
  obtain ⟨e1, e2⟩ := und_elem (P := P) (T := T) (E := E)
  refine ⟨sliced a 0 k k sz, run_v _ ?_, ?_⟩
  · simp only [Option.map_none, Option.map_some]
    rw [run_sliceAt_slice w T _ _ _ _ e2, e, (he.rel y _ hy).v_eq, (he.rel z _ hz).v_eq, run_slice_hm w T a _ cap e2 .i64 .i64 k k (by omega) (by omega) (by omega), e1]
    simp only [run_sizeOf (n := sz), Result.andThen_ok, Int.toNat_natCast]
  · rw [e] at hr
    exact rel_sliced (l := 0) hr (by omega) hk (Nat.le_refl _) (by omega) (fun _ => rfl)
/-! Strings. -/
theorem qr_len_string {T : TypeId} {tys : List TypeId} {s : ByteArray} (hx : f x = some (.v (.string s))) [Und P T .string] :
    QR P h f ⟨dst, .call ⟨.builtin .len, [x].toArray, (T :: tys).toArray⟩, ty, pos, after, guard⟩ (.v (.int .i64 s.size)) := fun X ρ w he => by
  refine ⟨_, ?_, .v _⟩
  simp only [execOp, resolve, List.map_toArray, List.map_cons, List.map_nil, (he.rel x _ hx).v_eq, Sem.run_bind, Sem.run_pure, Result.andThen_ok, invoke, builtin, Builtin.len_, List.getElem?_toArray, List.getElem?_cons_zero, run_underlying (d := TypeDesc.string)]
  rfl
theorem qr_slice_string_h {T : TypeId} {k : Nat} {s : ByteArray} {y : Operand} (hx : f x = some (.v (.string s))) (hy : f y = some (.v (.int .i64 k))) (hk : k ≤ s.size)
    [hu : Und P T .string] : QR P h f ⟨dst, .slice T x none (some y) none, ty, pos, after, guard⟩ (.v (.string (s.extract 0 k))) := fun X ρ w he => by
  refine ⟨_, run_v _ ?_, .v _⟩
  simp only [Option.map_none, Option.map_some]
  rw [run_sliceAt_string w T _ _ _ _ hu.h, (he.rel x _ hx).v_eq, (he.rel y _ hy).v_eq, run_slice_string_h w T s hu.h .i64 k (by omega) (by omega)]
  simp
theorem qr_slice_string_l {T : TypeId} {k : Nat} {s : ByteArray} {y : Operand} (hx : f x = some (.v (.string s))) (hy : f y = some (.v (.int .i64 k))) (hk : k ≤ s.size)
    [hu : Und P T .string] : QR P h f ⟨dst, .slice T x (some y) none none, ty, pos, after, guard⟩ (.v (.string (s.extract k s.size))) := fun X ρ w he => by
  refine ⟨_, run_v _ ?_, .v _⟩
  simp only [Option.map_none, Option.map_some]
  rw [run_sliceAt_string w T _ _ _ _ hu.h, (he.rel x _ hx).v_eq, (he.rel y _ hy).v_eq, run_slice_string_l w T s hu.h .i64 k (by omega) (by omega)]
  simp
/-! Numbers, truth. -/
def cmpI : BinOp → Int → Int → Option Bool
  | .eql, a, b => some (a == b)
  | .neq, a, b => some (a != b)
  | .lss, a, b => some (decide (a < b))
  | .leq, a, b => some (decide (a ≤ b))
  | .gtr, a, b => some (decide (a > b))
  | .geq, a, b => some (decide (a ≥ b))
  | _, _, _ => none
theorem run_binop_int {op : BinOp} {T : TypeId} {k : IntKind} {a b : Int} {x y : Operand} {w : World} : ((do eqGuard op T x y (.int k a) (.int k b); binOp op T (.int k a) (.int k b)) : Sem Value).run P w = (binOp op T (.int k a) (.int k b)).run P w := by
  rw [eqGuard_at_int]; rfl
theorem qr_cmp {op : BinOp} {T T' : TypeId} {k : IntKind} {a b : Int} {y : Operand} {c : Bool} (hx : f x = some (.v (.int k a))) (hy : f y = some (.v (.int k b))) (hc : cmpI op a b = some c) :
    QR P h f ⟨dst, .binOp op T x y T', ty, pos, after, guard⟩ (.v (.bool c)) := fun X ρ w he => by
  refine ⟨_, run_v _ ?_, .v _⟩
  rw [(he.rel x _ hx).v_eq, (he.rel y _ hy).v_eq, run_binop_int]
  cases op <;> simp only [cmpI, Option.some.injEq, reduceCtorEq] at hc <;> subst hc <;> simp [binOp, Op.intCmp]
def ariI : BinOp → Int → Int → Option Int
  | .add, a, b => some (a + b)
  | .sub, a, b => some (a - b)
  | .mul, a, b => some (a * b)
  | _, _, _ => none
theorem qr_ari {op : BinOp} {T T' : TypeId} {a b c : Int} {y : Operand} (hx : f x = some (.v (.int .i64 a))) (hy : f y = some (.v (.int .i64 b))) (hc : ariI op a b = some c)
    (hb : -9223372036854775808 ≤ c ∧ c ≤ 9223372036854775807) : QR P h f ⟨dst, .binOp op T x y T', ty, pos, after, guard⟩ (.v (.int .i64 c)) := fun X ρ w he => by
  refine ⟨_, run_v _ ?_, .v _⟩
  rw [(he.rel x _ hx).v_eq, (he.rel y _ hy).v_eq, run_binop_int]
  cases op <;> simp only [ariI, Option.some.injEq, reduceCtorEq] at hc <;> subst hc <;> simp [binOp, Op.intArith, IntWalk.i64_in _ hb]
theorem qr_not {T : TypeId} {b : Bool} (hx : f x = some (.v (.bool b))) : QR P h f ⟨dst, .unOp .not T x, ty, pos, after, guard⟩ (.v (.bool (!b))) := fun X ρ w he =>
  ⟨_, run_v _ (by rw [(he.rel x _ hx).v_eq]; rfl), .v _⟩
theorem qr_eqbool {op : BinOp} {T T' : TypeId} {a b : Bool} {y : Operand} (hop : op = .eql) (hx : f x = some (.v (.bool a))) (hy : f y = some (.v (.bool b))) [hu : Und P T .bool] :
    QR P h f ⟨dst, .binOp op T x y T', ty, pos, after, guard⟩ (.v (.bool (a == b))) := fun X ρ w he => by
  subst hop
  refine ⟨_, run_v _ ?_, .v _⟩
  rw [(he.rel x _ hx).v_eq, (he.rel y _ hy).v_eq]
  simp only [Sem.run_bind, eqGuard_at_bool, Sem.run_pure, Result.andThen_ok]
  exact run_eql_bool w T a b hu.h
theorem qr_eqstr {T T' : TypeId} {a b : ByteArray} {y : Operand} (hx : f x = some (.v (.string a))) (hy : f y = some (.v (.string b))) :
    QR P h f ⟨dst, .binOp .eql T x y T', ty, pos, after, guard⟩ (.v (.bool (a.toList == b.toList))) := fun X ρ w he => by
  refine ⟨_, run_v _ ?_, .v _⟩
  rw [(he.rel x _ hx).v_eq, (he.rel y _ hy).v_eq]
  simp [eqGuard, binOp, Op.stringOp]
theorem qr_nestr {T T' : TypeId} {a b : ByteArray} {y : Operand} (hx : f x = some (.v (.string a))) (hy : f y = some (.v (.string b))) :
    QR P h f ⟨dst, .binOp .neq T x y T', ty, pos, after, guard⟩ (.v (.bool (!(a.toList == b.toList)))) := fun X ρ w he => by
  refine ⟨_, run_v _ ?_, .v _⟩
  rw [(he.rel x _ hx).v_eq, (he.rel y _ hy).v_eq]
  simp [eqGuard, binOp, Op.stringOp]
theorem qr_min2 {tys : Array TypeId} {k k' : IntKind} {a b : Int} {y : Operand} (hx : f x = some (.v (.int k a))) (hy : f y = some (.v (.int k' b))) :
    QR P h f ⟨dst, .call ⟨.builtin .min, [x, y].toArray, tys⟩, ty, pos, after, guard⟩ (.v (.int k (min a b))) := fun X ρ w he => by
  refine ⟨_, ?_, .v _⟩
  simp only [execOp, resolve, List.map_toArray, List.map_cons, List.map_nil, (he.rel x _ hx).v_eq, (he.rel y _ hy).v_eq, Sem.run_bind, Sem.run_pure, Result.andThen_ok, invoke, builtin, run_min_int2]
  congr 3; simp only [Int.min_def]; split <;> split <;> omega
theorem qr_max2 {tys : Array TypeId} {k k' : IntKind} {a b : Int} {y : Operand} (hx : f x = some (.v (.int k a))) (hy : f y = some (.v (.int k' b))) :
    QR P h f ⟨dst, .call ⟨.builtin .max, [x, y].toArray, tys⟩, ty, pos, after, guard⟩ (.v (.int k (max a b))) := fun X ρ w he => by
  refine ⟨_, ?_, .v _⟩
  simp only [execOp, resolve, List.map_toArray, List.map_cons, List.map_nil, (he.rel x _ hx).v_eq, (he.rel y _ hy).v_eq, Sem.run_bind, Sem.run_pure, Result.andThen_ok, invoke, builtin, run_max_int2]
  congr 3; simp only [Int.max_def]; split <;> split <;> omega
/-! Aggregates, tuples, functions. -/
theorem qr_extract {k : Nat} {vs : List AV} {av : AV} (hx : f x = some (.tup vs)) (hk : vs[k]? = some av) : QR P h f ⟨dst, .extract x k, ty, pos, after, guard⟩ av := fun X ρ w he => by
  have hr := he.rel x _ hx
  generalize hv : ρ x = v at hr
  obtain ⟨hlt, e⟩ := List.getElem?_eq_some_iff.1 hk
  cases hr with
  | tup _ cs h1 h2 =>
    refine ⟨cs[k]'(by omega), run_v _ ?_, ?_⟩
    · rw [hv]; simp [Instr.extract, show k < cs.size by omega]
    · subst e; exact h2 k hlt (by omega)
theorem qr_field_one {T FT : TypeId} {k off : Nat} {cells : List AV} {av : AV} (hx : f x = some (.agg cells)) [hf : Fld P T k off FT] [IsA P FT false] (hc : cells[off]? = some av) :
    QR P h f ⟨dst, .field T x k, ty, pos, after, guard⟩ av := fun X ρ w he => by
  have hr := he.rel x _ hx
  generalize hv : ρ x = v at hr
  obtain ⟨hlt, e⟩ := List.getElem?_eq_some_iff.1 hc
  obtain ⟨fs, fl, h1, h2, h3, h4⟩ := hf.h
  subst h3 h4
  have hu : (underlying T).run P w = .ok (.struct fs) w := by simp only [underlying, Sem.run_bind, run_program, Result.andThen_ok, h1]; rfl
  cases hr with
  | agg _ cs g1 g2 =>
    refine ⟨cs[fl.offset]'(by omega), run_v _ ?_, ?_⟩
    · rw [hv]
      simp only [Instr.field, Sem.run_bind, hu, Result.andThen_ok, h2, asAgg, Sem.run_pure, part, run_isAgg (b := false), Bool.false_eq_true, if_false]
      simp [show fl.offset < cs.size by omega]
    · subst e; exact g2 _ hlt (by omega)
theorem qr_field_agg {T FT : TypeId} {k off n : Nat} {cells : List AV} (hx : f x = some (.agg cells)) [hf : Fld P T k off FT] [IsA P FT true] [Siz P FT n] (hle : off + n ≤ cells.length) :
    QR P h f ⟨dst, .field T x k, ty, pos, after, guard⟩ (.agg ((cells.drop off).take n)) := fun X ρ w he => by
  have hr := he.rel x _ hx
  generalize hv : ρ x = v at hr
  obtain ⟨fs, fl, h1, h2, h3, h4⟩ := hf.h
  subst h3 h4
  have hu : (underlying T).run P w = .ok (.struct fs) w := by simp only [underlying, Sem.run_bind, run_program, Result.andThen_ok, h1]; rfl
  cases hr with
  | agg _ cs g1 g2 =>
    refine ⟨.agg (cs.extract fl.offset (fl.offset + n)), run_v _ ?_, .agg _ _ (by simp; omega) fun j a b => ?_⟩
    · rw [hv]
      simp only [Instr.field, Sem.run_bind, hu, Result.andThen_ok, h2, asAgg, Sem.run_pure, part, run_isAgg (b := true), if_true, run_sizeOf (n := n)]
    · simp at a
      simpa using g2 (fl.offset + j) (by omega) (by omega)
theorem qr_index_arr_one {T E : TypeId} {n i sz : Nat} {cells : List AV} {av : AV} {y : Operand} (hx : f x = some (.agg cells)) (hy : f y = some (.v (.int .i64 i))) [Und P T (.array n E)] [IsA P E false] [Siz P E sz]
    (hi : i < n) (hc : cells[i * sz]? = some av) : QR P h f ⟨dst, .index T x y, ty, pos, after, guard⟩ av := fun X ρ w he => by
  have hr := he.rel x _ hx
  generalize hv : ρ x = v at hr
  obtain ⟨hlt, e⟩ := List.getElem?_eq_some_iff.1 hc
  cases hr with
  | agg _ cs g1 g2 =>
    refine ⟨cs[i * sz]'(by omega), run_v _ ?_, ?_⟩
    · rw [hv, (he.rel y _ hy).v_eq]
      simp only [Instr.index, asIntOf, Sem.run_bind, Sem.run_pure, Result.andThen_ok, run_underlying (d := TypeDesc.array n E)]
      rw [if_pos (by omega)]
      simp only [Sem.run_bind, run_sizeOf (n := sz), Result.andThen_ok, part, run_isAgg (b := false), Bool.false_eq_true, if_false, Int.toNat_natCast]
      simp [show i * sz < cs.size by omega]
    · subst e; exact g2 _ hlt (by omega)
theorem qr_index_str {T : TypeId} {i : Nat} {s : ByteArray} {y : Operand} (hx : f x = some (.v (.string s))) (hy : f y = some (.v (.int .i64 i))) [Und P T .string] (hi : i < s.size) :
    QR P h f ⟨dst, .index T x y, ty, pos, after, guard⟩ (.v (.int .u8 (s[i].toNat))) := fun X ρ w he => by
  refine ⟨_, run_v _ ?_, .v _⟩
  rw [(he.rel x _ hx).v_eq, (he.rel y _ hy).v_eq]
  simp only [Instr.index, asIntOf, Sem.run_bind, Sem.run_pure, Result.andThen_ok, run_underlying (d := TypeDesc.string)]
  rw [if_pos (by omega)]
  simp [hi]
/-- An array variable's element's address. -/
theorem qr_indexAddr_arr {T E : TypeId} {n b o i sz : Nat} {kk : IntKind} {y : Operand} (hx : f x = some (.v (.pointer (some ⟨b, o, none⟩)))) (hy : f y = some (.v (.int kk i))) [Und P T (.array n E)] [Siz P E sz] (hi : i < n) :
    QR P h f ⟨dst, .indexAddr T x y, ty, pos, after, guard⟩ (.v (.pointer (some ⟨b, o + i * sz, none⟩))) := fun X ρ w he => by
  refine ⟨_, run_v _ ?_, .v _⟩
  rw [(he.rel x _ hx).v_eq, (he.rel y _ hy).v_eq]
  simp only [Instr.indexAt, asIntOf, Instr.sureAddr, Sem.run_bind, Sem.run_pure, Result.andThen_ok, run_underlying (d := TypeDesc.array n E)]
  rw [if_pos (by omega)]
  simp only [Sem.run_bind, run_sizeOf (n := sz), Result.andThen_ok, Sem.run_pure, add_none, Int.toNat_natCast]
theorem qr_makeFunc {g : Fn} {fs cs : List Operand} {fa ca : List AV} (hf : evs f fs = some fa) (hc : evs f cs = some ca) : QR P h f ⟨dst, .makeFunc g fs.toArray cs.toArray, ty, pos, after, guard⟩ (.fn g fa ca) := fun X ρ w he => by
  have r1 := he.evs hf
  have r2 := he.evs hc
  refine ⟨_, rfl, .fn _ _ _ _ _ (by simpa using r1.length) (by simpa using r2.length) (fun j a b => ?_) fun j a b => ?_⟩
  · have := r1.get j a (by simpa using b); simp only [List.getElem_map] at this; simpa using this
  · have := r2.get j a (by simpa using b); simp only [List.getElem_map] at this; simpa using this
end
end Go.Ab
/- The abstract logic, part 5: operations that make or write memory; aggregates. Conditions: none (lemmas over any program). -/
set_option linter.unusedVariables false
set_option linter.unusedSimpArgs false
namespace Go.Ab
open Go
class SetAt (h : List Res) (i : Nat) (r : Res) (h' : outParam (List Res)) : Prop where
  h : h.set i r = h'
instance SetAt.head {x r : Res} {h : List Res} : SetAt (x :: h) 0 r (r :: h) := ⟨rfl⟩
instance SetAt.tail {x r : Res} {i : Nat} {h h' : List Res} [k : SetAt h i r h'] : SetAt (x :: h) (i + 1) r (x :: h') := ⟨by simp [k.h]⟩
def AV.one : AV → Bool
  | .v x => x.oneCell'
  | .list _ _ _ => true
  | .pp _ => true
  | .rp _ _ _ _ => true
  | .fn _ _ _ => true
  | _ => false
def AV.cellsOf : AV → Option (List AV)
  | .agg cs => match cs.all AV.one with
    | true => some cs
    | false => none
  | .v (.agg xs) => match xs.toList.all Value.oneCell' with
    | true => some (xs.toList.map .v)
    | false => none
  | .v (.tuple _) => none
  | .any => none
  | .tup _ => none
  | a => some [a]
theorem Rel.one {w : World} {O : Nat → Prop} {av : AV} {v : Value} (h : Rel w O av v) (h1 : av.one = true) : v.oneCell' = true := by
  cases h <;> first | rfl | exact h1 | (simp [AV.one] at h1; done)
theorem Rel.cells {w : World} {O : Nat → Prop} {av : AV} {v : Value} {cs : List AV} (h : Rel w O av v) (hc : av.cellsOf = some cs) :
    cs.length = v.cells.size ∧ (∀ j (h1 : j < cs.length) (h2 : j < v.cells.size), Rel w O cs[j] v.cells[j]) ∧ ∀ x ∈ v.cells.toList, x.oneCell' = true := by
  have single : ∀ (av : AV) (v : Value), Rel w O av v → av.one = true → v.cells = #[v] → ([av] : List AV).length = v.cells.size ∧ (∀ j (h1 : j < [av].length) (h2 : j < v.cells.size), Rel w O [av][j] v.cells[j]) ∧ ∀ x ∈ v.cells.toList, x.oneCell' = true := by
    intro av v h h1 e
    rw [e]
    refine ⟨rfl, fun j a b => ?_, fun x hx => ?_⟩
    · have : j = 0 := by simp at a; omega
      subst this; simpa using h
    · simp at hx; subst hx; exact h.one h1
  cases h with
  | any x => cases hc
  | v y =>
    by_cases hy : ∃ xs, v = .agg xs
    · obtain ⟨xs, rfl⟩ := hy
      simp only [AV.cellsOf] at hc
      split at hc
      · rename_i hall
        cases hc
        exact ⟨by simp [Value.cells], fun j a b => by simpa [Value.cells] using Rel.v _, fun x hx => List.all_eq_true.1 hall x hx⟩
      · cases hc
    · cases v <;> first
        | exact absurd ⟨_, rfl⟩ hy
        | (cases hc; done)
        | (cases hc; exact single _ _ (.v _) rfl rfl)
  | lnil full sz a cap h1 => cases hc; exact single _ _ (.lnil full sz a cap h1) rfl rfl
  | list full sz rows b off cap g h1 h2 h3 h4 h5 h6 h7 => cases hc; exact single _ _ (.list full sz rows b off cap g h1 h2 h3 h4 h5 h6 h7) rfl rfl
  | pp cells b off g h1 h2 h3 h4 => cases hc; exact single _ _ (.pp cells b off g h1 h2 h3 h4) rfl rfl
  | rp a len cap sz i off => cases hc; exact single _ _ (.rp a len cap sz i off) rfl rfl
  | agg cells cs' h1 h2 =>
    simp only [AV.cellsOf] at hc
    split at hc
    · rename_i hall
      cases hc
      refine ⟨h1, h2, fun x hx => ?_⟩
      obtain ⟨j, hj, e⟩ := List.mem_iff_getElem.1 hx
      simp only [Value.cells] at hj e
      have hj' : j < cs'.size := by simpa using hj
      have := h2 j (by omega) hj'
      have e' : cs'[j] = x := by simpa using e
      rw [e'] at this
      exact this.one (List.all_eq_true.1 hall _ (List.getElem_mem _))
    · cases hc
  | tup cells cs' h1 h2 => cases hc
  | fn f fs cs' fa ca h1 h2 h3 h4 => cases hc; exact single _ _ (.fn f fs cs' fa ca h1 h2 h3 h4) rfl rfl
theorem env_setCell (w : World) (a : Addr) (v : Value) : (w.setCell a v).os = w.os ∧ (w.setCell a v).output = w.output := by
  unfold World.setCell
  split <;> exact ⟨rfl, rfl⟩
/-! Cells stored. -/
theorem run_storeCells {P : Program} {b : Nat} {T : TypeId} : ∀ (vs : List Value) (off i : Nat) (w : World) (c : Array Value), (∀ x ∈ vs, x.oneCell' = true) → w.heap[b]? = some (.cells c T (0, 0)) → off + i + vs.length ≤ c.size →
    ∃ w', (storeCells ⟨b, off, none⟩ vs i).run P w = .ok () w' ∧ w'.heap.size = w.heap.size ∧ (∀ b', b' ≠ b → w'.heap[b']? = w.heap[b']?) ∧
      ∃ c' : Array Value, w'.heap[b]? = some (.cells c' T (0, 0)) ∧ c'.size = c.size ∧ (∀ k, c'[k]? = if off + i ≤ k ∧ k < off + i + vs.length then vs[k - (off + i)]? else c[k]?) ∧ w'.os = w.os ∧ w'.output = w.output
  | [], off, i, w, c, _, hb, _ => ⟨w, rfl, rfl, fun _ _ => rfl, c, hb, rfl, fun k => by rw [if_neg (by simp)], rfl, rfl⟩
  | v :: vs, off, i, w, c, h1, hb, hle => by
    simp only [List.length_cons] at hle
    have hcell : w.cell? ⟨b, off + i, none⟩ = some (c[off + i]'(by omega)) := by simp [World.cell?, hb, show off + i < c.size by omega]
    have hfz : w.frozen? ⟨b, off + i, none⟩ = false := by simp [World.frozen?, hb]
    obtain ⟨w', e, hs, ho, c', hb', hs', hk, hv1, hv2⟩ := run_storeCells (P := P) vs off (i + 1) (w.setCell ⟨b, off + i, none⟩ v) (c.setIfInBounds (off + i) v) (fun x hx => h1 x (List.mem_cons_of_mem _ hx))
      (heap_setCell_same w b (off + i) c T v hb) (by simp; omega)
    refine ⟨w', ?_, by rw [hs]; simp, fun b' hne => by rw [ho b' hne, heap_setCell_other w _ b' v hne], c', hb', by rw [hs']; simp, fun k => ?_, hv1.trans (env_setCell w _ v).1, hv2.trans (env_setCell w _ v).2⟩
    · simp only [storeCells, Sem.run_bind, add_none, run_store P w _ v _ (h1 v (by simp)), hcell, hfz, Bool.false_eq_true, if_false, Result.andThen_ok, e]
    · rw [hk k]
      by_cases hk0 : k = off + i
      · subst hk0
        rw [if_neg (by omega), if_pos ⟨Nat.le_refl _, by simp⟩]
        simp [show off + i < c.size by omega]
      · by_cases hin : off + (i + 1) ≤ k ∧ k < off + (i + 1) + vs.length
        · rw [if_pos hin, if_pos (by simp; omega)]
          rw [show k - (off + i) = (k - (off + (i + 1))) + 1 by omega, List.getElem?_cons_succ]
        · rw [if_neg hin, if_neg (by simp only [List.length_cons]; omega)]
          rw [Array.getElem?_setIfInBounds_ne (by omega)]
theorem setBox_holds {w w' : World} {O : Nat → Prop} {b : Nat} {T : TypeId} {cells cs : List AV} {c c' vs : Array Value} {off : Nat}
    (hs : w.heap.size ≤ w'.heap.size) (hk : ∀ b', ¬ O b' → b' < w.heap.size → w'.heap[b']? = w.heap[b']? ∧ ¬ O b')
    (hl : cells.length = c.size) (hr : ∀ j (h1 : j < cells.length) (h2 : j < c.size), Rel w O cells[j] c[j]) (hl2 : cs.length = vs.size) (hr2 : ∀ j (h1 : j < cs.length) (h2 : j < vs.size), Rel w O cs[j] vs[j])
    (hle : off + cs.length ≤ cells.length) (hb : w'.heap[b]? = some (.cells c' T (0, 0))) (hcs : c'.size = c.size) (hc' : ∀ k, c'[k]? = if off ≤ k ∧ k < off + vs.toList.length then vs.toList[k - off]? else c[k]?) :
    (Res.box b T (cells.take off ++ cs ++ cells.drop (off + cs.length))).holds w' O := by
  refine ⟨c', hb, by simp; omega, fun j h1 h2 => ?_⟩
  have h3 := hc' j
  rw [Array.getElem?_eq_getElem h2] at h3
  by_cases hj : j < off
  · rw [if_neg (by omega), Array.getElem?_eq_getElem (by omega), Option.some.injEq] at h3
    have e : (cells.take off ++ cs ++ cells.drop (off + cs.length))[j] = cells[j]'(by omega) := by
      rw [List.getElem_append_left (by simp; omega), List.getElem_append_left (by simp; omega)]; simp
    rw [e, h3]; exact (hr j (by omega) (by omega)).keep hs hk
  · by_cases hj2 : j < off + cs.length
    · rw [if_pos (by simp; omega)] at h3
      have h4 : j - off < vs.size := by omega
      rw [List.getElem?_eq_getElem (by simpa using h4), Option.some.injEq] at h3
      have e : (cells.take off ++ cs ++ cells.drop (off + cs.length))[j] = cs[j - off]'(by omega) := by
        rw [List.getElem_append_left (by simp; omega), List.getElem_append_right (by simp; omega)]; simp [Nat.min_eq_left (show off ≤ cells.length by omega)]
      rw [e, h3]; simpa using (hr2 (j - off) (by omega) h4).keep hs hk
    · rw [if_neg (by simp; omega), Array.getElem?_eq_getElem (by omega), Option.some.injEq] at h3
      have e : (cells.take off ++ cs ++ cells.drop (off + cs.length))[j] = cells[j]'(by omega) := by
        rw [List.getElem_append_right (by simp; omega), List.getElem_drop]
        congr 1; simp [Nat.min_eq_left (show off ≤ cells.length by omega)]; omega
      rw [e, h3]; exact (hr j (by omega) (by omega)).keep hs hk
section
variable {P : Program} {ro : Option Nat} {nt : Nat} {dst : Option Tmp} {ty : TypeId} {pos : String} {after : Array Edge} {guard : Option (Nat × Bool)} {x y : Operand} {t : Fr} {h h' : List Res} {ds : List Nat} {next : St → Prop}
theorem oe_skip_run {o : Oper} {s s' : St} (hn : notDefer o = true) (hd : o.dst = none) (hrun : ∀ X a w, Sim X nt s a w → ∃ w', (execOp a.eval o).run P w = .ok .skip w' ∧ Sim X nt s' a w' ∧ Keep (owns s.h) w (owns s'.h) w') (hk : next s') : OE P ro nt o s next := by
  intro X a w K Q hs hK
  obtain ⟨w', e, hs', hkeep⟩ := hrun X a w hs
  refine ⟨about_true, ?_⟩
  rw [semAt_nd hn, e]
  show K (a.put o.dst undef) w'
  rw [hd]
  exact hK s' a w' hk hs' hkeep
theorem run_u {s : Sem Unit} {w w' : World} (h : s.run P w = .ok () w') : ((do s; pure Next.skip) : Sem Next).run P w = .ok .skip w' := by simp [h]
theorem oe_store {T T' : TypeId} {b off i n : Nat} {av : AV} {cells cs : List AV} (hx : ev t x = some (.v (.pointer (some ⟨b, off, none⟩)))) (hy : ev t y = some av) (hc : av.cellsOf = some cs)
    [hb : HasBox h b i T' cells] [Siz P T n] (hn : cs.length = n) (hle : off + n ≤ cells.length) [hset : SetAt h i (.box b T' (cells.take off ++ cs ++ cells.drop (off + n))) h'] (hk : next ⟨t, h', ds⟩) :
    OE P ro nt ⟨none, .store T x y, ty, pos, after, guard⟩ ⟨t, h, ds⟩ next := by
  refine oe_skip_run rfl rfl (fun X a w hs => ?_) hk
  obtain ⟨c, h1, h2, h3⟩ := box_cells hs.heap hb.h
  have hv := (hs.env.rel x _ hx).v_eq
  obtain ⟨g1, g2, g3⟩ := (hs.env.rel y _ hy).cells hc
  obtain ⟨w', e, e2, e3, c', e4, e5, e6, ev⟩ := run_storeCells (P := P) (a.eval y).cells.toList off 0 w c g3 h1 (by simp; omega)
  have e6' : ∀ k, c'[k]? = if off ≤ k ∧ k < off + (a.eval y).cells.toList.length then (a.eval y).cells.toList[k - off]? else c[k]? := e6
  have hkeep0 : ∀ b', b' < w.heap.size → b' ∉ (Res.box b T' cells).own → w'.heap[b']? = w.heap[b']? := fun b' _ hne => e3 b' (by simpa [Res.own] using hne)
  have hholds : (Res.box b T' (cells.take off ++ cs ++ cells.drop (off + n))).holds w' (OO h X) := by
    subst hn
    exact setBox_holds (by omega) (fun b' hb' hl => ⟨e3 b' (fun he => hb' (.inl (mem_owns.2 ⟨_, List.mem_of_getElem? hb.h, by simp [Res.own, he]⟩))), hb'⟩) h2 h3 g1 g2 hle e4 e5 e6'
  refine ⟨w', ?_, ⟨?_, hs.size, ?_, hs.defs⟩, ?_⟩
  · refine run_u ?_
    rw [hv]
    simp only [Instr.storeAt, Instr.sureAddr, Sem.run_bind, Sem.run_pure, Result.andThen_ok, storeVar, run_sizeOf (n := n)]
    rw [if_neg (by simp; omega)]
    simp only [Sem.run_bind, Sem.run_pure, Result.andThen_ok, e]
  · exact hset.h ▸ hs.heap.set hb.h rfl (by omega) hkeep0 hholds
  · have hO : OO h' X = OO h X := by funext b'; rw [← hset.h]; simp only [OO, owns_set hb.h (y := .box b T' (cells.take off ++ cs ++ cells.drop (off + n))) rfl]
    rw [hO]
    exact hs.fr.keep (by omega) fun b' hb' hl => ⟨e3 b' (fun he => hb' (.inl (mem_owns.2 ⟨_, List.mem_of_getElem? hb.h, by simp [Res.own, he]⟩))), hb'⟩
  · exact hset.h ▸ Keep.set hb.h rfl (by omega) hkeep0 ev
/-- A new variable. -/
theorem oe_new {o : Oper} {d : Tmp} {T : TypeId} {cells : List AV} (hn : notDefer o = true) (hd : o.dst = some d) (hlt : dok nt (some d) = true)
    (hrun : ∀ X a w, Sim X nt ⟨t, h, ds⟩ a w → ∃ c : Array Value, (execOp a.eval o).run P w = .ok (.value (.pointer (some ⟨w.heap.size, 0, none⟩))) { w with heap := w.heap.push (.cells c T (0, 0)) } ∧
      cells.length = c.size ∧ ∀ j (h1 : j < cells.length) (h2 : j < c.size), Rel w (OO h X) cells[j] c[j])
    (hk : ∀ b, next ⟨(d, .v (.pointer (some ⟨b, 0, none⟩))) :: t, .box b T cells :: h, ds⟩) : OE P ro nt o ⟨t, h, ds⟩ next := by
  intro X a w K Q hs hK
  obtain ⟨c, e, hl, hr⟩ := hrun X a w hs
  refine ⟨about_true, ?_⟩
  rw [semAt_nd hn, e]
  have hkk : ∀ b', ¬ OO h X b' → b' < w.heap.size → (w.heap.push (.cells c T (0, 0)))[b']? = w.heap[b']? ∧ ¬ OO (.box w.heap.size T cells :: h) X b' := fun b' hb' hl => ⟨push_old hl, fun hm => by
    rcases hm with hm | hm
    · rw [owns_cons] at hm
      simp only [Res.own, List.singleton_append, List.mem_cons] at hm
      rcases hm with rfl | hm
      · exact Nat.lt_irrefl _ hl
      · exact hb' (.inl hm)
    · exact hb' (.inr hm)⟩
  have hh : HRel X { w with heap := w.heap.push (.cells c T (0, 0)) } (.box w.heap.size T cells :: h) :=
    hs.heap.alloc _ _ rfl ⟨c, push_new, hl, fun j h1 h2 => (hr j h1 h2).keep (by simp) hkk⟩
  have hsim : Sim X nt ⟨t, .box w.heap.size T cells :: h, ds⟩ a { w with heap := w.heap.push (.cells c T (0, 0)) } := ⟨hh, hs.size, hs.fr.keep (by simp) hkk, hs.defs⟩
  show K (a.put o.dst _) _
  rw [hd]
  exact hK _ _ _ (hk w.heap.size) (hsim.put (av := .v (.pointer (some ⟨w.heap.size, 0, none⟩))) hlt (.v _)) (Keep.alloc _ (.box w.heap.size T cells) rfl)
theorem oe_alloc {d : Tmp} {T : TypeId} {zs : List Value} [hz : Zer P T zs] (hlt : dok nt (some d) = true) (hk : ∀ b, next ⟨(d, .v (.pointer (some ⟨b, 0, none⟩))) :: t, .box b T (zs.map .v) :: h, ds⟩) :
    OE P ro nt ⟨some d, .alloc T, ty, pos, after, guard⟩ ⟨t, h, ds⟩ next := by
  refine oe_new (T := T) (cells := zs.map .v) rfl rfl hlt (fun X a w hs => ?_) hk
  obtain ⟨z, h1, h2, _⟩ := hz.h
  refine ⟨z.cells, run_v _ ?_, by rw [← h2]; simp, fun j a b => ?_⟩
  · simp only [Instr.alloc, Sem.run_bind, run_zeroValue h1, Result.andThen_ok, newVar, newRow, run_newObj, Sem.run_pure]
  · subst h2; simpa using Rel.v _
theorem oe_box {d : Tmp} {T : TypeId} {av : AV} {cs : List AV} (hx : ev t x = some av) (hc : av.cellsOf = some cs) (hlt : dok nt (some d) = true) (hk : ∀ b, next ⟨(d, .v (.pointer (some ⟨b, 0, none⟩))) :: t, .box b T cs :: h, ds⟩) :
    OE P ro nt ⟨some d, .box T x, ty, pos, after, guard⟩ ⟨t, h, ds⟩ next := by
  refine oe_new (T := T) (cells := cs) rfl rfl hlt (fun X a w hs => ?_) hk
  obtain ⟨g1, g2, g3⟩ := (hs.env.rel x _ hx).cells hc
  refine ⟨(a.eval x).cells, run_v _ ?_, g1, g2⟩
  simp only [Instr.box, Sem.run_bind, Result.andThen_ok, newVar, newRow, run_newObj, Sem.run_pure]
end
end Go.Ab
/- The abstract logic, part 6: calls, function bodies, results, knowing less. Conditions: none (lemmas over any program). -/
set_option linter.unusedVariables false
set_option linter.unusedSimpArgs false
namespace Go.Ab
open Go
def noX : Nat → Prop := fun _ => False
/-- A value that bears nothing of memory. -/
def flat : AV → Bool
  | .any => true
  | .v _ => true
  | .list _ _ [] => true
  | .rp _ _ _ _ => true
  | .agg cs => cs.all fun c => match c with
    | .v _ => true
    | .any => true
    | _ => false
  | .tup cs => cs.all fun c => match c with
    | .v _ => true
    | .any => true
    | .agg ds => ds.all fun c => match c with
      | .v _ => true
      | .any => true
      | _ => false
    | _ => false
  | _ => false
theorem Rel.flat {w w' : World} {O O' : Nat → Prop} {av : AV} {v : Value} (h : Rel w O av v) (hf : Ab.flat av = true) : Rel w' O' av v := by
  have base : ∀ c v, Rel w O c v → (match c with | .v _ => true | .any => true | _ => false) = true → Rel w' O' c v := by
    intro c v h hc
    cases h <;> simp at hc
    · exact .any _
    · exact .v _
  cases h with
  | any => exact .any _
  | v => exact .v _
  | lnil full sz a cap h => exact .lnil full sz a cap h
  | list full sz rows b off cap g h1 h2 h3 h4 h5 h6 h7 =>
    cases rows with
    | nil => exact .lnil full sz _ cap (by simpa using h1)
    | cons r rs => simp [Ab.flat] at hf
  | pp cells b off g h1 h2 h3 h4 => simp [Ab.flat] at hf
  | rp a len cap sz i off => exact .rp a len cap sz i off
  | agg cells cs h1 h2 =>
    simp only [Ab.flat, List.all_eq_true] at hf
    exact .agg cells cs h1 fun j a b => base _ _ (h2 j a b) (hf _ (List.getElem_mem _))
  | tup cells cs h1 h2 =>
    simp only [Ab.flat, List.all_eq_true] at hf
    refine .tup cells cs h1 fun j a b => ?_
    have r := h2 j a b
    have f := hf _ (List.getElem_mem a)
    revert r f
    generalize cells[j] = c
    generalize cs[j] = u
    intro r f
    cases r with
    | any => exact .any _
    | v => exact .v _
    | agg cells cs h1 h2 =>
      simp only [List.all_eq_true] at f
      exact .agg cells cs h1 fun j a b => base _ _ (h2 j a b) (f _ (List.getElem_mem _))
    | _ => simp at f
  | fn f fs cs fa ca h1 h2 h3 h4 => simp [Ab.flat] at hf
theorem Rel.loose {w : World} {O O' : Nat → Prop} {av : AV} {v : Value} (h : Rel w O av v) (hO : ∀ b, O' b → O b) : Rel w O' av v :=
  h.keep (Nat.le_refl _) fun b hb _ => ⟨rfl, fun h => hb (hO b h)⟩
/-- What may be known of less, one by one. -/
def Les (h : List Res) : List AV → List AV → Prop
  | [], [] => True
  | a :: aS, b :: bs => Le h a b ∧ Les h aS bs
  | _, _ => False
theorem Les.refl (h : List Res) : ∀ aS : List AV, Les h aS aS
  | [] => trivial
  | a :: aS => ⟨Le.refl h a, Les.refl h aS⟩
theorem Les.rels {h : List Res} {X : Nat → Prop} {w : World} (hh : HRel X w h) : ∀ {aS bs : List AV} {vs : List Value}, Les h aS bs → Rels w (OO h X) aS vs → Rels w (OO h X) bs vs
  | [], [], [], _, _ => trivial
  | a :: aS, b :: bs, v :: vs, hl, hr => ⟨hl.1 X w v hh hr.1, Les.rels hh hl.2 hr.2⟩
  | [], [], _ :: _, _, hr => hr.elim
  | _ :: _, _ :: _, [], _, hr => hr.elim
  | [], _ :: _, _, hl, _ => hl.elim
  | _ :: _, [], _, hl, _ => hl.elim
/-- Lent: what a callee that touches nothing may take a value for. -/
def BLe (h : List Res) (a b : AV) : Prop := ∀ X w v, HRel X w h → Rel w (OO h X) a v → Rel w noX b v
theorem BLe.of_le {h : List Res} {a b : AV} (l : Le h a b) : BLe h a b := fun X w v hh hr => (l X w v hh hr).loose fun _ h => h.elim
theorem BLe.refl (h : List Res) (a : AV) : BLe h a a := .of_le (.refl h a)
def BLes (h : List Res) : List AV → List AV → Prop
  | [], [] => True
  | a :: aS, b :: bs => BLe h a b ∧ BLes h aS bs
  | _, _ => False
theorem BLes.rels {h : List Res} {X : Nat → Prop} {w : World} (hh : HRel X w h) : ∀ {aS bs : List AV} {vs : List Value}, BLes h aS bs → Rels w (OO h X) aS vs → Rels w noX bs vs
  | [], [], [], _, _ => trivial
  | a :: aS, b :: bs, v :: vs, hl, hr => ⟨hl.1 X w v hh hr.1, BLes.rels hh hl.2 hr.2⟩
  | [], [], _ :: _, _, hr => hr.elim
  | _ :: _, _ :: _, [], _, hr => hr.elim
  | [], _ :: _, _, hl, _ => hl.elim
  | _ :: _, [], _, hl, _ => hl.elim
theorem ble_row {h : List Res} {s : Value} {sz i : Nat} {T : TypeId} {rows : List (List AV)} [hr : HasRow h s i sz T rows] : BLe h (.v s) (.list false sz rows) := by
  intro X w v hh r
  rw [r.v_eq]
  have hx := hh.holds _ (List.mem_of_getElem? hr.h)
  cases s <;> try exact hx.elim
  rename_i a len cap
  cases a with
  | none => obtain ⟨rfl, rfl, rfl⟩ := hx; exact .lnil _ _ _ _ (by simp)
  | some a =>
    obtain ⟨h1, h2, h3, h4, c, h5, h6, h7⟩ := hx
    obtain ⟨b, off, spot⟩ := a
    simp only at h1; subst h1; subst h2
    refine .list _ _ _ b off cap (fun i j => c[off + i * sz + j]?.getD undef) (by simp) h3 (fun h => h) ?_ h4 (fun i hi j hj => ?_) fun i hi j hj => ?_
    · exact (hh.lt b (mem_owns.2 ⟨_, List.mem_of_getElem? hr.h, by simp [Res.own]⟩)).1
    · obtain ⟨v, e, _⟩ := h7 i hi j hj
      simp only at e h5
      simp [World.cell?, h5, e]
    · obtain ⟨v, e, r⟩ := h7 i hi j hj
      simp only at e
      rw [e]
      exact r.loose fun _ h => h.elim
theorem hrel_none (w : World) : HRel noX w [] := ⟨by simp [owns], fun b hb => by simp [owns] at hb, fun b hb => hb.elim, fun r hr => by simp at hr⟩
theorem OO_none : OO [] noX = noX := by funext b; simp [OO, owns, noX]
/-- A call that touches nothing, whatever else there is, and whoever lends. -/
theorem FCall.lend {P : Program} {fv fv' : AV} {args args' : List AV} {h : List Res} {R : AV → Prop} (hc : FCall P fv' args' [] (fun r h' => h' = [] ∧ R r)) (hflat : ∀ r, R r → flat r = true)
    (hf : BLe h fv fv') (hle : BLes h args args') : FCall P fv args h (fun r h' => h' = h ∧ R r) := by
  intro X w v vs hh hv ha
  refine (hc noX w v vs (hrel_none w) (by rw [OO_none]; exact hf X w v hh hv) (by rw [OO_none]; exact hle.rels hh ha)).mono ?_
  rintro e w' ⟨u, av, h', e1, ⟨rfl, hR⟩, hrel, _, hk⟩
  have he : ∀ b, b < w.heap.size → w'.heap[b]? = w.heap[b]? := fun b hb => (hk.same b hb (by simp [owns])).1
  exact ⟨u, av, h, e1, ⟨rfl, hR⟩, hrel.flat (hflat _ hR), hh.grow hk.size he, .grow hk.size he hk.env⟩
/-- A call that touches nothing. -/
theorem FCall.pure {P : Program} {fv : AV} {args : List AV} {h : List Res} {R : AV → Prop} (hc : FCall P fv args [] (fun r h' => h' = [] ∧ R r)) : FCall P fv args h (fun r h' => h' = h ∧ R r) :=
  (hc.frame h).mono fun av h' ⟨h1', e, e2, hR⟩ => ⟨by rw [e, e2]; rfl, hR⟩
theorem FCall.le {P : Program} {fv : AV} {args args' : List AV} {h : List Res} {R : AV → List Res → Prop} (hc : FCall P fv args' h R) (hl : Les h args args') : FCall P fv args h R :=
  fun X w v vs hh hv ha => hc X w v vs hh hv (hl.rels hh ha)
section
variable {P : Program} {ro : Option Nat} {nt : Nat} {dst : Option Tmp} {ty : TypeId} {pos : String} {after : Array Edge} {guard : Option (Nat × Bool)} {x y : Operand} {t : Fr} {h h' : List Res} {ds : List Nat} {next : St → Prop}
theorem St.put_d (s : St) (d : Option Tmp) (av : AV) : (s.put d av).h = s.h := by cases d <;> rfl
theorem about_FW {o : Oper} {w : World} {ρ : Operand → Value} : ∀ f, o.about P w ρ = some f → (FW ro).fn f := fun _ _ => trivial
theorem depth_FW (ro : Option Nat) : (FW ro).depth.isSome = true → 1 ≤ 0 := by intro h; simp [FW, Fence.wide] at h
theorem run_call {ρ : Operand → Value} {args : List Operand} {tys : Array TypeId} {w : World} : (execOp ρ ⟨dst, .call ⟨.value x, args.toArray, tys⟩, ty, pos, after, guard⟩).run P w = (callV (ρ x) (args.map ρ).toArray).run P w := by
  simp only [execOp, resolve, callV, List.map_toArray]
theorem wpIn_call {f : FuncId} {args : List Operand} {tys : Array TypeId} {a : Act} {w : World} {K : Act → World → Prop} {Q : Exit → Act → World → Prop} {Post : Ending → World → Prop}
    (hok : NextOk P Post ((callV (a.eval x) (args.map a.eval).toArray).run P w)) (hk : ∀ e w', Post e w' → ∃ v, e = .returned v ∧ K (a.put dst v) w') :
    (⟨dst, .call ⟨.value x, args.toArray, tys⟩, ty, pos, after, guard⟩ : Oper).wpIn (FW ro) 0 P a w K Q := by
  refine ⟨about_true, ?_⟩
  rw [semAt_nd rfl, run_call]
  revert hok
  generalize (callV (a.eval x) (args.map a.eval).toArray).run P w = r
  intro hok
  cases r with
  | halt x w' => exact hok.elim
  | ok n w' =>
    cases n <;> first
      | exact hok.elim
      | (refine ⟨depth_FW ro, CallsIn.mono hok fun e w'' he => ?_⟩
         obtain ⟨v, rfl, hK⟩ := hk e w'' he
         exact hK)
      | (refine ⟨depth_FW ro, RoundIn.mono hok fun e w'' he => ?_⟩
         obtain ⟨v, rfl, hK⟩ := hk e w'' he
         exact hK)
/-- A call of a function value. -/
theorem oe_call {args : List Operand} {tys : Array TypeId} {fv : AV} {avs : List AV} {R : AV → List Res → Prop} (hx : ev t x = some fv) (ha : evs (ev t) args = some avs) (hc : FCall P fv avs h R) (hd : dok nt dst = true)
    (hk : ∀ av h', R av h' → next (St.put ⟨t, h', ds⟩ dst av)) : OE P ro nt ⟨dst, .call ⟨.value x, args.toArray, tys⟩, ty, pos, after, guard⟩ ⟨t, h, ds⟩ next := by
  intro X a w K Q hs hK
  refine wpIn_call (f := 0) (hc X w _ _ hs.heap (hs.env.rel x _ hx) (hs.env.evs ha)) ?_
  rintro e w' ⟨v, av, h', e1, hR, hrel, hh, hkeep⟩
  refine ⟨v, e1, ?_⟩
  have hsim : Sim X nt ⟨t, h', ds⟩ a w' := ⟨hh, hs.size, hs.fr.keep hkeep.size (fun b hb hl => hkeep.oo b hb hl), hs.defs⟩
  exact hK _ _ _ (hk av h' hR) (hsim.put hd hrel) (by rw [St.put_d]; exact hkeep)
/-- A quiet call. -/
theorem qv_call {args : List Operand} {tys : Array TypeId} {f : Operand → Option AV} {fv av : AV} {avs : List AV} (hx : f x = some fv) (ha : evs f args = some avs) (hc : FCall P fv avs h (fun r h' => h' = h ∧ r = av)) :
    QV P ro h f ⟨dst, .call ⟨.value x, args.toArray, tys⟩, ty, pos, after, guard⟩ av := by
  intro X a w K Q he hK
  refine wpIn_call (f := 0) (hc X w _ _ he.heap (he.rel x _ hx) (he.evs ha)) ?_
  rintro e w' ⟨v, av', h', e1, ⟨rfl, rfl⟩, hrel, hh, hkeep⟩
  exact ⟨v, e1, hK v w' hrel hh hkeep⟩
end
/-! Bodies. -/
def argFr (k : Nat) : List AV → Fr
  | [] => []
  | a :: aS => (k, a) :: argFr (k + 1) aS
theorem lk_argFr {aS : List AV} : ∀ {k i : Nat} {av : AV}, lk (argFr k aS) i = some av → ∃ j, i = k + j ∧ aS[j]? = some av := by
  induction aS with
  | nil => intro k i av h; simp [argFr, lk] at h
  | cons a aS ih =>
    intro k i av h
    simp only [argFr, lk] at h
    split at h
    · rename_i e
      have := Nat.eq_of_beq_eq_true e
      exact ⟨0, by omega, by simpa using h⟩
    · obtain ⟨j, e, e2⟩ := ih h
      exact ⟨j + 1, by omega, by simpa using e2⟩
inductive RV (P : Program) (t : Fr) (h : List Res) : ResultVar → AV → Prop where
  | tmp (i : Nat) (av : AV) : lk t i = some av → RV P t h (.tmp i) av
  | one (a b i : Nat) (T T' : TypeId) (av : AV) (cells : List AV) : lk t a = some (.v (.pointer (some ⟨b, 0, none⟩))) → HasBox h b i T' cells → IsA P T false → cells[0]? = some av → RV P t h (.cell a T) av
  | agg (a b i n : Nat) (T T' : TypeId) (cells : List AV) : lk t a = some (.v (.pointer (some ⟨b, 0, none⟩))) → HasBox h b i T' cells → IsA P T true → Siz P T n → cells.length = n → RV P t h (.cell a T) (.agg cells)
inductive RVs (P : Program) (t : Fr) (h : List Res) : List ResultVar → List AV → Prop where
  | nil : RVs P t h [] []
  | cons (r : ResultVar) (rs : List ResultVar) (a : AV) (aS : List AV) : RV P t h r a → RVs P t h rs aS → RVs P t h (r :: rs) (a :: aS)
def packAV : List AV → AV
  | [a] => a
  | aS => .tup aS
def rvSem (tmps : Array Value) : ResultVar → Sem Value
  | .tmp t => pure (tmps.getD t undef)
  | .cell a t => do loadVar t (← asAddr (tmps.getD a undef))
theorem run_rv {P : Program} {X : Nat → Prop} {t : Fr} {h : List Res} {tmps : Array Value} {w : World} {r : ResultVar} {av : AV} (hh : HRel X w h) (hf : FrRel w (OO h X) t tmps) (hr : RV P t h r av) :
    ∃ v, (rvSem tmps r).run P w = .ok v w ∧ Rel w (OO h X) av v := by
  cases hr with
  | tmp i av e =>
    obtain ⟨v, e1, r⟩ := hf i _ e
    exact ⟨v, by simp [rvSem, Array.getD_eq_getD_getElem?, e1], r⟩
  | one a b i T T' av cells e hb hu hc =>
    obtain ⟨v, e1, r⟩ := hf a _ e
    obtain ⟨c, h1, h2, h3⟩ := box_cells hh hb.h
    obtain ⟨hlt, hcv⟩ := List.getElem?_eq_some_iff.1 hc
    refine ⟨c[0]'(by omega), ?_, ?_⟩
    · rw [r.v_eq] at e1
      simp only [rvSem, Array.getD_eq_getD_getElem?, e1, Option.getD_some, asAddr, Sem.run_bind, Sem.run_pure, Result.andThen_ok]
      exact run_loadVar_one (by simp [World.cell?, h1, show 0 < c.size by omega])
    · have := h3 0 hlt (by omega); rw [hcv] at this; exact this
  | agg a b i n T T' cells e hb hu hs hl =>
    obtain ⟨v, e1, r⟩ := hf a _ e
    obtain ⟨c, h1, h2, h3⟩ := box_cells hh hb.h
    refine ⟨.agg ((List.range n).map fun j => c[0 + j]?.getD undef).toArray, ?_, .agg _ _ (by simp; omega) fun j a b' => ?_⟩
    · rw [r.v_eq] at e1
      simp only [rvSem, Array.getD_eq_getD_getElem?, e1, Option.getD_some, asAddr, Sem.run_bind, Sem.run_pure, Result.andThen_ok]
      refine run_loadVar_agg (n := n) _ fun j hj => ?_
      have : 0 + j < c.size := by omega
      simp only [World.cell?, h1]; simp [show j < c.size by omega]
    · have := h3 j (by omega) (by omega)
      simpa [show j < c.size by omega] using this
theorem run_rvs {P : Program} {X : Nat → Prop} {t : Fr} {h : List Res} {tmps : Array Value} {w : World} (hh : HRel X w h) (hf : FrRel w (OO h X) t tmps) : ∀ {rs : List ResultVar} {aS : List AV}, RVs P t h rs aS →
    ∃ vs : List Value, (rs.mapM (rvSem tmps)).run P w = .ok vs w ∧ Rels w (OO h X) aS vs := by
  intro rs aS hr
  induction hr with
  | nil => exact ⟨[], rfl, trivial⟩
  | cons r rs a aS h1 h2 ih =>
    obtain ⟨v, e, r1⟩ := run_rv hh hf h1
    obtain ⟨vs, e2, r2⟩ := ih
    refine ⟨v :: vs, ?_, r1, r2⟩
    rw [List.mapM_cons, Sem.run_bind, e, Result.andThen_ok, Sem.run_bind, e2, Result.andThen_ok, Sem.run_pure]
theorem run_results {P : Program} {X : Nat → Prop} {t : Fr} {h : List Res} {tmps : Array Value} {w : World} {fn : Func} {aS : List AV} (hh : HRel X w h) (hf : FrRel w (OO h X) t tmps) (hr : RVs P t h fn.results.toList aS) :
    ∃ v, (results fn tmps).run P w = .ok v w ∧ Rel w (OO h X) (packAV aS) v := by
  obtain ⟨vs, e, r⟩ := run_rvs hh hf hr
  have e' : (fn.results.mapM (rvSem tmps)).run P w = .ok vs.toArray w := by
    rw [Array.mapM_eq_mapM_toList, Sem.run_map, e]; rfl
  have hrun : (results fn tmps).run P w = .ok (if h : vs.toArray.size = 1 then vs.toArray[0] else .tuple vs.toArray) w := by
    change (Sem.bind (fn.results.mapM (rvSem tmps)) _).run P w = _
    have hb := Sem.run_bind (P := P) (w := w) (fn.results.mapM (rvSem tmps)) (fun vs => (pure (if h : vs.size = 1 then vs[0] else .tuple vs) : Sem Value))
    rw [e', Result.andThen_ok] at hb
    exact hb
  refine ⟨_, hrun, ?_⟩
  have hl := r.length
  match aS, vs, r, hl with
  | [], [], _, _ => exact .tup _ _ rfl (fun j h => absurd h (Nat.not_lt_zero j))
  | [a], [v], r, _ => exact r.1
  | a :: b :: aS, v :: u :: vs, r, hl =>
    simp only [packAV]
    rw [dif_neg (by simp)]
    exact .tup _ _ (by simpa using hl) fun j a b => by simpa using r.get j a (by simpa using b)
/-- What a result may be known for, when resources are given up. -/
def VEnt (h : List Res) (a : AV) (h' : List Res) (b : AV) : Prop :=
  (∀ x ∈ owns h', x ∈ owns h) ∧ ∀ X w v, HRel X w h → Rel w (OO h X) a v → HRel X w h' ∧ Rel w (OO h' X) b v
theorem VEnt.refl (h : List Res) (a : AV) : VEnt h a h a := ⟨fun _ h => h, fun _ _ _ h1 h2 => ⟨h1, h2⟩⟩
theorem VEnt.trans {h1 h2 h3 : List Res} {a b c : AV} (p : VEnt h1 a h2 b) (q : VEnt h2 b h3 c) : VEnt h1 a h3 c :=
  ⟨fun x hx => p.1 x (q.1 x hx), fun X w v hh hr => let ⟨a, b⟩ := p.2 X w v hh hr; q.2 X w v a b⟩
theorem VEnt.drop (h1 h2 : List Res) (a : AV) : VEnt (h1 ++ h2) a h2 a :=
  ⟨fun x hx => by rw [owns_append]; exact List.mem_append_right _ hx, fun X w v hh hr => ⟨hh.drop, hr.keep (Nat.le_refl _) (OO_drop w)⟩⟩
theorem VEnt.le {h : List Res} {a b : AV} (l : Le h a b) : VEnt h a h b := ⟨fun _ h => h, fun X w v hh hr => ⟨hh, l X w v hh hr⟩⟩
theorem VEnt.drop1 (r : Res) (h : List Res) (a : AV) : VEnt (r :: h) a h a := VEnt.drop [r] h a
theorem VEnt.perm {h h' : List Res} (p : h.Perm h') (a : AV) : VEnt h a h' a :=
  ⟨fun x hx => (owns_perm p).mem_iff.2 hx, fun X w v hh hr => ⟨hh.perm p, by rw [← OO_perm p]; exact hr⟩⟩
def RetQ (P : Program) (rs : List ResultVar) (R : AV → List Res → Prop) (e : Exit) (s : St) : Prop :=
  (e = .ret ∨ e = .normal) ∧ ∃ h1, s.h.Perm (s.d.map .defs ++ h1) ∧ ∃ aS av h', RVs P s.t h1 rs aS ∧ VEnt h1 (packAV aS) h' av ∧ R av h'
theorem HRel.take_defs {P : Program} {X : Nat → Prop} {w : World} {r : Nat} {h : List Res} (hh : HRel X w (.defs r :: h)) :
    HRel X { w with heap := w.heap.setIfInBounds r (.deferred none) } h ∧ Keep (owns (.defs r :: h)) w (owns h) { w with heap := w.heap.setIfInBounds r (.deferred none) } ∧
      (Instr.takeDeferred r).run P w = .ok [] { w with heap := w.heap.setIfInBounds r (.deferred none) } := by
  have h1 : w.heap[r]? = some (.deferred (some [])) := hh.holds (.defs r) (by simp)
  have hd : HRel X w h := HRel.drop (h := [.defs r]) hh
  have hnr : r ∉ owns h := by
    have := hh.nodup; rw [owns_cons] at this; simp only [Res.own, List.singleton_append, List.nodup_cons] at this; exact this.1
  have hoth : ∀ b, b ≠ r → (w.heap.setIfInBounds r (.deferred none))[b]? = w.heap[b]? := fun b hb => by rw [Array.getElem?_setIfInBounds_ne (Ne.symm hb)]
  have hO : ∀ b, ¬ OO (.defs r :: h) X b → b ≠ r := fun b hb e => hb (.inl (by rw [owns_cons, e]; simp [Res.own]))
  refine ⟨⟨hd.nodup, fun b hb => by simpa using hd.lt b hb, fun b hb => by simpa using hd.xlt b hb, fun x hx => ?_⟩, ⟨by simp, fun b hb ho => ?_, rfl, rfl⟩, ?_⟩
  · refine Res.holds_keep (by simp) (fun b hb _ => ⟨hoth b (hO b hb), fun hm => hb (hm.imp (fun h => by rw [owns_cons]; exact List.mem_append_right _ h) id)⟩) (fun b hb => hoth b fun e => ?_) (hh.holds x (List.mem_cons_of_mem _ hx))
    exact hnr (e ▸ mem_owns.2 ⟨x, hx, hb⟩)
  · rw [owns_cons] at ho
    simp only [Res.own, List.singleton_append, List.mem_cons, not_or] at ho
    exact ⟨hoth b ho.1, ho.2⟩
  · simp only [Instr.takeDeferred, Sem.run_bind]
    have g : (getObj r).run P w = .ok (.deferred (some [])) w := by simp only [getObj, Sem.run, h1]
    have g2 : (setObj r (.deferred none)).run P w = .ok () { w with heap := w.heap.setIfInBounds r (.deferred none) } := by simp only [setObj, Sem.run, h1]
    simp only [g, Result.andThen_ok, Sem.run_bind, g2, Sem.run_pure]
theorem leaves_marks {P : Program} {X : Nat → Prop} {fn : Func} {tmps : Array Value} {t : Fr} {aS : List AV} {R : Ending → World → Prop} : ∀ (d : List Nat) (w : World) (h1 : List Res), HRel X w (d.map .defs ++ h1) →
    FrRel w (OO (d.map .defs ++ h1) X) t tmps → RVs P t h1 fn.results.toList aS →
    (∀ v w', HRel X w' h1 → Rel w' (OO h1 X) (packAV aS) v → Keep (owns (d.map .defs ++ h1)) w (owns h1) w' → R (.returned v) w') → LeavesInM (FW none) 0 P fn tmps R (d.map markOf) .returning w
  | [], w, h1, hh, hf, hr, hk => by
    obtain ⟨v, e, r⟩ := run_results hh hf hr
    exact ⟨v, e, hk v w hh r (.refl _ _)⟩
  | x :: d, w, h1, hh, hf, hr, hk => by
    obtain ⟨a, b, c⟩ := HRel.take_defs (P := P) hh
    refine ⟨by simp, .inl ⟨x, _, rfl, c, leaves_marks d _ h1 a (hf.keep b.size fun y hy hl => b.oo y hy hl) hr fun v w' g1 g2 g3 => hk v w' g1 g2 (b.trans g3)⟩⟩
/-- A function's contract out of its body. -/
theorem acall_of_aw {P : Program} {f nt : Nat} {fn : Func} {c : Code} {args : List AV} {h : List Res} {R : AV → List Res → Prop} (hf : P.funcs[f]? = some fn) (hb : fn.body = some c) (hnt : fn.ntmps = nt) (hle : Nat.ble args.length nt = true)
    (hw : aw P none nt c (RetQ P fn.results.toList R) ⟨argFr 0 args, h, []⟩) : ACall P f args h R := by
  intro X w vs hh ha
  have hl : args.length = vs.length := ha.length
  have hle' : args.length ≤ nt := Nat.le_of_ble_eq_true hle
  refine callsIn_of_wp_marks hf hb trivial (wpIn_mono (hw X _ w ⟨hh, ?_, ?_, rfl⟩) ?_)
  · simp; omega
  · intro i av hi
    obtain ⟨j, e, e2⟩ := lk_argFr hi
    have : i = j := by omega
    subst this
    obtain ⟨hlt, e3⟩ := List.getElem?_eq_some_iff.1 e2
    refine ⟨vs[i]'(by omega), ?_, ?_⟩
    · rw [Array.getElem?_append_left (by simp; omega)]; simp [show i < vs.length by omega]
    · have := ha.get i hlt (by omega); rw [e3] at this; exact this
  · rintro e a' w' ⟨s', ⟨he, h1, hp, aS, av, h', hr, hv, hR⟩, hs, hk⟩
    have key : LeavesInM (FW none) 0 P fn a'.tmps (CPost X w h R) a'.defers .returning w' := by
      rw [hs.defs]
      refine leaves_marks s'.d w' h1 (hs.heap.perm hp) (by rw [← OO_perm hp]; exact hs.fr) hr fun v w'' g1 g2 g3 => ?_
      obtain ⟨k1, k2⟩ := hv.2 X w'' v g1 g2
      refine ⟨v, av, h', rfl, hR, k2, k1, ?_⟩
      have g4 := hk.trans (g3.perm_left hp.symm)
      exact ⟨g4.size, fun b hb ho => ⟨(g4.same b hb ho).1, fun hm => (g4.same b hb ho).2 (hv.1 b hm)⟩, g4.env⟩
    rcases he with rfl | rfl <;> exact key
end Go.Ab
/- An argument read aS data: what its cells hold, aS abstract values. Conditions: none. -/
set_option linter.unusedVariables false
namespace Go.Ab
open Go
def RelL (w : World) (O : Nat → Prop) (aS : List AV) (cs : List Value) : Prop :=
  aS.length = cs.length ∧ ∀ j (h1 : j < aS.length) (h2 : j < cs.length), Rel w O aS[j] cs[j]
theorem RelL.app {w : World} {O : Nat → Prop} {aS bs : List AV} {cs ds : List Value} (h : RelL w O aS cs) (k : RelL w O bs ds) : RelL w O (aS ++ bs) (cs ++ ds) := by
  have e := h.1
  refine ⟨by simp [h.1, k.1], fun j h1 h2 => ?_⟩
  by_cases hj : j < aS.length
  · rw [List.getElem_append_left hj, List.getElem_append_left (h.1 ▸ hj)]; exact h.2 j _ _
  · rw [List.getElem_append_right (by omega), List.getElem_append_right (by omega)]
    simp only [e]
    simp at h1
    exact k.2 _ (by omega) (by rw [← k.1]; omega)
theorem RelL.one {w : World} {O : Nat → Prop} {a : AV} {v : Value} (h : Rel w O a v) : RelL w O [a] [v] :=
  ⟨rfl, fun j h1 h2 => by simp at h1; subst h1; exact h⟩
theorem list_of {α : Type} {Q : Nat → α → Prop} : ∀ n, (∀ i, i < n → ∃ x, Q i x) → ∃ l : List α, l.length = n ∧ ∀ i (hi : i < l.length), Q i l[i]
  | 0, _ => ⟨[], rfl, fun i hi => by simp at hi⟩
  | n + 1, h => by
    obtain ⟨l, hl, hq⟩ := list_of n fun i hi => h i (by omega)
    obtain ⟨x, hx⟩ := h n (by omega)
    refine ⟨l ++ [x], by simp [hl], fun i hi => ?_⟩
    by_cases h' : i < l.length
    · rw [List.getElem_append_left h']; exact hq i h'
    · simp at hi
      have : i = n := by omega
      subst this
      rw [List.getElem_append_right (by omega)]
      simpa [hl] using hx
theorem weightsAll_mem' {H : Type} {P : Program} {e : TypeId} : ∀ {l : List (DataW H)} {d : DataW H}, d ∈ l → ∀ n ∈ d.weights P e, n ∈ DataW.weightsAll P e l
  | x :: l, d, hm, n, hn => by
    rw [DataW.weightsAll, List.mem_append]
    rcases List.mem_cons.1 hm with rfl | hm
    · exact .inl hn
    · exact .inr (weightsAll_mem' hm n hn)
theorem cells_at {w : World} {a : Addr} {n : Nat} {cs : List Value} (h : w.cells? 0 a n = some cs) : cs.length = n ∧ ∀ j (hj : j < cs.length), w.cell? (a.add j) = some cs[j] := by
  unfold World.cells? at h
  rw [if_pos (Nat.zero_le _)] at h
  have hl := mapM_some_length h
  simp at hl
  exact ⟨hl, fun j hj => by have := mapM_some_get h j j (List.getElem?_range (by omega)); rw [List.getElem?_eq_getElem hj] at this; exact this⟩
section
variable {H : Type} {enc : TypeId × Value → H} {P : Program} {w : World} {t : TypeId} {α β : Type}
/-- What a value of the type holds, wherever it reads. -/
def Reads (enc : TypeId × Value → H) (P : Program) (w : World) (t : TypeId) (R : α → List AV) (B : α → Prop) : Prop :=
  ∀ (fuel : Nat) (cs : List Value) (y : DataW H × List MemPlace), DataW.trod enc P w 0 (fun _ => true) true fuel t cs = some y → (∀ n ∈ y.1.weights P t, n ≤ reachBytes) → ∃ x, B x ∧ RelL w noX (R x) cs
theorem Reads.int {k : IntKind} (ht : P.underlying t = some (.int k)) : Reads enc P w t (fun n : Int => [.v (.int k n)]) (fun _ => True) := by
  intro fuel cs y h _
  obtain ⟨n, rfl, _, _⟩ := DataW.trod_int ht h
  exact ⟨n, trivial, .one (.v _)⟩
theorem Reads.bool (ht : P.underlying t = some .bool) : Reads enc P w t (fun b : Bool => [.v (.bool b)]) (fun _ => True) := by
  intro fuel cs y h _
  obtain ⟨n, rfl, _⟩ := DataW.trod_bool ht h
  exact ⟨n, trivial, .one (.v _)⟩
theorem Reads.string (ht : P.underlying t = some .string) : Reads enc P w t (fun s : ByteArray => [.v (.string s)]) (fun _ => True) := by
  intro fuel cs y h _
  obtain ⟨n, rfl, _, _⟩ := DataW.trod_string ht h
  exact ⟨n, trivial, .one (.v _)⟩
theorem Reads.map (f : α → β) {R : α → List AV} {R' : β → List AV} {B : α → Prop} {B' : β → Prop} (h : Reads enc P w t R B) (hR : ∀ x, R' (f x) = R x) (hB : ∀ x, B x → B' (f x)) : Reads enc P w t R' B' :=
  fun fuel cs y e k => let ⟨x, b, r⟩ := h fuel cs y e k; ⟨f x, hB x b, by rw [hR]; exact r⟩
theorem Reads.slice {e : TypeId} {k : Nat} {R : α → List AV} {B : α → Prop} (ht : P.underlying t = some (.slice e)) (he : Reads enc P w e R B) (hc : P.cellsOf e = k) (hk : 0 < k) (hb : 0 < P.bytesOf e) :
    Reads enc P w t (fun l : List α => [.list false k (l.map R)]) (fun l => l.length ≤ reachBytes ∧ ∀ x ∈ l, B x) := by
  intro fuel cs y h hw
  rcases DataW.trod_slice ht h with ⟨rfl, rfl⟩ | ⟨a, len, cap, elems, rest, n, rfl, rfl, rfl, hba, hlc, hcm, hel, hE, hS, _⟩
  · exact ⟨[], ⟨by simp, by simp⟩, .one (.lnil _ _ _ _ (by simp))⟩
  · simp only [DataW.weights, ht] at hw
    have hlen : len ≤ reachBytes := by
      have h1 := hw _ (List.mem_cons_self)
      simp only [List.length_map, hel] at h1
      have h2 : len * 1 ≤ (len + rest.length) * P.bytesOf e := Nat.mul_le_mul (by omega) hb
      omega
    have hx : ∀ i, i < len → ∃ x, B x ∧ ∃ cs', w.cells? 0 (a.add (i * k)) k = some cs' ∧ RelL w noX (R x) cs' := fun i hi => by
      have h1 := hE i hi
      rw [hc, List.getElem?_eq_getElem (by omega)] at h1
      obtain ⟨cs', h2, h3⟩ := Option.bind_eq_some_iff.1 h1
      obtain ⟨x, hB, hR⟩ := he n cs' _ h3 fun m hm => hw m (List.mem_cons_of_mem _ (List.mem_append_left _ (weightsAll_mem' (List.mem_map.2 ⟨_, List.getElem_mem (by omega), rfl⟩) m hm)))
      exact ⟨x, hB, cs', h2, hR⟩
    obtain ⟨l, hl, hq⟩ := list_of len hx
    refine ⟨l, ⟨by omega, fun x hx => ?_⟩, .one ?_⟩
    · obtain ⟨i, hi, rfl⟩ := List.getElem_of_mem hx
      exact (hq i hi).1
    · cases l with
      | nil => simp at hl; subst hl; exact .lnil _ _ _ _ (by simp)
      | cons x0 l0 =>
        have hfact : ∀ i (hi : i < (x0 :: l0).length) j, j < k → ∃ v, w.cell? ((a.add (i * k)).add j) = some v ∧ ∃ hj : j < (R (x0 :: l0)[i]).length, Rel w noX (R (x0 :: l0)[i])[j] v := fun i hi j hj => by
          obtain ⟨_, cs', g1, g2⟩ := hq i hi
          obtain ⟨g3, g4⟩ := cells_at g1
          have e2 := g2.1
          exact ⟨_, g4 j (by omega), by omega, g2.2 j (by omega) (by omega)⟩
        obtain ⟨v0, c0, _⟩ := hfact 0 (by simp) 0 hk
        have hsp : a.spot = none := World.cell?_spot (by simpa [Addr.add] using c0)
        obtain ⟨b, off, sp⟩ := a
        simp only at hsp; subst hsp
        have hadd : ∀ i j, ((⟨b, off, none⟩ : Addr).add (i * k)).add j = ⟨b, off + i * k + j, none⟩ := fun i j => by
          unfold Addr.add
          split <;> split <;> simp_all
        have hblt : b < w.heap.size := by
          have c1 := c0
          rw [hadd] at c1
          unfold World.cell? at c1
          split at c1
          · rename_i hh; exact (Array.getElem?_eq_some_iff.1 hh).1
          · cases c1
        have hlen2 : ((x0 :: l0).map R).length = len := by rw [List.length_map]; exact hl
        rw [← hlen2]
        refine .list false k _ b off cap (fun i j => (w.cell? ⟨b, off + i * k + j, none⟩).getD undef) (by simp) (by omega) (fun h => h) hblt (fun i hi => ?_) (fun i hi j hj => ?_) fun i hi j hj => ?_
        · have hi' : i < (x0 :: l0).length := by simpa using hi
          obtain ⟨_, cs', g1, g2⟩ := hq i hi'
          have := (cells_at g1).1
          have e2 := g2.1
          rw [List.getElem_map]; omega
        · have hi' : i < (x0 :: l0).length := by simpa using hi
          rw [List.getElem_map] at hj
          obtain ⟨_, cs', g1, g2⟩ := hq i hi'
          have g3 := (cells_at g1).1
          have e2 := g2.1
          obtain ⟨v, c1, _⟩ := hfact i hi' j (by omega)
          rw [hadd] at c1
          simp [c1]
        · have hi' : i < (x0 :: l0).length := by simpa using hi
          have hj' := hj
          rw [List.getElem_map] at hj'
          obtain ⟨_, cs', g1, g2⟩ := hq i hi'
          have g3 := (cells_at g1).1
          have e2 := g2.1
          obtain ⟨v, c1, hj2, r⟩ := hfact i hi' j (by omega)
          rw [hadd] at c1
          simp only [List.getElem_map, c1, Option.getD_some]
          exact r
/-- A struct's fields, read one by one. -/
def FieldsAt (enc : TypeId × Value → H) (P : Program) (w : World) (n : Nat) (cs : List Value) : List (Nat × TypeId) → List (DataW H × List MemPlace) → Prop
  | [], [] => True
  | f :: fs, y :: ys => DataW.trod enc P w 0 (fun _ => true) true n f.2 ((cs.drop f.1).take (P.cellsOf f.2)) = some y ∧ FieldsAt enc P w n cs fs ys
  | _, _ => False
theorem fieldsAt_of {n : Nat} {cs : List Value} : ∀ (l : List Field) (xs : List (DataW H × List MemPlace)), xs.length = l.length →
    (∀ (i : Nat) (f : Field), l[i]? = some f → DataW.trod enc P w 0 (fun _ => true) true n f.type ((cs.drop f.offset).take (P.cellsOf f.type)) = xs[i]?) → FieldsAt enc P w n cs (l.map fun f => (f.offset, f.type)) xs
  | [], [], _, _ => trivial
  | [], _ :: _, h, _ => by simp at h
  | _ :: _, [], h, _ => by simp at h
  | f :: l, x :: xs, h, k => ⟨k 0 f rfl, fieldsAt_of l xs (by simpa using h) fun i g e => k (i + 1) g (by simpa using e)⟩
def ReadsF (enc : TypeId × Value → H) (P : Program) (w : World) (tot off : Nat) (fs : List (Nat × TypeId)) (R : α → List AV) (B : α → Prop) : Prop :=
  ∀ n cs xs, cs.length = tot → FieldsAt enc P w n cs fs xs → (∀ m ∈ DataW.weightsEach P (fs.map (·.2)) (xs.map (·.1)), m ≤ reachBytes) → ∃ x, B x ∧ RelL w noX (R x) (cs.drop off)
theorem ReadsF.nil (tot : Nat) : ReadsF enc P w tot tot [] (fun _ : Unit => []) (fun _ => True) := fun n cs xs hl _ _ =>
  ⟨(), trivial, by simp [hl], fun j h1 _ => by simp at h1⟩
theorem ReadsF.cons {tot off s : Nat} {fs : List (Nat × TypeId)} {R1 : α → List AV} {B1 : α → Prop} {R2 : β → List AV} {B2 : β → Prop} (h1 : Reads enc P w t R1 B1) (hc : P.cellsOf t = s) (h2 : ReadsF enc P w tot (off + s) fs R2 B2) :
    ReadsF enc P w tot off ((off, t) :: fs) (fun x : α × β => R1 x.1 ++ R2 x.2) (fun x => B1 x.1 ∧ B2 x.2) := by
  intro n cs xs hl hf hw
  cases xs with
  | nil => exact hf.elim
  | cons y ys =>
    obtain ⟨f1, f2⟩ := hf
    simp only [List.map_cons, DataW.weightsEach] at hw
    obtain ⟨x1, b1, r1⟩ := h1 n _ y f1 fun m hm => hw m (List.mem_append_left _ hm)
    obtain ⟨x2, b2, r2⟩ := h2 n cs ys hl f2 fun m hm => hw m (List.mem_append_right _ hm)
    refine ⟨(x1, x2), ⟨b1, b2⟩, ?_⟩
    simp only [hc] at r1
    have := r1.app r2
    rwa [← List.drop_drop, List.take_append_drop] at this
theorem Reads.struct {fs : Array Field} {l : List (Nat × TypeId)} {tot : Nat} {R : α → List AV} {B : α → Prop} (ht : P.underlying t = some (.struct fs)) (hf : (fs.toList.map fun f => (f.offset, f.type)) = l) (hc : P.cellsOf t = tot) (h : ReadsF enc P w tot 0 l R B) : Reads enc P w t R B := by
  intro fuel cs y hy hw
  obtain ⟨xs, n, rfl, rfl, hl, hxl, hall⟩ := DataW.trod_struct ht hy
  obtain ⟨x, b, r⟩ := h n cs xs (by omega) (hf ▸ fieldsAt_of fs.toList xs (by simpa using hxl) fun i f e => hall i f (by simpa using e)) (by
    have := hw
    simp only [DataW.weights, ht] at this
    rw [← hf, List.map_map]
    exact this)
  exact ⟨x, b, by simpa using r⟩
end
end Go.Ab
/- The abstract logic, part 7: the rules in the form in which scripts use them. Conditions: none (lemmas over any program). -/
set_option linter.unusedVariables false
set_option linter.unusedSimpArgs false
namespace Go.Ab
open Go
section
variable {P : Program} {ro : Option Nat} {nt : Nat} {ops : Array Oper} {rest : List Oper} {Q : Exit → St → Prop} {t : Fr} {h : List Res} {ds : List Nat} {s : St}
  {d : Tmp} {op : Op} {ty : TypeId} {pos : String} {after : Array Edge} {g : Option (Nat × Bool)} {av : AV} {next : St → Prop}
theorem qq (hg : gd ops t ⟨some d, op, ty, pos, after, g⟩ = some true) (hd : Nat.blt d nt = true) (hq : QR P h (ev t) ⟨some d, op, ty, pos, after, g⟩ av) (hk : aops P ro nt ops rest Q ⟨(d, av) :: t, h, ds⟩)
    (hn : notDefer ⟨some d, op, ty, pos, after, g⟩ = true := by rfl) : aops P ro nt ops (⟨some d, op, ty, pos, after, g⟩ :: rest) Q ⟨t, h, ds⟩ :=
  aops_q hg hd (qv_of_qr hq hn) hk
theorem qv (hg : gd ops t ⟨some d, op, ty, pos, after, g⟩ = some true) (hd : Nat.blt d nt = true) (hq : QV P ro h (ev t) ⟨some d, op, ty, pos, after, g⟩ av) (hk : aops P ro nt ops rest Q ⟨(d, av) :: t, h, ds⟩) :
    aops P ro nt ops (⟨some d, op, ty, pos, after, g⟩ :: rest) Q ⟨t, h, ds⟩ := aops_q hg hd hq hk
/-- Passed over. -/
theorem qs (hg : gd ops t ⟨some d, op, ty, pos, after, g⟩ = some false) (hd : Nat.blt d nt = true) (hk : aops P ro nt ops rest Q ⟨(d, .v (.tuple #[])) :: t, h, ds⟩) :
    aops P ro nt ops (⟨some d, op, ty, pos, after, g⟩ :: rest) Q ⟨t, h, ds⟩ := aops_s hg hd hk
theorem qs0 (hg : gd ops t ⟨none, op, ty, pos, after, g⟩ = some false) (hk : aops P ro nt ops rest Q ⟨t, h, ds⟩) : aops P ro nt ops (⟨none, op, ty, pos, after, g⟩ :: rest) Q ⟨t, h, ds⟩ := aops_s hg rfl hk
theorem thn_n (h : next s) : thn next Q .normal s := h
theorem thn_e {id : Nat} (h : Q (.exit id) s) : thn next Q (.exit id) s := h
theorem thn_r (h : Q .ret s) : thn next Q .ret s := h
theorem inBlk_n {id : Nat} (h : Q .normal s) : inBlk id Q .normal s := h
theorem inBlk_r {id : Nat} (h : Q .ret s) : inBlk id Q .ret s := h
theorem inBlk_hit {id : Nat} (h : Q .normal s) : inBlk id Q (.exit id) s := by simp [inBlk, h]
theorem inBlk_miss {id id' : Nat} (hne : Nat.beq id' id = false) (h : Q (.exit id') s) : inBlk id Q (.exit id') s := by
  have : id' ≠ id := Nat.ne_of_beq_eq_false hne
  simp [inBlk, this, h]
/-- A frame of which less is known. -/
inductive SubF (t : Fr) : Fr → Prop where
  | nil : SubF t []
  | cons (i : Nat) (a : AV) (r : Fr) : lk t i = some a → SubF t r → SubF t ((i, a) :: r)
theorem SubF.rel {w : World} {O : Nat → Prop} {t t' : Fr} {tmps : Array Value} (hs : SubF t t') (hf : FrRel w O t tmps) : FrRel w O t' tmps := by
  induction hs with
  | nil => intro i av h; simp [lk] at h
  | cons j a r h1 _ ih =>
    intro i av hi
    simp only [lk] at hi
    split at hi
    · rename_i e
      have := Nat.eq_of_beq_eq_true e
      subst this; cases hi
      exact hf _ _ h1
    · exact ih i av hi
theorem ent_sub {t' : Fr} (hs : SubF t t') : Ent nt ⟨t, h, ds⟩ ⟨t', h, ds⟩ :=
  ⟨fun _ h => h, fun X a w hsim => ⟨hsim.heap, hsim.size, hs.rel hsim.fr, hsim.defs⟩⟩
theorem ent_trans {s1 s2 s3 : St} (a : Ent nt s1 s2) (b : Ent nt s2 s3) : Ent nt s1 s3 := ⟨fun x h => a.1 x (b.1 x h), fun X ac w hs => b.2 X ac w (a.2 X ac w hs)⟩
theorem ent_drop {h1 h2 : List Res} : Ent nt ⟨t, h1 ++ h2, ds⟩ ⟨t, h2, ds⟩ :=
  ⟨fun x hx => by rw [owns_append]; exact List.mem_append_right _ hx, fun X a w hs => ⟨hs.heap.drop, hs.size, hs.fr.keep (Nat.le_refl _) (OO_drop w), hs.defs⟩⟩
theorem ent_drop1 {r : Res} : Ent nt ⟨t, r :: h, ds⟩ ⟨t, h, ds⟩ := ent_drop (h1 := [r])
theorem ent_perm {h' : List Res} (p : h.Perm h') : Ent nt ⟨t, h, ds⟩ ⟨t, h', ds⟩ :=
  ⟨fun x hx => (owns_perm p).mem_iff.2 hx, fun X a w hs => ⟨hs.heap.perm p, hs.size, by rw [← OO_perm p]; exact hs.fr, hs.defs⟩⟩
/-- A loop: what holds at every round's head is given aS a state for each value of a Lean type, where a property holds. -/
theorem aw_loop' {σ : Type} {c : Code} (p : σ → Prop) (inv : σ → St) (μ : σ → Nat) (x0 : σ) (hp : p x0) (h0 : Ent nt ⟨t, h, ds⟩ (inv x0))
    (round : ∀ x, p x → aw P ro nt c (thn (fun s' => ∃ x', p x' ∧ Ent nt s' (inv x') ∧ μ x' < μ x) Q) (inv x)) : aw P ro nt (.loop c) Q ⟨t, h, ds⟩ :=
  aw_loop (fun x s => p x ∧ Ent nt s (inv x)) μ x0 ⟨hp, h0⟩ fun x s ⟨h1, h2⟩ => aw_ent h2 (aw_mono (fun e s' hq => by
    cases e with
    | normal => exact let ⟨x', a, b, c⟩ := hq; ⟨x', ⟨a, b⟩, c⟩
    | _ => exact hq) (round x h1))
theorem retq {rs : List ResultVar} {R : AV → List Res → Prop} {aS : List AV} {av' : AV} {h' : List Res} (hr : RVs P t h rs aS) (hv : VEnt h (packAV aS) h' av') (hR : R av' h') : RetQ P rs R .ret ⟨t, h, []⟩ :=
  ⟨.inl rfl, h, .refl _, aS, av', h', hr, hv, hR⟩
theorem retq_n {rs : List ResultVar} {R : AV → List Res → Prop} {aS : List AV} {av' : AV} {h' : List Res} (hr : RVs P t h rs aS) (hv : VEnt h (packAV aS) h' av') (hR : R av' h') : RetQ P rs R .normal ⟨t, h, []⟩ :=
  ⟨.inr rfl, h, .refl _, aS, av', h', hr, hv, hR⟩
end
end Go.Ab
/- The abstract logic, part 8: aggregates and slices that are made; append. Conditions: none (lemmas over any program). -/
set_option linter.unusedVariables false
set_option linter.unusedSimpArgs false
namespace Go.Ab
open Go
theorem rel_splice {w w' : World} {O : Nat → Prop} {cells cs : List AV} {c c' vs : Array Value} {off : Nat}
    (hk : ∀ av v, Rel w O av v → Rel w' O av v)
    (hl : cells.length = c.size) (hr : ∀ j (h1 : j < cells.length) (h2 : j < c.size), Rel w O cells[j] c[j]) (hl2 : cs.length = vs.size) (hr2 : ∀ j (h1 : j < cs.length) (h2 : j < vs.size), Rel w O cs[j] vs[j])
    (hle : off + cs.length ≤ cells.length) (hcs : c'.size = c.size) (hc' : ∀ k, c'[k]? = if off ≤ k ∧ k < off + vs.size then vs[k - off]? else c[k]?) :
    (cells.take off ++ cs ++ cells.drop (off + cs.length)).length = c'.size ∧
      ∀ j (h1 : j < (cells.take off ++ cs ++ cells.drop (off + cs.length)).length) (h2 : j < c'.size), Rel w' O (cells.take off ++ cs ++ cells.drop (off + cs.length))[j] c'[j] := by
  refine ⟨by simp; omega, fun j h1 h2 => ?_⟩
  have h3 := hc' j
  rw [Array.getElem?_eq_getElem h2] at h3
  by_cases hj : j < off
  · rw [if_neg (by omega), Array.getElem?_eq_getElem (by omega), Option.some.injEq] at h3
    have e : (cells.take off ++ cs ++ cells.drop (off + cs.length))[j] = cells[j]'(by omega) := by
      rw [List.getElem_append_left (by simp; omega), List.getElem_append_left (by simp; omega)]; simp
    rw [e, h3]; exact hk _ _ (hr j (by omega) (by omega))
  · by_cases hj2 : j < off + cs.length
    · rw [if_pos (by omega)] at h3
      have h4 : j - off < vs.size := by omega
      rw [Array.getElem?_eq_getElem h4, Option.some.injEq] at h3
      have e : (cells.take off ++ cs ++ cells.drop (off + cs.length))[j] = cs[j - off]'(by omega) := by
        rw [List.getElem_append_left (by simp; omega), List.getElem_append_right (by simp; omega)]; simp [Nat.min_eq_left (show off ≤ cells.length by omega)]
      rw [e, h3]; exact hk _ _ (hr2 (j - off) (by omega) h4)
    · rw [if_neg (by omega), Array.getElem?_eq_getElem (by omega), Option.some.injEq] at h3
      have e : (cells.take off ++ cs ++ cells.drop (off + cs.length))[j] = cells[j]'(by omega) := by
        rw [List.getElem_append_right (by simp; omega), List.getElem_drop]
        congr 1; simp [Nat.min_eq_left (show off ≤ cells.length by omega)]; omega
      rw [e, h3]; exact hk _ _ (hr j (by omega) (by omega))
theorem foldl_set (off : Nat) : ∀ (vs : List Value) (i : Nat) (c : Array Value), off + i + vs.length ≤ c.size →
    let c' := (vs.zipIdx i).foldl (fun cs (x : Value × Nat) => cs.setIfInBounds (off + x.2) x.1) c
    c'.size = c.size ∧ ∀ k, c'[k]? = if off + i ≤ k ∧ k < off + i + vs.length then vs[k - (off + i)]? else c[k]?
  | [], i, c, _ => ⟨rfl, fun k => by rw [if_neg (by simp)]; rfl⟩
  | v :: vs, i, c, hle => by
    simp only [List.length_cons] at hle
    obtain ⟨h1, h2⟩ := foldl_set off vs (i + 1) (c.setIfInBounds (off + i) v) (by simp; omega)
    simp only [List.zipIdx_cons, List.foldl_cons] at h1 h2 ⊢
    refine ⟨by rw [h1]; simp, fun k => ?_⟩
    rw [h2 k]
    by_cases hk0 : k = off + i
    · subst hk0
      rw [if_neg (by omega), if_pos ⟨Nat.le_refl _, by simp⟩]
      simp [show off + i < c.size by omega]
    · by_cases hin : off + (i + 1) ≤ k ∧ k < off + (i + 1) + vs.length
      · rw [if_pos hin, if_pos (by simp; omega)]
        rw [show k - (off + i) = (k - (off + (i + 1))) + 1 by omega, List.getElem?_cons_succ]
      · rw [if_neg hin, if_neg (by simp only [List.length_cons]; omega)]
        rw [Array.getElem?_setIfInBounds_ne (by omega)]
theorem fold_cells (off : Nat) (vs c : Array Value) (hle : off + vs.size ≤ c.size) :
    (vs.zipIdx.foldl (fun cs (x : Value × Nat) => cs.setIfInBounds (off + x.2) x.1) c).size = c.size ∧
      ∀ k, (vs.zipIdx.foldl (fun cs (x : Value × Nat) => cs.setIfInBounds (off + x.2) x.1) c)[k]? = if off ≤ k ∧ k < off + vs.size then vs[k - off]? else c[k]? := by
  have e : vs.zipIdx.foldl (fun cs (x : Value × Nat) => cs.setIfInBounds (off + x.2) x.1) c = (vs.toList.zipIdx 0).foldl (fun cs (x : Value × Nat) => cs.setIfInBounds (off + x.2) x.1) c := by
    rw [← Array.foldl_toList]; simp
  rw [e]
  obtain ⟨h1, h2⟩ := foldl_set off vs.toList 0 c (by simpa using hle)
  exact ⟨h1, fun k => by simpa using h2 k⟩
def afill (place : Nat → Option (Nat × Nat)) (cells : List AV) : List (Nat × AV) → Option (List AV)
  | [] => some cells
  | (i, a) :: r => match place i, a.cellsOf with
    | some (off, n), some cs => match Nat.beq cs.length n && Nat.ble (off + n) cells.length with
      | true => afill place (cells.take off ++ cs ++ cells.drop (off + n)) r
      | false => none
    | _, _ => none
theorem fill_rel {w : World} {O : Nat → Prop} {place : Nat → Option (Nat × Nat)} : ∀ {parts : List (Nat × AV)} {vs : List (Nat × Value)} {cells out : List AV} {c : Array Value}, parts.length = vs.length →
    (∀ j (h1 : j < parts.length) (h2 : j < vs.length), parts[j].1 = vs[j].1 ∧ Rel w O parts[j].2 vs[j].2) → cells.length = c.size → (∀ j (h1 : j < cells.length) (h2 : j < c.size), Rel w O cells[j] c[j]) → afill place cells parts = some out →
    ∃ c', Instr.fill place c vs = some c' ∧ out.length = c'.size ∧ ∀ j (h1 : j < out.length) (h2 : j < c'.size), Rel w O out[j] c'[j]
  | [], [], cells, out, c, _, _, hl, hr, h => by cases h; exact ⟨c, rfl, hl, hr⟩
  | [], _ :: _, _, _, _, hl, _, _, _, _ => by simp at hl
  | _ :: _, [], _, _, _, hl, _, _, _, _ => by simp at hl
  | (i, a) :: parts, (i', v) :: vs, cells, out, c, hpl, hp, hl, hr, h => by
    have h0 := hp 0 (by simp) (by simp)
    simp only [List.getElem_cons_zero] at h0
    obtain ⟨rfl, hrel⟩ := h0
    simp only [afill] at h
    split at h
    · rename_i off n cs hpl' hcs
      split at h
      · rename_i hb
        simp only [Bool.and_eq_true] at hb
        have hn : cs.length = n := Nat.eq_of_beq_eq_true hb.1
        have hle : off + n ≤ cells.length := Nat.le_of_ble_eq_true hb.2
        obtain ⟨g1, g2, g3⟩ := hrel.cells hcs
        obtain ⟨f1, f2⟩ := fold_cells off v.cells c (by omega)
        subst hn
        obtain ⟨k1, k2⟩ := rel_splice (w' := w) (fun _ _ h => h) hl hr g1 g2 hle f1 f2
        obtain ⟨c', e1, e2, e3⟩ := fill_rel (by simpa using hpl) (fun j a b => hp (j + 1) (Nat.succ_lt_succ a) (Nat.succ_lt_succ b)) k1 k2 h
        refine ⟨c', ?_, e2, e3⟩
        simp only [Instr.fill, hpl']
        rw [if_neg (by simp; omega)]
        exact e1
      · cases h
    · cases h
def pevs (f : Operand → Option AV) : List (Nat × Operand) → Option (List (Nat × AV))
  | [] => some []
  | (i, x) :: xs => match f x, pevs f xs with
    | some a, some aS => some ((i, a) :: aS)
    | _, _ => none
theorem Env.pevs {X : Nat → Prop} {h : List Res} {f : Operand → Option AV} {ρ : Operand → Value} {w : World} (he : Env X h f ρ w) :
    ∀ {xs : List (Nat × Operand)} {avs : List (Nat × AV)}, Ab.pevs f xs = some avs → avs.length = (xs.map fun (x : Nat × Operand) => (x.1, ρ x.2)).length ∧
      ∀ j (h1 : j < avs.length) (h2 : j < (xs.map fun (x : Nat × Operand) => (x.1, ρ x.2)).length), avs[j].1 = (xs.map fun (x : Nat × Operand) => (x.1, ρ x.2))[j].1 ∧ Rel w (OO h X) avs[j].2 (xs.map fun (x : Nat × Operand) => (x.1, ρ x.2))[j].2
  | [], avs, e => by cases e; exact ⟨rfl, fun j h => absurd h (Nat.not_lt_zero j)⟩
  | (i, x) :: xs, avs, e => by
    simp only [Ab.pevs] at e
    split at e
    · rename_i a aS h1 h2
      cases e
      obtain ⟨g1, g2⟩ := he.pevs h2
      refine ⟨by simpa using g1, fun j a b => ?_⟩
      cases j with
      | zero => exact ⟨rfl, he.rel x _ h1⟩
      | succ j => exact g2 j (Nat.lt_of_succ_lt_succ a) (Nat.lt_of_succ_lt_succ b)
    · cases e
theorem run_places {P : Program} {w : World} : ∀ {fs : List Field} {pl : List (Nat × Nat)}, fs.mapM (fun f => (P.info? f.type).map fun i => (f.offset, i.size)) = some pl →
    (fs.mapM (fun f => do pure (f.offset, ← sizeOf f.type) : Field → Sem (Nat × Nat))).run P w = .ok pl w
  | [], pl, h => by simp only [List.mapM_nil] at h; cases h; rfl
  | f :: fs, pl, h => by
    rw [List.mapM_cons] at h
    cases hi : P.info? f.type with
    | none => simp [hi] at h
    | some i =>
      cases hm : fs.mapM (fun f => (P.info? f.type).map fun i => (f.offset, i.size)) with
      | none => simp [hi, hm] at h
      | some pl' =>
        simp [hi, hm] at h
        subst h
        have hs : (sizeOf f.type).run P w = .ok i.size w := by simp only [sizeOf, Sem.run_bind, run_typeInfo hi, Result.andThen_ok, Sem.run_pure]
        rw [List.mapM_cons]
        simp only [Sem.run_bind, hs, Result.andThen_ok, Sem.run_pure, run_places hm]
section
variable {P : Program} {ro : Option Nat} {h : List Res} {f : Operand → Option AV} {dst : Option Tmp} {ty : TypeId} {pos : String} {after : Array Edge} {guard : Option (Nat × Bool)} {x y z : Operand}
theorem qr_build {T : TypeId} {zs : List Value} {pl : List (Nat × Nat)} {parts : List (Nat × Operand)} {avs : List (Nat × AV)} {out : List AV} [hz : Zer P T zs] [hpl : Plc P T pl] (hp : pevs f parts = some avs)
    (hf : afill (fun i => pl[i]?) (zs.map .v) avs = some out) : QR P h f ⟨dst, .build T parts.toArray, ty, pos, after, guard⟩ (.agg out) := fun X ρ w he => by
  obtain ⟨zv, h1, h2, _⟩ := hz.h
  obtain ⟨fs, h3, h4⟩ := hpl.h
  obtain ⟨g1, g2⟩ := he.pevs hp
  obtain ⟨c', e1, e2, e3⟩ := fill_rel (c := zv.cells) g1 g2 (by rw [← h2]; simp) (fun j a b => by subst h2; simpa using Rel.v _) hf
  have hu : (underlying T).run P w = .ok (.struct fs) w := by simp only [underlying, Sem.run_bind, run_program, Result.andThen_ok, h3]; rfl
  refine ⟨.agg c', run_v _ ?_, .agg _ _ e2 e3⟩
  simp only [Instr.build, Sem.run_bind, run_zeroValue h1, Result.andThen_ok, hu]
  rw [Array.mapM_eq_mapM_toList, Sem.run_map, run_places h4]
  simp only [Result.andThen_ok, List.map_toArray, List.getElem?_toArray]
  rw [e1]; rfl
theorem qr_buildArr {T E : TypeId} {n sz : Nat} {zs : List Value} {parts : List (Nat × Operand)} {avs : List (Nat × AV)} {out : List AV} [hz : Zer P T zs] [Und P T (.array n E)] [Siz P E sz] (hp : pevs f parts = some avs)
    (hf : afill (fun i => some (i * sz, sz)) (zs.map .v) avs = some out) : QR P h f ⟨dst, .build T parts.toArray, ty, pos, after, guard⟩ (.agg out) := fun X ρ w he => by
  obtain ⟨zv, h1, h2, _⟩ := hz.h
  obtain ⟨g1, g2⟩ := he.pevs hp
  obtain ⟨c', e1, e2, e3⟩ := fill_rel (c := zv.cells) g1 g2 (by rw [← h2]; simp) (fun j a b => by subst h2; simpa using Rel.v _) hf
  refine ⟨.agg c', run_v _ ?_, .agg _ _ e2 e3⟩
  simp only [Instr.build, Sem.run_bind, run_zeroValue h1, Result.andThen_ok, run_underlying (d := TypeDesc.array n E), run_sizeOf (n := sz), List.map_toArray]
  rw [e1]; rfl
theorem qr_pick_b {b c : Bool} {av : AV} (hx : f x = some (.v (.bool b))) (hy : f y = some (.v (.bool c))) (hz : f z = some (.v (.bool false))) : QR P h f ⟨dst, .pick x y z, ty, pos, after, guard⟩ (.v (.bool (b && c))) :=
  fun X ρ w he => ⟨_, by
    simp only [execOp, (he.rel x _ hx).v_eq, (he.rel y _ hy).v_eq, (he.rel z _ hz).v_eq, asBool, Sem.run_bind, Sem.run_pure, Result.andThen_ok]
    rfl, by cases b <;> cases c <;> exact .v _⟩
/-- A slice in a new block. -/
theorem rel_newlist {w w' : World} {O O' : Nat → Prop} {B cap sz : Nat} {T : TypeId} {full : Bool} {rows : List (List AV)} {c : Array Value} (hb : w'.heap[B]? = some (.cells c T (0, 0))) (hO : ¬ O' B)
    (hkeep : ∀ av v, Rel w O av v → Rel w' O' av v) (hfull : full = true → cap = rows.length) (hcap : rows.length ≤ cap) (hsz : ∀ i (hi : i < rows.length), rows[i].length = sz)
    (hc : ∀ i (hi : i < rows.length) j (hj : j < rows[i].length), ∃ v, c[i * sz + j]? = some v ∧ Rel w O rows[i][j] v) : Rel w' O' (.list full sz rows) (.slice (some ⟨B, 0, none⟩) rows.length cap) := by
  refine .list full sz rows B 0 cap (fun i j => c[i * sz + j]?.getD undef) hfull hcap hO ?_ hsz (fun i hi j hj => ?_) fun i hi j hj => ?_
  · exact (Array.getElem?_eq_some_iff.1 hb).1
  · obtain ⟨v, e, _⟩ := hc i hi j hj
    simp [World.cell?, hb, e]
  · obtain ⟨v, e, r⟩ := hc i hi j hj
    rw [e]; exact hkeep _ _ r
/-- An operation that makes one new block, of which only what is read is known. -/
theorem qv_of_push {o : Oper} {av : AV} (hn : notDefer o = true) (hrun : ∀ X ρ w, Env X h f ρ w → ∃ (obj : Obj) (dr : Nat) (v : Value), (execOp ρ o).run P w = .ok (.value v) { w with heap := w.heap.push obj, drawn := dr } ∧
      ((∀ a u, Rel w (OO h X) a u → Rel { w with heap := w.heap.push obj, drawn := dr } (OO h X) a u) → Rel { w with heap := w.heap.push obj, drawn := dr } (OO h X) av v)) : QV P ro h f o av := by
  intro X a w K Q he hK
  obtain ⟨obj, dr, v, e, r⟩ := hrun X a.eval w he
  refine ⟨about_true, ?_⟩
  rw [semAt_nd hn, e]
  have hk : ∀ b, b < w.heap.size → (w.heap.push obj)[b]? = w.heap[b]? := fun b hb => push_old hb
  exact hK v _ (r fun a u ha => ha.keep (by simp) fun b hb hl => ⟨hk b hl, hb⟩) (he.heap.grow (by simp) hk) (.grow (by simp) hk)
theorem fresh_OO {X : Nat → Prop} {w : World} (hh : HRel X w h) : ¬ OO h X w.heap.size := fun hm => hm.elim (fun h1 => Nat.lt_irrefl _ (hh.lt _ h1).1) (fun h1 => Nat.lt_irrefl _ (hh.xlt _ h1))
def seqRows (sz : Nat) : Nat → List (Nat × AV) → Option (List (List AV))
  | _, [] => some []
  | i, (j, a) :: r => match a.cellsOf, seqRows sz (i + 1) r with
    | some cs, some rs => match Nat.beq i j && Nat.beq cs.length sz with
      | true => some (cs :: rs)
      | false => none
    | _, _ => none
theorem fill_seq {w : World} {O : Nat → Prop} {sz : Nat} : ∀ {parts : List (Nat × AV)} {vs : List (Nat × Value)} {i : Nat} {rows : List (List AV)} {c : Array Value}, parts.length = vs.length →
    (∀ j (h1 : j < parts.length) (h2 : j < vs.length), parts[j].1 = vs[j].1 ∧ Rel w O parts[j].2 vs[j].2) → seqRows sz i parts = some rows → (i + parts.length) * sz ≤ c.size →
    ∃ c', Instr.fill (fun i => some (i * sz, sz)) c vs = some c' ∧ c'.size = c.size ∧ (∀ k, k < i * sz → c'[k]? = c[k]?) ∧ (∀ a (ha : a < rows.length), rows[a].length = sz) ∧ rows.length = parts.length ∧
      ∀ a (ha : a < rows.length) j (hj : j < rows[a].length), ∃ v, c'[(i + a) * sz + j]? = some v ∧ Rel w O rows[a][j] v
  | [], [], i, rows, c, _, _, h, _ => by cases h; exact ⟨c, rfl, rfl, fun _ _ => rfl, fun a ha => absurd ha (Nat.not_lt_zero a), rfl, fun a ha => absurd ha (Nat.not_lt_zero a)⟩
  | [], _ :: _, _, _, _, hl, _, _, _ => by simp at hl
  | _ :: _, [], _, _, _, hl, _, _, _ => by simp at hl
  | (j0, av) :: parts, (j1, v) :: vs, i, rows, c, hpl, hp, h, hle => by
    have h0 := hp 0 (by simp) (by simp)
    simp only [List.getElem_cons_zero] at h0
    obtain ⟨rfl, hrel⟩ := h0
    simp only [seqRows] at h
    split at h
    · rename_i cs rs hcs hrs
      split at h
      · rename_i hb
        simp only [Bool.and_eq_true] at hb
        have hij : i = j0 := Nat.eq_of_beq_eq_true hb.1
        have hn : cs.length = sz := Nat.eq_of_beq_eq_true hb.2
        subst hij
        cases h
        obtain ⟨g1, g2, g3⟩ := hrel.cells hcs
        have hmul : (i + (parts.length + 1)) * sz = i * sz + sz + parts.length * sz := by rw [Nat.add_mul, Nat.add_mul]; omega
        simp only [List.length_cons] at hle
        obtain ⟨f1, f2⟩ := fold_cells (i * sz) v.cells c (by omega)
        obtain ⟨c', e1, e2, e3, e4, e5, e6⟩ := fill_seq (c := v.cells.zipIdx.foldl (fun cs (x : Value × Nat) => cs.setIfInBounds (i * sz + x.2) x.1) c) (by simpa using hpl)
          (fun j a b => hp (j + 1) (Nat.succ_lt_succ a) (Nat.succ_lt_succ b)) hrs (by rw [f1]; rw [show (i + 1 + parts.length) = (i + (parts.length + 1)) by omega]; exact hle)
        have hi1 : (i + 1) * sz = i * sz + sz := by rw [Nat.add_mul]; omega
        refine ⟨c', ?_, by rw [e2, f1], fun k hk => ?_, fun a ha => ?_, by simp [e5], fun a ha j hj => ?_⟩
        · simp only [Instr.fill]
          rw [if_neg (by simp; omega)]
          exact e1
        · rw [e3 k (by omega), f2 k, if_neg (by omega)]
        · cases a with
          | zero => exact hn
          | succ a => simpa using e4 a (by simpa using ha)
        · cases a with
          | zero =>
            have hj' : j < cs.length := hj
            refine ⟨v.cells[j]'(by omega), ?_, g2 j hj' (by omega)⟩
            rw [Nat.add_zero, e3 _ (by omega), f2, if_pos (by omega)]
            simp [show j < v.cells.size by omega]
          | succ a =>
            have := e6 a (by simpa using ha) j (by simpa using hj)
            rw [show i + (a + 1) = i + 1 + a by omega]
            simpa using this
      · cases h
    · cases h
theorem qv_buildSlice {T E : TypeId} {n sz : Nat} {zv : Value} {parts : List (Nat × Operand)} {avs : List (Nat × AV)} {rows : List (List AV)} [Und P T (.slice E)] [Siz P E sz] [hz : ZerV P E zv] (hp : pevs f parts = some avs)
    (hr : seqRows sz 0 avs = some rows) (hn : avs.length = n := by rfl) (hsmall : n * sz ≤ 2 ^ 24 := by decide) : QV P ro h f ⟨dst, .buildSlice T n parts.toArray, ty, pos, after, guard⟩ (.list true sz rows) := by
  refine qv_of_push rfl fun X ρ w he => ?_
  obtain ⟨g1, g2⟩ := he.pevs hp
  subst hn
  have hzz : ∃ zc : Array Value, (avs.length * sz = 0 ∧ zc = #[]) ∨ (avs.length * sz ≠ 0 ∧ zc = zv.cells) := by
    by_cases h0 : avs.length * sz = 0
    · exact ⟨_, .inl ⟨h0, rfl⟩⟩
    · exact ⟨_, .inr ⟨h0, rfl⟩⟩
  obtain ⟨zc, hzc⟩ := hzz
  obtain ⟨c', e1, e2, e3, e4, e5, e6⟩ := fill_seq (c := (Array.range (avs.length * sz)).map (fun i => zc[i % zc.size]!)) g1 g2 hr (by simp)
  refine ⟨.cells c' E (0, 0), w.drawn, .slice (some ⟨w.heap.size, 0, none⟩) avs.length avs.length, run_v _ ?_, fun hk => ?_⟩
  · simp only [Instr.buildSlice, Sem.run_bind, run_underlying (d := TypeDesc.slice E), run_sizeOf (n := sz), Result.andThen_ok]
    rw [if_neg (by omega)]
    rcases hzc with ⟨h0, rfl⟩ | ⟨h0, rfl⟩
    · rw [if_pos h0]
      simp only [Sem.run_bind, Sem.run_pure, Result.andThen_ok, List.map_toArray]
      rw [e1]
      simp only [Sem.run_bind, newRow, run_newObj, Result.andThen_ok, Sem.run_pure]
    · rw [if_neg h0]
      simp only [Sem.run_bind, run_zeroValue hz.h, Sem.run_pure, Result.andThen_ok, List.map_toArray]
      rw [e1]
      simp only [Sem.run_bind, newRow, run_newObj, Result.andThen_ok, Sem.run_pure]
  · have := rel_newlist (w := w) (w' := { w with heap := w.heap.push (.cells c' E (0, 0)), drawn := w.drawn }) (O := OO h X) (O' := OO h X) (B := w.heap.size) (cap := avs.length) (full := true) (rows := rows) (sz := sz) (T := E) (c := c') (by simp) (fresh_OO he.heap) hk (fun _ => by omega) (by omega) e4
      (fun i hi j hj => by simpa using e6 i hi j hj)
    rw [e5] at this; exact this
/-- The same, aS a row of one's own. -/
theorem oe_buildRow {nt : Nat} {T E : TypeId} {n sz : Nat} {zv : Value} {parts : List (Nat × Operand)} {avs : List (Nat × AV)} {rows : List (List AV)} {t : Fr} {ds : List Nat} {d : Tmp} {next : St → Prop} [Und P T (.slice E)] [Siz P E sz] [hz : ZerV P E zv] (hp : pevs (ev t) parts = some avs)
    (hr : seqRows sz 0 avs = some rows) (hd : dok nt (some d) = true) (hk : ∀ s, next ⟨(d, .v s) :: t, .row s sz E rows :: h, ds⟩) (hn : avs.length = n := by rfl) (hsmall : n * sz ≤ 2 ^ 24 := by decide) :
    OE P ro nt ⟨some d, .buildSlice T n parts.toArray, ty, pos, after, guard⟩ ⟨t, h, ds⟩ next := by
  intro X a w K Q hs hK
  obtain ⟨g1, g2⟩ := hs.env.pevs hp
  subst hn
  have hzz : ∃ zc : Array Value, (avs.length * sz = 0 ∧ zc = #[]) ∨ (avs.length * sz ≠ 0 ∧ zc = zv.cells) := by
    by_cases h0 : avs.length * sz = 0
    · exact ⟨_, .inl ⟨h0, rfl⟩⟩
    · exact ⟨_, .inr ⟨h0, rfl⟩⟩
  obtain ⟨zc, hzc⟩ := hzz
  obtain ⟨c', e1, e2, e3, e4, e5, e6⟩ := fill_seq (c := (Array.range (avs.length * sz)).map (fun i => zc[i % zc.size]!)) g1 g2 hr (by simp)
  have hrun : (execOp a.eval (⟨some d, .buildSlice T avs.length parts.toArray, ty, pos, after, guard⟩ : Oper)).run P w = .ok (.value (.slice (some ⟨w.heap.size, 0, none⟩) avs.length avs.length)) { w with heap := w.heap.push (.cells c' E (0, 0)) } := by
    refine run_v _ ?_
    simp only [Instr.buildSlice, Sem.run_bind, run_underlying (d := TypeDesc.slice E), run_sizeOf (n := sz), Result.andThen_ok]
    rw [if_neg (by omega)]
    rcases hzc with ⟨h0, rfl⟩ | ⟨h0, rfl⟩
    · rw [if_pos h0]
      simp only [Sem.run_bind, Sem.run_pure, Result.andThen_ok, List.map_toArray]
      rw [e1]
      simp only [Sem.run_bind, newRow, run_newObj, Result.andThen_ok, Sem.run_pure]
    · rw [if_neg h0]
      simp only [Sem.run_bind, run_zeroValue hz.h, Sem.run_pure, Result.andThen_ok, List.map_toArray]
      rw [e1]
      simp only [Sem.run_bind, newRow, run_newObj, Result.andThen_ok, Sem.run_pure]
  refine ⟨about_true, ?_⟩
  rw [semAt_nd rfl, hrun]
  have hkk : ∀ b, ¬ OO h X b → b < w.heap.size → (w.heap.push (.cells c' E (0, 0)))[b]? = w.heap[b]? ∧ ¬ OO (.row (.slice (some ⟨w.heap.size, 0, none⟩) avs.length avs.length) sz E rows :: h) X b := fun b hb hl => ⟨push_old hl, fun hm => by
    rcases hm with hm | hm
    · rw [owns_cons] at hm
      simp only [Res.own, List.singleton_append, List.mem_cons] at hm
      rcases hm with rfl | hm
      · exact Nat.lt_irrefl _ hl
      · exact hb (.inl hm)
    · exact hb (.inr hm)⟩
  have hx2 : Res.holds { w with heap := w.heap.push (.cells c' E (0, 0)) } (OO (.row (.slice (some ⟨w.heap.size, 0, none⟩) avs.length avs.length) sz E rows :: h) X) (.row (.slice (some ⟨w.heap.size, 0, none⟩) avs.length avs.length) sz E rows) := by
    refine ⟨rfl, e5.symm, Nat.le_refl _, e4, c', by simp, by rw [e2]; simp, fun i hi j hj => ?_⟩
    obtain ⟨v, e, r⟩ := e6 i hi j hj
    exact ⟨v, by simpa using e, r.keep (by simp) hkk⟩
  have hh2 := hs.heap.alloc (.cells c' E (0, 0)) (.row (.slice (some ⟨w.heap.size, 0, none⟩) avs.length avs.length) sz E rows) rfl hx2
  have hk2 : Keep (owns h) w (owns (.row (.slice (some ⟨w.heap.size, 0, none⟩) avs.length avs.length) sz E rows :: h)) { w with heap := w.heap.push (.cells c' E (0, 0)) } := Keep.alloc (h := h) _ (.row (.slice (some ⟨w.heap.size, 0, none⟩) avs.length avs.length) sz E rows) rfl
  exact hK _ _ _ (hk _) (Sim.put (s := ⟨t, .row (.slice (some ⟨w.heap.size, 0, none⟩) avs.length avs.length) sz E rows :: h, ds⟩) ⟨hh2, hs.size, hs.fr.keep hk2.size (fun b hb hl => hk2.oo b hb hl), hs.defs⟩ hd (.v _)) hk2
end
end Go.Ab
/- The abstract logic, part 9: append; slices held against nil. Conditions: none (lemmas over any program). -/
set_option linter.unusedVariables false
set_option linter.unusedSimpArgs false
namespace Go.Ab
open Go
theorem Rel.unfull {w : World} {O : Nat → Prop} {full : Bool} {sz : Nat} {rows : List (List AV)} {v : Value} (h : Rel w O (.list full sz rows) v) : Rel w O (.list false sz rows) v := by
  cases h with
  | lnil _ _ a cap h => exact .lnil _ _ _ _ (by simp)
  | list _ _ _ b off cap g h1 h2 h3 h4 h5 h6 h7 => exact .list _ _ _ b off cap g (by simp) h2 h3 h4 h5 h6 h7
theorem run_firstCells {P : Program} {w : World} {O : Nat → Prop} {full : Bool} {sz : Nat} {rows : List (List AV)} {v : Value} (hr : Rel w O (.list full sz rows) v) :
    ∃ c : Array Value, (∀ w' : World, w'.heap = w.heap → (Builtin.firstCells sz rows.length v).run P w' = .ok c w') ∧ c.size = rows.length * sz ∧ ∀ i (hi : i < rows.length) j (hj : j < rows[i].length), ∃ u, c[i * sz + j]? = some u ∧ Rel w O rows[i][j] u := by
  cases hr with
  | lnil _ _ a cap h =>
    refine ⟨#[], fun w' _ => ?_, by simp, fun i hi => absurd hi (Nat.not_lt_zero i)⟩
    cases a with
    | none => rfl
    | some a => simp only [Builtin.firstCells, List.length_nil, Nat.zero_mul]; rfl
  | list _ _ _ b off cap g h1 h2 h3 h4 h5 h6 h7 =>
    have hcell : ∀ k, k < rows.length * sz → w.cell? ⟨b, off + k, none⟩ = some ((w.cell? ⟨b, off + k, none⟩).getD undef) := fun k hk => by
      have hsz : 0 < sz := by
        rcases Nat.eq_zero_or_pos sz with h | h
        · subst h; simp at hk
        · exact h
      have hi : k / sz < rows.length := (Nat.div_lt_iff_lt_mul hsz).2 hk
      have hj : k % sz < rows[k / sz].length := by rw [h5 _ hi]; exact Nat.mod_lt _ hsz
      have e := h6 _ hi _ hj
      have ek : off + k / sz * sz + k % sz = off + k := by have := Nat.div_add_mod k sz; rw [Nat.mul_comm] at this; omega
      rw [ek] at e
      rw [e]; rfl
    refine ⟨((List.range (rows.length * sz)).map fun k => (w.cell? ⟨b, off + k, none⟩).getD undef).toArray, fun w' hw' => ?_, by simp, fun i hi j hj => ⟨g i j, ?_, h7 i hi j hj⟩⟩
    · simp only [Builtin.firstCells]
      exact run_loadCells w' _ _ _ fun k hk => by rw [add_none, cell_congr (show w'.heap[b]? = w.heap[b]? by rw [hw'])]; exact hcell k hk
    · have hj' : j < sz := by rw [← h5 i hi]; exact hj
      have hlt : i * sz + j < rows.length * sz := by
        have : (i + 1) * sz ≤ rows.length * sz := Nat.mul_le_mul_right _ hi
        rw [Nat.add_mul] at this; omega
      have e := h6 i hi j hj
      rw [Nat.add_assoc] at e
      simp [hlt, e]
theorem run_lenOf {P : Program} {w : World} {O : Nat → Prop} {full : Bool} {sz : Nat} {rows : List (List AV)} {v : Value} (hr : Rel w O (.list full sz rows) v) : (Builtin.lenOf v).run P w = .ok rows.length w := by
  obtain ⟨a, cap, rfl, _⟩ := list_slice hr; rfl
theorem append_cells {w : World} {O : Nat → Prop} {sz : Nat} {xs ys : List (List AV)} {c1 c2 c3 : Array Value} (h1 : c1.size = xs.length * sz) (h2 : c2.size = ys.length * sz)
    (g1 : ∀ i (hi : i < xs.length) j (hj : j < xs[i].length), ∃ u, c1[i * sz + j]? = some u ∧ Rel w O xs[i][j] u) (g2 : ∀ i (hi : i < ys.length) j (hj : j < ys[i].length), ∃ u, c2[i * sz + j]? = some u ∧ Rel w O ys[i][j] u) :
    ∀ i (hi : i < (xs ++ ys).length) j (hj : j < (xs ++ ys)[i].length), ∃ u, (c1 ++ c2 ++ c3)[i * sz + j]? = some u ∧ Rel w O (xs ++ ys)[i][j] u := by
  intro i hi j hj
  by_cases h : i < xs.length
  · simp only [List.getElem_append_left h] at hj ⊢
    obtain ⟨u, e, r⟩ := g1 i h j hj
    have hlt := (Array.getElem?_eq_some_iff.1 e).1
    refine ⟨u, ?_, r⟩
    rw [Array.append_assoc, Array.getElem?_append_left hlt, e]
  · have h' : xs.length ≤ i := by omega
    simp only [List.getElem_append_right h'] at hj ⊢
    obtain ⟨u, e, r⟩ := g2 (i - xs.length) (by simp at hi; omega) j hj
    have hlt := (Array.getElem?_eq_some_iff.1 e).1
    have hmul : i * sz = xs.length * sz + (i - xs.length) * sz := by rw [← Nat.add_mul]; congr 1; omega
    refine ⟨u, ?_, r⟩
    rw [Array.append_assoc, Array.getElem?_append_right (by omega), Array.getElem?_append_left (by omega)]
    rw [show i * sz + j - c1.size = (i - xs.length) * sz + j by omega, e]
section
variable {P : Program} {ro : Option Nat} {nt : Nat} {h : List Res} {f : Operand → Option AV} {dst : Option Tmp} {ty : TypeId} {pos : String} {after : Array Edge} {guard : Option (Nat × Bool)} {x y z : Operand}
/-- What the builtin does where it makes a new array. -/
theorem run_append_grow {w : World} {T T2 E E2 n bytes len cap : Nat} {base : Option Addr} {src : Value} {zv : Value} {c1 c2 : Array Value} [Und P T (.slice E)] [Und P T2 (.slice E2)] {sz : Nat} [Siz P E sz] [hby : Byt P E bytes] [hz : ZerV P E zv]
    (hlen : (Builtin.lenOf src).run P w = .ok n w) (hc1 : ∀ w' : World, w'.heap = w.heap → (Builtin.firstCells sz len (.slice base len cap)).run P w' = .ok c1 w') (hc2 : ∀ w' : World, w'.heap = w.heap → (Builtin.firstCells sz n src).run P w' = .ok c2 w')
    (hg : cap < len + n) (hneed : len + n ≤ 1099511627776) (hb : bytes ≤ 128) :
    ∃ (newCap dr : Nat) (rest : Array Value), len + n ≤ newCap ∧ rest.size = (newCap - (len + n)) * zv.cells.size ∧
      (Builtin.append_ [T, T2].toArray ty [.slice base len cap, src].toArray).run P w = .ok (.slice (some ⟨w.heap.size, 0, none⟩) (len + n) newCap) { w with heap := w.heap.push (.cells (c1 ++ c2 ++ rest) E (0, 0)), drawn := dr } := by
  have hbi := hby.h
  cases hi : P.info? E with
  | none => simp [hi] at hbi
  | some inf =>
    simp [hi] at hbi
    have hnext : ¬ (Builtin.nextslicecap (len + n) cap * inf.bytes > 2 ^ 48) := by
      have h1 := nextslicecap_le (need := len + n) (old := cap) hg
      have h2 : Builtin.nextslicecap (len + n) cap * inf.bytes ≤ (2 * (len + n)) * 128 := Nat.mul_le_mul h1 (by omega)
      omega
    refine ⟨Question.cut (.appendCap (len + n) cap E) (w.tape w.drawn (.appendCap (len + n) cap E)), w.drawn + 1, Builtin.zeroCells zv.cells (Question.cut (.appendCap (len + n) cap E) (w.tape w.drawn (.appendCap (len + n) cap E)) - (len + n)), ?_, ?_, ?_⟩
    rotate_left 2
    · simp only [Builtin.append_, List.getElem?_toArray, List.getElem?_cons_zero, List.getElem?_cons_succ, Sem.run_bind, run_underlying (d := TypeDesc.slice E), run_underlying (d := TypeDesc.slice E2), run_sizeOf (n := sz), Result.andThen_ok, Sem.run_pure, hlen, Bool.false_eq_true, if_false]
      rw [if_neg (by omega)]
      simp only [Sem.run_bind, run_typeInfo hi, Result.andThen_ok]
      rw [if_neg (by simp [IntKind.max_i64]; omega)]
      simp only [Sem.run_bind, run_typeInfo hi, Result.andThen_ok]
      rw [if_neg hnext]
      simp only [Sem.run_bind, run_choose, Question.forced, Bool.false_eq_true, if_false, Result.andThen_ok, run_askRoom, run_typeInfo hi]
      rw [hc1 { w with drawn := w.drawn + 1 } rfl]
      simp only [Result.andThen_ok, Bool.not_false, if_true, Sem.run_bind]
      rw [hc2 { w with drawn := w.drawn + 1 } rfl]
      simp only [Result.andThen_ok, Sem.run_bind, run_zeroValue hz.h, newRow, run_newObj, Sem.run_pure]
    · simp only [Question.cut]; omega
    · simp [Builtin.zeroCells]
/-- append onto a slice that is full, or nil: what comes back is only read. -/
theorem qv_append {T T2 E E2 bytes sz : Nat} {zv : Value} {full : Bool} {xs ys : List (List AV)} (hx : f x = some (.list true sz xs)) (hy : f y = some (.list full sz ys)) [Und P T (.slice E)] [Und P T2 (.slice E2)] [Siz P E sz] [Byt P E bytes] [ZerV P E zv]
    (hneed : xs.length + ys.length ≤ 1099511627776) (hb : bytes ≤ 128 := by decide) : QV P ro h f ⟨dst, .call ⟨.builtin .append, [x, y].toArray, [T, T2].toArray⟩, ty, pos, after, guard⟩ (.list false sz (xs ++ ys)) := by
  intro X a w K Q he hK
  have rx := he.rel x _ hx
  have ry := he.rel y _ hy
  have hrun : (execOp a.eval ⟨dst, .call ⟨.builtin .append, [x, y].toArray, [T, T2].toArray⟩, ty, pos, after, guard⟩).run P w = ((Builtin.append_ [T, T2].toArray ty [a.eval x, a.eval y].toArray).run P w).andThen fun v w => .ok (.value v) w := by
    simp only [execOp, resolve, List.map_toArray, List.map_cons, List.map_nil, Sem.run_bind, Sem.run_pure, Result.andThen_ok, invoke, builtin]
  obtain ⟨ax, cx, ex, hcx⟩ := list_slice rx
  have hfull : cx = xs.length := by
    rw [ex] at rx
    cases rx with
    | lnil _ _ a cap h => simpa using h rfl
    | list _ _ _ b off cap g h1 => exact h1 rfl
  subst hfull
  obtain ⟨c1, e1, s1, g1⟩ := run_firstCells (P := P) rx
  obtain ⟨c2, e2, s2, g2⟩ := run_firstCells (P := P) ry
  refine ⟨about_true, ?_⟩
  rw [semAt_nd rfl, hrun]
  by_cases hn : ys.length = 0
  · have hy0 : ys = [] := List.eq_nil_of_length_eq_zero hn
    subst hy0
    have : (Builtin.append_ [T, T2].toArray ty [a.eval x, a.eval y].toArray).run P w = .ok (a.eval x) w := by
      rw [ex]
      simp only [Builtin.append_, List.getElem?_toArray, List.getElem?_cons_zero, List.getElem?_cons_succ, Sem.run_bind, run_underlying (d := TypeDesc.slice E), run_underlying (d := TypeDesc.slice E2), run_sizeOf (n := sz), Result.andThen_ok, Sem.run_pure, run_lenOf ry, Bool.false_eq_true, if_false, List.length_nil, Nat.add_zero, Nat.le_refl, if_true, Bool.not_false]
      have e2' := e2 w rfl
      simp only [List.length_nil] at e2'
      rw [e2']
      have : c2 = #[] := by simpa using s2
      subst this
      cases ax <;> simp [storeCells]
    rw [this]
    simp only [Result.andThen_ok, Oper.uponIn]
    exact hK _ w (by rw [List.append_nil]; exact rx.unfull) he.heap (.refl _ _)
  · obtain ⟨newCap, dr, rest, k1, k2, k3⟩ := run_append_grow (ty := ty) (T := T) (T2 := T2) (E2 := E2) (src := a.eval y) (base := ax) (cap := xs.length) (zv := zv) (bytes := bytes) (c1 := c1) (c2 := c2) (run_lenOf ry) (fun w' hw => by rw [← ex]; exact e1 w' hw) e2 (by omega) hneed hb
    rw [ex, k3]
    simp only [Result.andThen_ok, Oper.uponIn]
    have hk : ∀ b, b < w.heap.size → (w.heap.push (.cells (c1 ++ c2 ++ rest) E (0, 0)))[b]? = w.heap[b]? := fun b hb => push_old hb
    refine hK _ _ ?_ (he.heap.grow (by simp) hk) (.grow (by simp) hk)
    have := rel_newlist (w := w) (w' := { w with heap := w.heap.push (.cells (c1 ++ c2 ++ rest) E (0, 0)), drawn := dr }) (O := OO h X) (O' := OO h X) (B := w.heap.size) (cap := newCap) (full := false) (rows := xs ++ ys) (sz := sz) (T := E) (c := c1 ++ c2 ++ rest) (by simp) (fresh_OO he.heap)
      (fun av v hr => hr.keep (by simp) fun b hb hl => ⟨hk b hl, hb⟩) (by simp) (by simpa using k1) (fun i hi => ?_) (append_cells s1 s2 g1 g2)
    · simpa using this
    · have hlx : ∀ (l : List (List AV)) v, (∃ full, Rel w (OO h X) (.list full sz l) v) → ∀ i (hi : i < l.length), l[i].length = sz := by
        rintro l v ⟨fl, hr⟩ i hi
        cases hr with
        | lnil => simp at hi
        | list _ _ _ b off cap g h1 h2 h3 h4 h5 => exact h5 i hi
      by_cases h : i < xs.length
      · rw [List.getElem_append_left h]; exact hlx xs _ ⟨_, rx⟩ i h
      · rw [List.getElem_append_right (by omega)]; exact hlx ys _ ⟨_, ry⟩ _ (by simp at hi; omega)
theorem run_eqIn_nil {T E : TypeId} {w : World} [Und P T (.slice E)] (d : Nat) (ax : Option Addr) (n cap : Nat) : (Op.equalIn (d + 1) T (.slice ax n cap) (.slice none 0 0)).run P w = .ok ax.isNone w := by
  simp only [Op.equalIn, Sem.run_bind, run_underlying (d := TypeDesc.slice E), Result.andThen_ok]
  cases ax <;> rfl
/-- A slice that is only read, held against nil. -/
theorem oe_eqnil {T E T' : TypeId} {full : Bool} {sz : Nat} {rows : List (List AV)} {t : Fr} {ds : List Nat} {d : Tmp} {next : St → Prop} (hx : ev t x = some (.list full sz rows)) (hy : ev t y = some (.v (.slice none 0 0))) [Und P T (.slice E)] (hd : dok nt (some d) = true)
    (hk : ∀ b : Bool, (b = true → rows = []) → next ⟨(d, .v (.bool b)) :: t, h, ds⟩) : OE P ro nt ⟨some d, .binOp .eql T x y T', ty, pos, after, guard⟩ ⟨t, h, ds⟩ next := by
  intro X a w K Q hs hK
  obtain ⟨ax, cap, e, _⟩ := list_slice (hs.env.rel x _ hx)
  have hb : ax.isNone = true → rows = [] := by
    have := hs.env.rel x _ hx
    rw [e] at this
    cases ax with
    | some a => simp
    | none =>
      cases hr : rows with
      | nil => simp
      | cons r rs => rw [hr] at this; cases this
  refine ⟨about_true, ?_⟩
  have hrun : (execOp a.eval ⟨some d, .binOp .eql T x y T', ty, pos, after, guard⟩).run P w = .ok (.value (.bool ax.isNone)) w := by
    refine run_v _ ?_
    rw [e, (hs.env.rel y _ hy).v_eq]
    have h1 : (eqGuard .eql T x y (.slice ax rows.length cap) (.slice none 0 0)) = pure () := rfl
    rw [h1]
    have h2 : (binOp .eql T (.slice ax rows.length cap) (.slice none 0 0)).run P w = ((Op.equal T (.slice ax rows.length cap) (.slice none 0 0)).run P w).andThen fun b w => .ok (.bool b) w := by
      simp only [binOp, Sem.run_bind, Sem.run_pure]
    have h3 : (Op.equal T (.slice ax rows.length cap) (.slice none 0 0)).run P w = .ok ax.isNone w := by
      exact run_eqIn_nil 9999 ax rows.length cap
    simp only [Sem.run_bind, Sem.run_pure, Result.andThen_ok, h2, h3]
  rw [semAt_nd rfl, hrun]
  have hsim := hs.put (av := .v (.bool ax.isNone)) hd (.v (.bool ax.isNone))
  exact hK _ _ _ (hk ax.isNone hb) hsim (.refl _ _)
/-! Rows of the function's own. -/
theorem set_perm {h : List Res} {i : Nat} {r : Res} (hi : i < h.length) : (h.set i r).Perm (r :: h.eraseIdx i) := by
  induction h generalizing i with
  | nil => simp at hi
  | cons x h ih =>
    cases i with
    | zero => simp
    | succ i =>
      simp only [List.set_cons_succ, List.eraseIdx_cons_succ]
      exact (List.Perm.cons x (ih (by simpa using hi))).trans (List.Perm.swap ..)
theorem get_perm {h : List Res} {i : Nat} {r : Res} (hi : h[i]? = some r) : h.Perm (r :: h.eraseIdx i) := by
  obtain ⟨hlt, e⟩ := List.getElem?_eq_some_iff.1 hi
  have := set_perm (r := r) hlt
  rw [← e, List.set_getElem_self] at this
  rw [← e]; exact this
/-- A resource given up for one over a new block. -/
theorem HRel.renew {X : Nat → Prop} {w : World} {h : List Res} {i : Nat} {x y : Res} {o : Obj} {dr : Nat} (r : HRel X w h) (hi : h[i]? = some x) (hown : y.own = [w.heap.size])
    (hy : (∀ av v, Rel w (OO h X) av v → Rel { w with heap := w.heap.push o, drawn := dr } (OO (h.set i y) X) av v) → y.holds { w with heap := w.heap.push o, drawn := dr } (OO (h.set i y) X)) :
    HRel X { w with heap := w.heap.push o, drawn := dr } (h.set i y) ∧ Keep (owns h) w (owns (h.set i y)) { w with heap := w.heap.push o, drawn := dr } ∧
      ∀ b, ¬ OO h X b → b < w.heap.size → (w.heap.push o)[b]? = w.heap[b]? ∧ ¬ OO (h.set i y) X b := by
  have p1 := get_perm hi
  have p2 : (h.set i y).Perm (y :: h.eraseIdx i) := set_perm (List.getElem?_eq_some_iff.1 hi).1
  have r1 : HRel X w (h.eraseIdx i) := HRel.drop (h := [x]) (r.perm p1)
  have hk : ∀ b, ¬ OO h X b → b < w.heap.size → (w.heap.push o)[b]? = w.heap[b]? ∧ ¬ OO (h.set i y) X b := fun b hb hl => by
    refine ⟨push_old hl, fun hm => ?_⟩
    rw [OO_perm p2] at hm
    rw [OO_perm p1] at hb
    rcases hm with hm | hm
    · rw [owns_cons, hown] at hm
      simp only [List.singleton_append, List.mem_cons] at hm
      rcases hm with rfl | hm
      · exact Nat.lt_irrefl _ hl
      · exact hb (.inl (by rw [owns_cons]; exact List.mem_append_right _ hm))
    · exact hb (.inr hm)
  have hkeepR : ∀ av v, Rel w (OO h X) av v → Rel { w with heap := w.heap.push o, drawn := dr } (OO (h.set i y) X) av v := fun av v hr => hr.keep (by simp) hk
  have hyy := hy hkeepR
  have r2 : HRel X { w with drawn := dr } (h.eraseIdx i) := r1.grow (Nat.le_refl _) fun _ _ => rfl
  have r3 := HRel.alloc (w := { w with drawn := dr }) r2 o y hown (by rw [← OO_perm p2]; exact hyy)
  refine ⟨r3.perm p2.symm, ⟨by simp, fun b hb ho => ⟨push_old hb, fun hm => ?_⟩, rfl, rfl⟩, hk⟩
  have := (owns_perm p2).mem_iff.1 hm
  rw [owns_cons, hown] at this
  simp only [List.singleton_append, List.mem_cons] at this
  rcases this with rfl | this
  · exact Nat.lt_irrefl _ hb
  · exact ho ((owns_perm p1).mem_iff.2 (by rw [owns_cons]; exact List.mem_append_right _ this))
theorem row_list {X : Nat → Prop} {w : World} {h : List Res} {i : Nat} {s : Value} {sz : Nat} {T : TypeId} {rows : List (List AV)} (hh : HRel X w h) (hr : h[i]? = some (.row s sz T rows)) :
    ∃ a cap, s = .slice a rows.length cap ∧ rows.length ≤ cap ∧ (∀ k (hk : k < rows.length), rows[k].length = sz) ∧
      ∃ c : Array Value, (∀ {P : Program} (w' : World), w'.heap = w.heap → (Builtin.firstCells sz rows.length s).run P w' = .ok c w') ∧ c.size = rows.length * sz ∧ ∀ i (hi : i < rows.length) j (hj : j < rows[i].length), ∃ u, c[i * sz + j]? = some u ∧ Rel w (OO h X) rows[i][j] u := by
  have hx := hh.holds _ (List.mem_of_getElem? hr)
  cases s <;> try exact hx.elim
  rename_i a len cap
  cases a with
  | none =>
    obtain ⟨rfl, rfl, rfl⟩ := hx
    exact ⟨none, 0, rfl, Nat.le_refl _, fun k hk => absurd hk (Nat.not_lt_zero k), #[], fun _ _ => rfl, by simp, fun i hi => absurd hi (Nat.not_lt_zero i)⟩
  | some a =>
    obtain ⟨h1, h2, h3, h4, c, h5, h6, h7⟩ := hx
    obtain ⟨b, off, spot⟩ := a
    simp only at h1; subst h1; subst h2
    have hsz : rows.length * sz ≤ cap * sz := Nat.mul_le_mul_right _ h3
    simp only at h6
    refine ⟨_, cap, rfl, h3, h4, c.extract off (off + rows.length * sz), fun w' hw' => ?_, by simp; omega, fun i hi j hj => ?_⟩
    · simp only [Builtin.firstCells]
      rw [run_loadCells w' _ _ (fun k => c[off + k]?.getD undef) fun k hk => ?_]
      · congr 1
        apply Array.ext
        · simp; omega
        · intro k k1 k2
          simp at k1
          simp [show off + k < c.size by omega]
      · rw [add_none, cell_congr (show w'.heap[b]? = w.heap[b]? by rw [hw'])]
        simp only at h5
        simp [World.cell?, h5, show off + k < c.size by omega]
    · obtain ⟨v, e, r⟩ := h7 i hi j hj
      simp only at e
      have hj' : j < sz := by rw [← h4 i hi]; exact hj
      have hlt : i * sz + j < rows.length * sz := by
        have : (i + 1) * sz ≤ rows.length * sz := Nat.mul_le_mul_right _ hi
        rw [Nat.add_mul] at this; omega
      refine ⟨v, ?_, r⟩
      rw [Array.getElem?_extract, if_pos (by omega), ← Nat.add_assoc, e]
/-- append onto a row of one's own. -/
theorem oe_append_row {T T2 E E2 bytes sz i : Nat} {zv : Value} {full : Bool} {s : Value} {xs ys : List (List AV)} {t : Fr} {h' : Value → List Res} {ds : List Nat} {d : Tmp} {next : St → Prop} (hx : ev t x = some (.v s)) (hy : ev t y = some (.list full sz ys)) [hrow : HasRow h s i sz E xs]
    [Und P T (.slice E)] [Und P T2 (.slice E2)] [Siz P E sz] [Byt P E bytes] [ZerV P E zv] (hneed : xs.length + ys.length ≤ 1099511627776) (hd : dok nt (some d) = true) [hset : ∀ s', SetAt h i (.row s' sz E (xs ++ ys)) (h' s')]
    (hk : ∀ s', next ⟨(d, .v s') :: t, h' s', ds⟩) (hone : ∀ r ∈ ys, r.all AV.one = true) (hb : bytes ≤ 128 := by decide) (hzs : zv.cells.size = sz := by rfl) :
    OE P ro nt ⟨some d, .call ⟨.builtin .append, [x, y].toArray, [T, T2].toArray⟩, ty, pos, after, guard⟩ ⟨t, h, ds⟩ next := by
  intro X a w K Q hs hK
  have ex := (hs.env.rel x _ hx).v_eq
  have ry := hs.env.rel y _ hy
  obtain ⟨ax, cap, es, hcap, hsz, c1, e1, s1, g1⟩ := row_list hs.heap hrow.h
  obtain ⟨c2, e2, s2, g2⟩ := run_firstCells (P := P) ry
  have hlx2 : ∀ k (hk : k < ys.length), ys[k].length = sz := by
    intro k hk
    generalize a.eval y = v at ry
    cases ry with
    | lnil => simp at hk
    | list _ _ _ b off cap g h1 h2 h3 h4 h5 => exact h5 k hk
  have hszxy : ∀ k (hk : k < (xs ++ ys).length), (xs ++ ys)[k].length = sz := fun k hk => by
    by_cases h : k < xs.length
    · rw [List.getElem_append_left h]; exact hsz k h
    · rw [List.getElem_append_right (by omega)]; exact hlx2 _ (by simp at hk; omega)
  have hrun : (execOp a.eval ⟨some d, .call ⟨.builtin .append, [x, y].toArray, [T, T2].toArray⟩, ty, pos, after, guard⟩).run P w = ((Builtin.append_ [T, T2].toArray ty [s, a.eval y].toArray).run P w).andThen fun v w => .ok (.value v) w := by
    simp only [execOp, resolve, List.map_toArray, List.map_cons, List.map_nil, Sem.run_bind, Sem.run_pure, Result.andThen_ok, invoke, builtin, ex]
  refine ⟨about_true, ?_⟩
  rw [semAt_nd rfl, hrun]
  by_cases hg : cap < xs.length + ys.length
  · obtain ⟨newCap, dr, rest, k1, k2, k3⟩ := run_append_grow (ty := ty) (T := T) (T2 := T2) (E2 := E2) (src := a.eval y) (base := ax) (cap := cap) (zv := zv) (bytes := bytes) (c1 := c1) (c2 := c2) (run_lenOf ry) (fun w' hw => by rw [← es]; exact e1 w' hw) e2 hg hneed hb
    rw [es, k3]
    simp only [Result.andThen_ok, Oper.uponIn]
    have hy' := HRel.renew (o := .cells (c1 ++ c2 ++ rest) E (0, 0)) (dr := dr) (y := .row (.slice (some ⟨w.heap.size, 0, none⟩) (xs.length + ys.length) newCap) sz E (xs ++ ys)) hs.heap hrow.h rfl (fun hkk => by
      refine ⟨rfl, by simp, k1, hszxy, c1 ++ c2 ++ rest, by simp, ?_, fun i hi j hj => ?_⟩
      · simp only [Array.size_append, s1, s2, k2, hzs, Nat.zero_add]
        rw [← Nat.add_mul, ← Nat.add_mul]; exact Nat.mul_le_mul_right _ (by omega)
      · obtain ⟨u, e, r⟩ := append_cells (c3 := rest) s1 s2 g1 g2 i hi j hj
        refine ⟨u, ?_, hkk _ _ r⟩
        simpa using e)
    obtain ⟨q1, q2, q3⟩ := hy'
    have hh' := (hset (.slice (some ⟨w.heap.size, 0, none⟩) (xs.length + ys.length) newCap)).h
    refine hK _ _ _ (hk (.slice (some ⟨w.heap.size, 0, none⟩) (xs.length + ys.length) newCap)) ?_ (by rw [← hh']; exact q2)
    have hsim : Sim X nt ⟨t, h' (.slice (some ⟨w.heap.size, 0, none⟩) (xs.length + ys.length) newCap), ds⟩ a _ := ⟨by rw [← hh']; exact q1, hs.size, by rw [← hh']; exact hs.fr.keep (by simp) q3, hs.defs⟩
    exact hsim.put (av := .v _) hd (.v _)
  · have hle : xs.length + ys.length ≤ cap := by omega
    have hx0 := hs.heap.holds _ (List.mem_of_getElem? hrow.h)
    have hsub : ∀ (a1 : Act) (b1 : Option Addr), (Builtin.append_ [T, T2].toArray ty [.slice b1 xs.length cap, a.eval y].toArray).run P w = (((match b1 with | some a => storeCells (a.add (xs.length * sz)) c2.toList | none => pure ()) : Sem Unit).run P w).andThen fun _ w => .ok (.slice b1 (xs.length + ys.length) cap) w := by
      intro a1 b1
      simp only [Builtin.append_, List.getElem?_toArray, List.getElem?_cons_zero, List.getElem?_cons_succ, Sem.run_bind, run_underlying (d := TypeDesc.slice E), run_underlying (d := TypeDesc.slice E2), run_sizeOf (n := sz), Result.andThen_ok, Sem.run_pure, run_lenOf ry, Bool.false_eq_true, if_false, Bool.not_false, if_true, hle, e2 w rfl]
      cases b1 with
      | none => rfl
      | some a2 => simp only [Sem.run_bind, Sem.run_pure]
    rw [es, hsub a ax]
    cases ax with
    | none =>
      have hx1 := hx0
      rw [es] at hx1
      obtain ⟨rfl, _, rfl⟩ := hx1
      have : ys = [] := List.eq_nil_of_length_eq_zero (by simpa using hle)
      subst this
      have hs0 : s = .slice none 0 0 := es
      subst hs0
      simp only [Sem.run_pure, Result.andThen_ok, Oper.uponIn]
      have hh' := (hset (.slice none 0 0)).h
      have he : h' (.slice none 0 0) = h := by
        rw [← hh']
        obtain ⟨hlt, e⟩ := List.getElem?_eq_some_iff.1 hrow.h
        rw [List.append_nil, ← e, List.set_getElem_self]
      refine hK _ _ _ (hk (.slice none 0 0)) ?_ (by rw [he]; exact .refl _ _)
      have hsim : Sim X nt ⟨t, h' (.slice none 0 0), ds⟩ a w := by rw [he]; exact hs
      exact hsim.put (av := .v _) hd (.v _)
    | some addr =>
      have hx1 := hx0
      rw [es] at hx1
      obtain ⟨m1, _, m3, m4, c0, m5, m6, m7⟩ := hx1
      obtain ⟨b, off, spot⟩ := addr
      simp only at m1 m5 m6 m7
      subst m1
      have hcs : ∀ v ∈ c2.toList, v.oneCell' = true := by
        intro v hv
        obtain ⟨k, hk1, hk2⟩ := List.mem_iff_getElem.1 hv
        have hk3 : k < ys.length * sz := by rw [← s2]; simpa using hk1
        have hsz0 : 0 < sz := by
          rcases Nat.eq_zero_or_pos sz with h | h
          · subst h; simp at hk3
          · exact h
        have hi : k / sz < ys.length := (Nat.div_lt_iff_lt_mul hsz0).2 hk3
        have hj : k % sz < ys[k / sz].length := by rw [hlx2 _ hi]; exact Nat.mod_lt _ hsz0
        obtain ⟨u, e, r⟩ := g2 _ hi _ hj
        have ek : k / sz * sz + k % sz = k := by have := Nat.div_add_mod k sz; rw [Nat.mul_comm] at this; exact this
        rw [ek] at e
        have : u = v := by
          have h2 : c2[k]? = some v := by rw [← hk2]; simp [show k < c2.size by rw [s2]; exact hk3]
          exact Option.some.inj (e.symm.trans h2)
        subst this
        exact r.one (List.all_eq_true.1 (hone _ (List.getElem_mem hi)) _ (List.getElem_mem hj))
      have hmul : (xs.length + ys.length) * sz ≤ cap * sz := Nat.mul_le_mul_right _ hle
      have hmul2 : (xs.length + ys.length) * sz = xs.length * sz + ys.length * sz := Nat.add_mul ..
      obtain ⟨w', f1, f2, f3, c', f4, f5, f6, ev⟩ := run_storeCells (P := P) c2.toList (off + xs.length * sz) 0 w c0 hcs m5 (by simp [s2]; omega)
      simp only [add_none]
      rw [f1]
      simp only [Result.andThen_ok, Oper.uponIn]
      have hbown : b ∈ (Res.row s sz E xs).own := by rw [es]; simp [Res.own]
      have hkk : ∀ b', ¬ OO h X b' → b' < w.heap.size → w'.heap[b']? = w.heap[b']? ∧ ¬ OO h X b' := fun b' hb' _ => ⟨f3 b' (fun he => hb' (.inl (mem_owns.2 ⟨_, List.mem_of_getElem? hrow.h, he ▸ hbown⟩))), hb'⟩
      have hoth : ∀ b', b' < w.heap.size → b' ∉ (Res.row s sz E xs).own → w'.heap[b']? = w.heap[b']? := fun b' _ hne => f3 b' fun he => hne (he ▸ hbown)
      have hown : (Res.row (.slice (some ⟨b, off, none⟩) (xs.length + ys.length) cap) sz E (xs ++ ys)).own = (Res.row s sz E xs).own := by rw [es]; rfl
      have hholds : (Res.row (.slice (some ⟨b, off, none⟩) (xs.length + ys.length) cap) sz E (xs ++ ys)).holds w' (OO h X) := by
        refine ⟨rfl, by simp, hle, hszxy, c', f4, by rw [f5]; exact m6, fun i hi j hj => ?_⟩
        by_cases h : i < xs.length
        · simp only [List.getElem_append_left h] at hj ⊢
          obtain ⟨u, e, r⟩ := m7 i h j hj
          have hj' : j < sz := by rw [← hsz i h]; exact hj
          have : (i + 1) * sz ≤ xs.length * sz := Nat.mul_le_mul_right _ h
          rw [Nat.add_mul] at this
          refine ⟨u, ?_, r.keep (by omega) hkk⟩
          rw [f6, if_neg (by omega), e]
        · have h' : xs.length ≤ i := by omega
          have hi2 : i - xs.length < ys.length := by simp at hi; omega
          simp only [List.getElem_append_right h'] at hj ⊢
          obtain ⟨u, e, r⟩ := g2 (i - xs.length) hi2 j hj
          have hlt := (Array.getElem?_eq_some_iff.1 e).1
          have hm : i * sz = xs.length * sz + (i - xs.length) * sz := by rw [← Nat.add_mul]; congr 1; omega
          refine ⟨u, ?_, r.keep (by omega) hkk⟩
          rw [f6, if_pos (by simp; omega), show off + i * sz + j - (off + xs.length * sz + 0) = (i - xs.length) * sz + j by omega]
          simpa using e
      have hh' := (hset (.slice (some ⟨b, off, none⟩) (xs.length + ys.length) cap)).h
      refine hK _ _ _ (hk (.slice (some ⟨b, off, none⟩) (xs.length + ys.length) cap)) ?_ (by rw [← hh']; exact Keep.set hrow.h hown (by omega) hoth ev)
      have hO : OO (h' (.slice (some ⟨b, off, none⟩) (xs.length + ys.length) cap)) X = OO h X := by funext b'; rw [← hh']; simp only [OO, owns_set hrow.h hown]
      have hsim : Sim X nt ⟨t, h' (.slice (some ⟨b, off, none⟩) (xs.length + ys.length) cap), ds⟩ a w' := ⟨by rw [← hh']; exact hs.heap.set hrow.h hown (by omega) hoth hholds, hs.size, by rw [hO]; exact hs.fr.keep (by omega) hkk, hs.defs⟩
      exact hsim.put (av := .v _) hd (.v _)
end
end Go.Ab
