/- The abstract logic, part 15: rows of a function's own, read and written; freezing; small operations more. Conditions: none (lemmas over any program). -/
import Derived.Test.YtcooiollckhdlaaGreatDoorPWyB
import Derived.Laws.StructEq
import Derived.Maps.RangeRun
import Derived.WideKeyRuns
import Derived.MapKept
set_option linter.unusedSimpArgs false
set_option linter.unusedVariables false
set_option linter.unusedVariables false
set_option linter.unusedSimpArgs false
namespace Go.Ab
open Go
/-- A nil slice is a row of one's own. -/
theorem HRel.nilrow {X : Nat → Prop} {w : World} {h : List Res} (sz : Nat) (T : TypeId) (hh : HRel X w h) : HRel X w (.row (.slice none 0 0) sz T [] :: h) := by
  have ho : owns (.row (.slice none 0 0) sz T [] :: h) = owns h := by rw [owns_cons]; rfl
  have hO : OO (.row (.slice none 0 0) sz T [] :: h) X = OO h X := by funext b; simp only [OO, ho]
  refine ⟨by rw [ho]; exact hh.nodup, fun b hb => hh.lt b (by rw [ho] at hb; exact hb), hh.xlt, fun r hr => ?_⟩
  rw [hO]
  rcases List.mem_cons.1 hr with rfl | hr
  · exact ⟨rfl, rfl, rfl⟩
  · exact hh.holds r hr
theorem ent_nilrow {nt : Nat} {t : Fr} {h : List Res} {ds : List Nat} (sz : Nat) (T : TypeId) : Ent nt ⟨t, h, ds⟩ ⟨t, .row (.slice none 0 0) sz T [] :: h, ds⟩ := by
  have ho : owns (.row (.slice none 0 0) sz T [] :: h) = owns h := by rw [owns_cons]; rfl
  refine ⟨fun b hb => by rw [ho] at hb; exact hb, fun X a w hs => ⟨hs.heap.nilrow sz T, hs.size, ?_, hs.defs⟩⟩
  have hO : OO (.row (.slice none 0 0) sz T [] :: h) X = OO h X := by funext b; simp only [OO, ho]
  show FrRel w (OO (.row (.slice none 0 0) sz T [] :: h) X) t a.tmps
  rw [hO]; exact hs.fr
theorem vent_nilrow {h : List Res} (sz : Nat) (T : TypeId) (a : AV) : VEnt h a (.row (.slice none 0 0) sz T [] :: h) a := by
  have ho : owns (.row (.slice none 0 0) sz T [] :: h) = owns h := by rw [owns_cons]; rfl
  refine ⟨fun b hb => by rw [ho] at hb; exact hb, fun X w v hh hr => ⟨hh.nilrow sz T, ?_⟩⟩
  have hO : OO (.row (.slice none 0 0) sz T [] :: h) X = OO h X := by funext b; simp only [OO, ho]
  rw [hO]; exact hr
/-- A row given up reads aS a list. -/
theorem row_frozen {X : Nat → Prop} {w : World} {h : List Res} {s : Value} {sz : Nat} {T : TypeId} {rows : List (List AV)} (hh : HRel X w (.row s sz T rows :: h)) : Rel w (OO h X) (.list false sz rows) s := by
  have hx := hh.holds (.row s sz T rows) (by simp)
  cases s <;> try exact hx.elim
  rename_i a len cap
  cases a with
  | none => obtain ⟨rfl, rfl, rfl⟩ := hx; exact .lnil _ _ _ _ (by simp)
  | some a =>
    obtain ⟨h1, h2, h3, h4, c, h5, h6, h7⟩ := hx
    obtain ⟨b, off, spot⟩ := a
    simp only at h1; subst h1; subst h2
    have hn := hh.nodup
    rw [owns_cons] at hn
    simp only [Res.own, List.singleton_append, List.nodup_cons] at hn
    have hb := hh.lt b (by rw [owns_cons]; simp [Res.own])
    have hloose : ∀ av v, Rel w (OO (.row (.slice (some ⟨b, off, none⟩) rows.length cap) sz T rows :: h) X) av v → Rel w (OO h X) av v := fun av v r => r.loose fun x hx => hx.imp (fun h => by rw [owns_cons]; exact List.mem_append_right _ h) id
    refine .list _ _ _ b off cap (fun i j => c[off + i * sz + j]?.getD undef) (by simp) h3 (fun hm => hm.elim hn.1 hb.2) hb.1 h4 (fun i hi j hj => ?_) fun i hi j hj => ?_
    · obtain ⟨v, e, _⟩ := h7 i hi j hj
      simp only at e h5
      simp [World.cell?, h5, e]
    · obtain ⟨v, e, r⟩ := h7 i hi j hj
      simp only at e
      rw [e]; exact hloose _ _ r
theorem vent_freeze {h : List Res} {s : Value} {sz : Nat} {T : TypeId} {rows : List (List AV)} : VEnt (.row s sz T rows :: h) (.v s) h (.list false sz rows) :=
  ⟨fun x hx => by rw [owns_cons]; exact List.mem_append_right _ hx, fun X w v hh hr => ⟨HRel.drop (h := [.row s sz T rows]) hh, by rw [hr.v_eq]; exact row_frozen hh⟩⟩
/-- A frame in which a row's name stands for its list. -/
inductive SubZ (s : Value) (sz : Nat) (rows : List (List AV)) (t : Fr) : Fr → Prop where
  | nil : SubZ s sz rows t []
  | cons (i : Nat) (a : AV) (r : Fr) : lk t i = some a → SubZ s sz rows t r → SubZ s sz rows t ((i, a) :: r)
  | row (i : Nat) (r : Fr) : lk t i = some (.v s) → SubZ s sz rows t r → SubZ s sz rows t ((i, .list false sz rows) :: r)
theorem ent_freeze {nt : Nat} {t t' : Fr} {h : List Res} {ds : List Nat} {s : Value} {sz : Nat} {T : TypeId} {rows : List (List AV)} (hz : SubZ s sz rows t t') : Ent nt ⟨t, .row s sz T rows :: h, ds⟩ ⟨t', h, ds⟩ := by
  refine ⟨fun x hx => by rw [owns_cons]; exact List.mem_append_right _ hx, fun X a w hs => ⟨HRel.drop (h := [.row s sz T rows]) hs.heap, hs.size, ?_, hs.defs⟩⟩
  have hfr := hs.fr
  have hheap := hs.heap
  have hfz := row_frozen hheap
  have hloose : ∀ av v, Rel w (OO (.row s sz T rows :: h) X) av v → Rel w (OO h X) av v := fun av v r => r.loose fun x hx => hx.imp (fun h => by rw [owns_cons]; exact List.mem_append_right _ h) id
  show FrRel w (OO h X) t' a.tmps
  clear hs
  induction hz with
  | nil => intro i av h; simp [lk] at h
  | cons j b r h1 _ ih =>
    intro i av hi
    simp only [lk] at hi
    split at hi
    · rename_i e
      have := Nat.eq_of_beq_eq_true e
      subst this; cases hi
      obtain ⟨v, e1, r1⟩ := hfr _ _ h1
      exact ⟨v, e1, hloose _ _ r1⟩
    · exact ih i av hi
  | row j r h1 _ ih =>
    intro i av hi
    simp only [lk] at hi
    split at hi
    · rename_i e
      have := Nat.eq_of_beq_eq_true e
      subst this; cases hi
      obtain ⟨v, e1, r1⟩ := hfr _ _ h1
      exact ⟨v, e1, by rw [r1.v_eq]; exact hfz⟩
    · exact ih i av hi
section
variable {P : Program} {ro : Option Nat} {nt : Nat} {h : List Res} {f : Operand → Option AV} {dst : Option Tmp} {ty : TypeId} {pos : String} {after : Array Edge} {guard : Option (Nat × Bool)} {x y z : Operand}
theorem row_parts {X : Nat → Prop} {w : World} {s : Value} {sz i : Nat} {T : TypeId} {rows : List (List AV)} (hh : HRel X w h) (hr : h[i]? = some (.row s sz T rows)) (hne : rows ≠ []) :
    ∃ b off cap c, s = .slice (some ⟨b, off, none⟩) rows.length cap ∧ w.heap[b]? = some (.cells c T (0, 0)) ∧ off + cap * sz ≤ c.size ∧ rows.length ≤ cap ∧ (∀ k (hk : k < rows.length), rows[k].length = sz) ∧
      ∀ i (hi : i < rows.length) j (hj : j < rows[i].length), ∃ v, c[off + i * sz + j]? = some v ∧ Rel w (OO h X) rows[i][j] v := by
  have hx := hh.holds _ (List.mem_of_getElem? hr)
  cases s <;> try exact hx.elim
  rename_i a len cap
  cases a with
  | none => obtain ⟨h1, _⟩ := hx; exact absurd h1 hne
  | some a =>
    obtain ⟨h1, h2, h3, h4, c, h5, h6, h7⟩ := hx
    obtain ⟨b, off, spot⟩ := a
    simp only at h1; subst h1; subst h2
    exact ⟨b, off, cap, c, rfl, h5, h6, h3, h4, h7⟩
theorem qr_len_row {T E : TypeId} {tys : List TypeId} {s : Value} {sz i : Nat} {E' : TypeId} {rows : List (List AV)} (hx : f x = some (.v s)) [hr : HasRow h s i sz E' rows] [Und P T (.slice E)] :
    QR P h f ⟨dst, .call ⟨.builtin .len, [x].toArray, (T :: tys).toArray⟩, ty, pos, after, guard⟩ (.v (.int .i64 rows.length)) := fun X ρ w he => by
  obtain ⟨a, cap, es, _⟩ := row_list he.heap hr.h
  have hv := (he.rel x _ hx).v_eq
  refine ⟨_, ?_, .v _⟩
  simp only [execOp, resolve, List.map_toArray, List.map_cons, List.map_nil, hv, es, Sem.run_bind, Sem.run_pure, Result.andThen_ok, invoke, builtin, Builtin.len_, List.getElem?_toArray, List.getElem?_cons_zero, run_underlying (d := TypeDesc.slice E)]
  rfl
theorem qr_index_row {T E : TypeId} {s : Value} {sz i k : Nat} {E' : TypeId} {rows : List (List AV)} (hx : f x = some (.v s)) (hy : f y = some (.v (.int .i64 k))) [hr : HasRow h s i sz E' rows] [Und P T (.slice E)] [Siz P E sz] (hk : k < rows.length) :
    QR P h f ⟨dst, .indexAddr T x y, ty, pos, after, guard⟩ (.rp s sz k 0) := fun X ρ w he => by
  obtain ⟨b, off, cap, c, es, h1, h2, h3, h4, h5⟩ := row_parts he.heap hr.h (by intro e; simp [e] at hk)
  refine ⟨.pointer (some ⟨b, off + (k * sz + 0), none⟩), run_v _ ?_, ?_⟩
  · rw [(he.rel x _ hx).v_eq, (he.rel y _ hy).v_eq, es]
    simp only [Instr.indexAt, asIntOf, Sem.run_bind, Sem.run_pure, Result.andThen_ok, run_underlying (d := TypeDesc.slice E)]
    rw [if_pos (by omega)]
    simp only [Sem.run_bind, run_sizeOf (n := sz), Result.andThen_ok, Sem.run_pure, add_none, Int.toNat_natCast, Nat.add_zero]
  · rw [es]
    have := Rel.rp (w := w) (O := OO h X) ⟨b, off, none⟩ rows.length cap sz k 0
    rw [add_none] at this; exact this
theorem qr_load_rp_one {T : TypeId} {s : Value} {sz i k off : Nat} {E : TypeId} {rows : List (List AV)} {row : List AV} {av : AV} (hx : f x = some (.rp s sz k off)) [hr : HasRow h s i sz E rows] [IsA P T false] (hk : rows[k]? = some row) (hc : row[off]? = some av) :
    QR P h f ⟨dst, .load T x, ty, pos, after, guard⟩ av := fun X ρ w he => by
  obtain ⟨hlt, e⟩ := List.getElem?_eq_some_iff.1 hk
  obtain ⟨hlt2, e2⟩ := List.getElem?_eq_some_iff.1 hc
  obtain ⟨b, o, cap, c, es, h1, h2, h3, h4, h5⟩ := row_parts he.heap hr.h (by intro e; simp [e] at hlt)
  subst e
  obtain ⟨u, g1, g2⟩ := h5 k hlt off hlt2
  have hrel := he.rel x _ hx
  rw [es] at hrel
  generalize hv : ρ x = v at hrel
  cases hrel with
  | rp _ _ _ _ _ _ =>
    refine ⟨u, run_v _ ?_, by rw [← e2]; exact g2⟩
    rw [hv, add_none]
    simp only [Instr.loadAt, Instr.sureAddr, Sem.run_bind, Sem.run_pure, Result.andThen_ok]
    refine run_loadVar_one ?_
    simp only [World.cell?, h1, ← Nat.add_assoc, g1]; rfl
theorem qr_load_rp_agg {T : TypeId} {s : Value} {sz i k off n : Nat} {E : TypeId} {rows : List (List AV)} {row : List AV} (hx : f x = some (.rp s sz k off)) [hr : HasRow h s i sz E rows] [Siz P T n] [IsA P T true] (hk : rows[k]? = some row) (hle : off + n ≤ row.length) :
    QR P h f ⟨dst, .load T x, ty, pos, after, guard⟩ (.agg ((row.drop off).take n)) := fun X ρ w he => by
  obtain ⟨hlt, e⟩ := List.getElem?_eq_some_iff.1 hk
  obtain ⟨b, o, cap, c, es, h1, h2, h3, h4, h5⟩ := row_parts he.heap hr.h (by intro e; simp [e] at hlt)
  subst e
  have hrel := he.rel x _ hx
  rw [es] at hrel
  generalize hv : ρ x = v at hrel
  cases hrel with
  | rp _ _ _ _ _ _ =>
    refine ⟨.agg ((List.range n).map fun j => c[o + k * sz + (off + j)]?.getD undef).toArray, run_v _ ?_, .agg _ _ (by simp; omega) fun j a b' => ?_⟩
    · rw [hv, add_none]
      simp only [Instr.loadAt, Instr.sureAddr, Sem.run_bind, Sem.run_pure, Result.andThen_ok]
      refine run_loadVar_agg (n := n) _ fun j hj => ?_
      obtain ⟨u, g1, g2⟩ := h5 k hlt (off + j) (by omega)
      simp only [World.cell?, h1]
      rw [show o + (k * sz + off) + j = o + k * sz + (off + j) by omega, g1]; rfl
    · have hj : j < n := by simp at a; omega
      obtain ⟨u, g1, g2⟩ := h5 k hlt (off + j) (by omega)
      simpa [g1] using g2
theorem oe_store_rp {T : TypeId} {s : Value} {sz i k off n : Nat} {E : TypeId} {rows : List (List AV)} {row cs : List AV} {av : AV} {t : Fr} {h' : List Res} {ds : List Nat} {next : St → Prop} (hx : ev t x = some (.rp s sz k off)) (hy : ev t y = some av) (hc : av.cellsOf = some cs)
    [hr : HasRow h s i sz E rows] [Siz P T n] (hk : rows[k]? = some row) (hn : cs.length = n) (hle : off + n ≤ row.length) [hset : SetAt h i (.row s sz E (rows.set k (row.take off ++ cs ++ row.drop (off + n)))) h'] (hnext : next ⟨t, h', ds⟩) :
    OE P ro nt ⟨none, .store T x y, ty, pos, after, guard⟩ ⟨t, h, ds⟩ next := by
  refine oe_skip_run rfl rfl (fun X a w hs => ?_) hnext
  obtain ⟨hlt, e⟩ := List.getElem?_eq_some_iff.1 hk
  obtain ⟨b, o, cap, c, es, h1, h2, h3, h4, h5⟩ := row_parts hs.heap hr.h (by intro e; simp [e] at hlt)
  subst e
  obtain ⟨g1, g2, g3⟩ := (hs.env.rel y _ hy).cells hc
  have hrel := hs.env.rel x _ hx
  rw [es] at hrel
  generalize hv : a.eval x = v at hrel
  have hsz := h4 k hlt
  have hmul : (k + 1) * sz ≤ rows.length * sz := Nat.mul_le_mul_right _ hlt
  have hmul2 : rows.length * sz ≤ cap * sz := Nat.mul_le_mul_right _ h3
  rw [Nat.add_mul] at hmul
  cases hrel with
  | rp _ _ _ _ _ _ =>
    obtain ⟨w', f1, f2, f3, c', f4, f5, f6, ev⟩ := run_storeCells (P := P) (a.eval y).cells.toList (o + (k * sz + off)) 0 w c g3 h1 (by simp; omega)
    have hbown : b ∈ (Res.row s sz E rows).own := by rw [es]; simp [Res.own]
    have hkk : ∀ b', ¬ OO h X b' → b' < w.heap.size → w'.heap[b']? = w.heap[b']? ∧ ¬ OO h X b' := fun b' hb' _ => ⟨f3 b' (fun he => hb' (.inl (mem_owns.2 ⟨_, List.mem_of_getElem? hr.h, he ▸ hbown⟩))), hb'⟩
    have hoth : ∀ b', b' < w.heap.size → b' ∉ (Res.row s sz E rows).own → w'.heap[b']? = w.heap[b']? := fun b' _ hne => f3 b' fun he => hne (he ▸ hbown)
    have hown : (Res.row s sz E (rows.set k (rows[k].take off ++ cs ++ rows[k].drop (off + n)))).own = (Res.row s sz E rows).own := by rw [es]; rfl
    have hlen2 : (rows[k].take off ++ cs ++ rows[k].drop (off + n)).length = sz := by simp; omega
    have hholds : (Res.row s sz E (rows.set k (rows[k].take off ++ cs ++ rows[k].drop (off + n)))).holds w' (OO h X) := by
      rw [es]
      refine ⟨rfl, by simp, h3, fun i hi => ?_, c', f4, by simp only; omega, fun i hi j hj => ?_⟩
      · by_cases hik : k = i
        · subst hik; simp [List.getElem_set_self]; omega
        · rw [List.getElem_set_ne hik]; exact h4 i (by simpa using hi)
      · have hi' : i < rows.length := by simpa using hi
        by_cases hik : k = i
        · subst hik
          simp only [List.getElem_set_self] at hj ⊢
          have hj' : j < sz := by rw [← hlen2]; exact hj
          by_cases hj1 : j < off
          · obtain ⟨u, q1, q2⟩ := h5 k hi' j (by omega)
            refine ⟨u, ?_, ?_⟩
            · rw [f6, if_neg (by simp; omega)]; exact q1
            · have e1 : (rows[k].take off ++ cs ++ rows[k].drop (off + n))[j] = rows[k][j]'(by omega) := by
                rw [List.getElem_append_left (by simp; omega), List.getElem_append_left (by simp; omega)]; simp
              rw [e1]; exact q2.keep (by omega) hkk
          · by_cases hj2 : j < off + n
            · have hjc : j - off < (a.eval y).cells.size := by omega
              refine ⟨(a.eval y).cells[j - off], ?_, ?_⟩
              · rw [f6, if_pos (by simp; omega), show o + k * sz + j - (o + (k * sz + off) + 0) = j - off by omega]
                simp [hjc]
              · have e1 : (rows[k].take off ++ cs ++ rows[k].drop (off + n))[j] = cs[j - off]'(by omega) := by
                  rw [List.getElem_append_left (by simp; omega), List.getElem_append_right (by simp; omega)]; simp [Nat.min_eq_left (show off ≤ rows[k].length by omega)]
                rw [e1]; exact (g2 (j - off) (by omega) hjc).keep (by omega) hkk
            · obtain ⟨u, q1, q2⟩ := h5 k hi' j (by omega)
              refine ⟨u, ?_, ?_⟩
              · rw [f6, if_neg (by simp; omega)]; exact q1
              · have e1 : (rows[k].take off ++ cs ++ rows[k].drop (off + n))[j] = rows[k][j]'(by omega) := by
                  rw [List.getElem_append_right (by simp; omega), List.getElem_drop]
                  congr 1; simp [Nat.min_eq_left (show off ≤ rows[k].length by omega)]; omega
                rw [e1]; exact q2.keep (by omega) hkk
        · simp only [List.getElem_set_ne hik] at hj ⊢
          obtain ⟨u, q1, q2⟩ := h5 i hi' j hj
          have hj' : j < sz := by rw [← h4 i hi']; exact hj
          refine ⟨u, ?_, q2.keep (by omega) hkk⟩
          have hcase : (i + 1) * sz ≤ k * sz ∨ (k + 1) * sz ≤ i * sz := by
            rcases Nat.lt_or_gt_of_ne hik with h | h
            · exact .inr (Nat.mul_le_mul_right _ h)
            · exact .inl (Nat.mul_le_mul_right _ h)
          rw [Nat.add_mul, Nat.add_mul] at hcase
          show c'[o + i * sz + j]? = some u
          rw [f6, if_neg (by simp; omega)]; exact q1
    refine ⟨w', ?_, ⟨?_, hs.size, ?_, hs.defs⟩, ?_⟩
    · refine run_u ?_
      rw [hv, add_none]
      simp only [Instr.storeAt, Instr.sureAddr, Sem.run_bind, Sem.run_pure, Result.andThen_ok, storeVar, run_sizeOf (n := n)]
      rw [if_neg (by simp; omega)]
      simp only [Sem.run_bind, Sem.run_pure, Result.andThen_ok, f1]
    · exact hset.h ▸ hs.heap.set hr.h hown (by omega) hoth hholds
    · have hO : OO h' X = OO h X := by funext b'; rw [← hset.h]; simp only [OO, owns_set hr.h hown]
      show FrRel w' (OO h' X) t a.tmps
      rw [hO]; exact hs.fr.keep (by omega) hkk
    · exact hset.h ▸ Keep.set hr.h hown (by omega) hoth ev
/-- A number turned into another kind. -/
theorem qr_convert {S T : TypeId} {k k' : IntKind} {n m : Int} (hx : f x = some (.v (.int k n))) [hs : Und P S (.int k)] [ht : Und P T (.int k')] (hm : k'.wrap n = m) :
    QR P h f ⟨dst, .convert S T x, ty, pos, after, guard⟩ (.v (.int k' m)) := fun X ρ w he => by
  refine ⟨_, run_v _ ?_, .v _⟩
  rw [(he.rel x _ hx).v_eq]
  simp only [convert, Sem.run_bind, run_underlying (d := TypeDesc.int k), run_underlying (d := TypeDesc.int k'), Result.andThen_ok, Conv.intToInt, Sem.run_pure, hm]
/-- Structs of numbers, held against one another. -/
class EqInts (P : Program) (T : TypeId) (n : outParam Nat) : Prop where
  g : P.eqGuardType P.depth T = false
  q : ∀ (w : World) (xs ys : List Int), xs.length = n → ys.length = n → (Op.equalIn 10000 T (.agg (xs.map (.int .i64)).toArray) (.agg (ys.map (.int .i64)).toArray)).run P w = .ok (xs == ys) w
def intsOf : List AV → Option (List Int)
  | [] => some []
  | .v (.int .i64 n) :: r => match intsOf r with
    | some l => some (n :: l)
    | none => none
  | _ => none
theorem intsOf_rel {w : World} {O : Nat → Prop} : ∀ {cells : List AV} {xs : List Int} {c : Array Value}, intsOf cells = some xs → cells.length = c.size → (∀ j (h1 : j < cells.length) (h2 : j < c.size), Rel w O cells[j] c[j]) → c = (xs.map (Value.int .i64)).toArray := by
  intro cells xs c h hl hr
  have : ∀ (cells : List AV) (xs : List Int) (cl : List Value), intsOf cells = some xs → cells.length = cl.length → (∀ j (h1 : j < cells.length) (h2 : j < cl.length), Rel w O cells[j] cl[j]) → cl = xs.map (Value.int .i64) := by
    intro cells
    induction cells with
    | nil => intro xs cl h hl _; cases h; cases cl with
      | nil => rfl
      | cons a b => simp at hl
    | cons a r ih =>
      intro xs cl h hl hr
      cases cl with
      | nil => simp at hl
      | cons u us =>
        unfold intsOf at h
        split at h
        · rename_i heq; cases heq
        · rename_i n r' heq
          cases heq
          split at h
          · rename_i l hl2
            cases h
            have h0 := hr 0 (by simp) (by simp)
            simp only [List.getElem_cons_zero] at h0
            rw [List.map_cons, h0.v_eq, ih l us hl2 (by simpa using hl) fun j a b => hr (j + 1) (Nat.succ_lt_succ a) (Nat.succ_lt_succ b)]
          · cases h
        · cases h
  have h2 := this cells xs c.toList h (by simpa using hl) (fun j a b => by simpa using hr j a (by simpa using b))
  rw [← h2]
theorem intsOf_length : ∀ {cells : List AV} {xs : List Int}, intsOf cells = some xs → xs.length = cells.length
  | [], xs, h => by cases h; rfl
  | a :: r, xs, h => by
    unfold intsOf at h
    split at h
    · rename_i heq; cases heq
    · rename_i n r' heq
      cases heq
      split at h
      · rename_i l hl; cases h; simp [intsOf_length hl]
      · cases h
    · cases h
theorem qr_eqagg {T T' : TypeId} {n : Nat} {cs ds : List AV} {xs ys : List Int} (hx : f x = some (.agg cs)) (hy : f y = some (.agg ds)) (h1 : intsOf cs = some xs) (h2 : intsOf ds = some ys) [he : EqInts P T n] (hn1 : cs.length = n := by rfl) (hn2 : ds.length = n := by rfl) :
    QR P h f ⟨dst, .binOp .eql T x y T', ty, pos, after, guard⟩ (.v (.bool (xs == ys))) := fun X ρ w hev => by
  have r1 := hev.rel x _ hx
  have r2 := hev.rel y _ hy
  generalize hu : ρ x = u at r1
  generalize hv : ρ y = v at r2
  cases r1 with
  | agg _ c a1 a2 =>
    cases r2 with
    | agg _ d b1 b2 =>
      refine ⟨_, run_v _ ?_, .v _⟩
      rw [hu, hv, intsOf_rel h1 a1 a2, intsOf_rel h2 b1 b2]
      simp only [Sem.run_bind, run_eqGuard_agg w .eql T x y _ _ he.g, Result.andThen_ok, run_eql_struct, he.q w xs ys (by rw [intsOf_length h1]; exact hn1) (by rw [intsOf_length h2]; exact hn2)]
theorem qr_neagg {T T' : TypeId} {n : Nat} {cs ds : List AV} {xs ys : List Int} (hx : f x = some (.agg cs)) (hy : f y = some (.agg ds)) (h1 : intsOf cs = some xs) (h2 : intsOf ds = some ys) [he : EqInts P T n] (hn1 : cs.length = n := by rfl) (hn2 : ds.length = n := by rfl) :
    QR P h f ⟨dst, .binOp .neq T x y T', ty, pos, after, guard⟩ (.v (.bool (!(xs == ys)))) := fun X ρ w hev => by
  have r1 := hev.rel x _ hx
  have r2 := hev.rel y _ hy
  generalize hu : ρ x = u at r1
  generalize hv : ρ y = v at r2
  cases r1 with
  | agg _ c a1 a2 =>
    cases r2 with
    | agg _ d b1 b2 =>
      refine ⟨_, run_v _ ?_, .v _⟩
      rw [hu, hv, intsOf_rel h1 a1 a2, intsOf_rel h2 b1 b2]
      simp only [Sem.run_bind, run_eqGuard_agg w .neq T x y _ _ he.g, Result.andThen_ok, run_neq_struct, he.q w xs ys (by rw [intsOf_length h1]; exact hn1) (by rw [intsOf_length h2]; exact hn2)]
end
end Go.Ab
/- The abstract logic, part 16: maps. Conditions: none (lemmas over any program). -/
set_option linter.unusedVariables false
set_option linter.unusedSimpArgs false
set_option linter.unusedSectionVars false
namespace Go.Ab
open Go
/-- Where a key stands among entries. -/
def fK {K : Type} [DecidableEq K] (k : K) : List K → List MapEntry → Nat → Option (Nat × Value)
  | k' :: ks, e :: es, i => if k' = k then some (i, e.val) else fK k ks es (i + 1)
  | _, _, _ => none
class KeyT (P : Program) (kt : TypeId) {K : Type} [DecidableEq K] (enc : K → Value) : Prop where
  inj : ∀ a b, enc a = enc b → a = b
  stays : ∀ a, Instr.sameBits 10000 (enc a) (enc a) = true
  chk : ∀ (e : Bool) (w : World) (k : K), (Instr.checkKey e 10000 kt (enc k)).run P w = .ok () w
  find : ∀ (w : World) (k : K) (l : List MapEntry) (ks : List K), l.map (·.key) = ks.map enc → (Instr.findKey kt (enc k) l).run P w = .ok (fK k ks l 0) w
theorem findNow_fK {K : Type} [DecidableEq K] {enc : K → Value} {d : TypeDesc} (hs : ∀ a b, Instr.sameNow d (enc a) (enc b) = some (decide (a = b))) (k : K) :
    ∀ (l : List MapEntry) (ks : List K) (i : Nat), l.map (·.key) = ks.map enc → Instr.findNow d (enc k) l i = some (fK k ks l i)
  | [], [], _, _ => rfl
  | e :: l, k' :: ks, i, h => by
    simp only [List.map_cons, List.cons.injEq] at h
    simp only [Instr.findNow, fK, h.1, hs]
    by_cases hk : k = k'
    · simp [hk]
    · simp [hk, Ne.symm hk, findNow_fK hs k l ks (i + 1) h.2]
  | [], _ :: _, _, h => by simp at h
  | _ :: _, [], _, h => by simp at h
def intK (n : Int) : Value := .int .i64 n
instance KeyT.int {P : Program} {kt : TypeId} [hu : Und P kt (.int .i64)] : KeyT P kt intK where
  inj := fun a b h => by simpa [intK] using h
  stays := fun a => by simp [intK, Instr.sameBits]
  chk := fun e w k => MapKept.run_checkKey hu.h (by simp [intK, MapKept.IsKey]) e 9999
  find := fun w k l ks h => MapKept.run_findKey hu.h (findNow_fK (fun a b => by simp [intK, Instr.sameNow]; rfl) k l ks 0 h)
class Chk2 (P : Program) (kt : TypeId) : Prop where
  h : ∀ (e : Bool) (w : World) (a b : Int), (Instr.checkKey e 10000 kt (.agg #[.int .i64 a, .int .i64 b])).run P w = .ok () w
/-! Entries by their keys. -/
def encM {K : Type} (enc : K → Value) (es : List (K × AV)) : List (Value × AV) := es.map fun p => (enc p.1, p.2)
def lookM {K : Type} [DecidableEq K] (k : K) : List (K × AV) → Option AV
  | [] => none
  | p :: r => if p.1 = k then some p.2 else lookM k r
def updM {K : Type} [DecidableEq K] (k : K) (a : AV) : List (K × AV) → List (K × AV)
  | [] => [(k, a)]
  | p :: r => if p.1 = k then (p.1, a) :: r else p :: updM k a r
/-- fK and lookM and updM, side by side. -/
theorem fK_spec {K : Type} [DecidableEq K] (k : K) : ∀ (es : List (K × AV)) (l : List MapEntry) (i : Nat), es.length = l.length →
    (fK k (es.map (·.1)) l i = none ∧ lookM k es = none ∧ (∀ a, updM k a es = es ++ [(k, a)])) ∨
    ∃ j, ∃ (h1 : j < es.length) (h2 : j < l.length), fK k (es.map (·.1)) l i = some (i + j, l[j].val) ∧ lookM k es = some es[j].2 ∧ es[j].1 = k ∧ ∀ a, updM k a es = es.set j (k, a)
  | [], [], i, _ => .inl ⟨rfl, rfl, fun _ => rfl⟩
  | p :: es, e :: l, i, hl => by
    by_cases hk : p.1 = k
    · exact .inr ⟨0, by simp, by simp, by simp [fK, hk], by simp [lookM, hk], by simpa using hk, fun a => by simp [updM, hk]⟩
    · rcases fK_spec k es l (i + 1) (by simpa using hl) with ⟨a, b, c⟩ | ⟨j, h1, h2, a, b, c, d⟩
      · exact .inl ⟨by simp [fK, hk, a], by simp [lookM, hk, b], fun v => by simp [updM, hk, c]⟩
      · exact .inr ⟨j + 1, by simpa using h1, by simpa using h2, by simp [fK, hk, a]; omega, by simp [lookM, hk, b], by simpa using c, fun v => by simp [updM, hk, d]⟩
  | [], _ :: _, _, h => by simp at h
  | _ :: _, [], _, h => by simp at h
theorem keys_of_holds {K : Type} {enc : K → Value} {es : List (K × AV)} {ents : Array MapEntry} {w : World} {O : Nat → Prop} (hl : (encM enc es).length = ents.size)
    (hr : ∀ i (h1 : i < (encM enc es).length) (h2 : i < ents.size), (encM enc es)[i].1 = ents[i].key ∧ Rel w O (encM enc es)[i].2 ents[i].val) : ents.toList.map (·.key) = (es.map (·.1)).map enc := by
  have hl' : es.length = ents.size := by simpa [encM] using hl
  refine List.ext_getElem (by simp [hl']) fun i h1 h2 => ?_
  have := (hr i (by simp [encM]; simpa using h2) (by simpa using h1)).1
  simp [encM] at this ⊢
  exact this.symm
/-- A value that is known. -/
class KeyV (av : AV) (v : outParam Value) : Prop where
  h : ∀ w O u, Rel w O av u → u = v
instance KeyV.v {x : Value} : KeyV (.v x) x := ⟨fun w O u r => r.v_eq⟩
section
variable {P : Program} {ro : Option Nat} {nt : Nat} {dst : Option Tmp} {ty : TypeId} {pos : String} {after : Array Edge} {guard : Option (Nat × Bool)} {x y z : Operand} {t : Fr} {h h' : List Res} {ds : List Nat} {next : St → Prop} {f : Operand → Option AV}
  {K : Type} [DecidableEq K] {enc : K → Value} {es : List (K × AV)} {kt et T : TypeId} {r i : Nat} {k : K} {av : AV}
theorem oe_makeMap {d : Tmp} (hlt : dok nt (some d) = true) (hk : ∀ r, next ⟨(d, .v (.map (some r))) :: t, .map r (encM enc []) :: h, ds⟩) :
    OE P ro nt ⟨some d, .makeMap T none, ty, pos, after, guard⟩ ⟨t, h, ds⟩ next := by
  intro X a w K Q hs hK
  refine ⟨about_true, ?_⟩
  have e : (execOp a.eval (⟨some d, .makeMap T none, ty, pos, after, guard⟩ : Oper)).run P w = .ok (.value (.map (some w.heap.size))) { w with heap := w.heap.push (.map #[] 0) } := by
    refine run_v _ ?_
    simp only [Option.map_none, Instr.makeMap, Sem.run_bind, Sem.run_pure, Result.andThen_ok, run_newObj]
  rw [semAt_nd rfl, e]
  have hx : Res.holds { w with heap := w.heap.push (.map #[] 0) } (OO (.map w.heap.size [] :: h) X) (.map w.heap.size []) :=
    ⟨#[], 0, by simp, rfl, fun i h1 _ => by simp at h1, fun i h1 => by simp at h1, fun i j h1 => by simp at h1⟩
  have hk2 : Keep (owns h) w (owns (.map w.heap.size [] :: h)) { w with heap := w.heap.push (.map #[] 0) } := Keep.alloc (h := h) (.map #[] 0) (.map w.heap.size []) rfl
  have hh2 := hs.heap.alloc (.map #[] 0) (.map w.heap.size []) rfl hx
  refine hK _ _ _ (hk w.heap.size) (Sim.put (s := ⟨t, .map w.heap.size [] :: h, ds⟩) ⟨hh2, hs.size, hs.fr.keep hk2.size (fun b hb hl => hk2.oo b hb hl), hs.defs⟩ hlt (.v _)) hk2
theorem run_lookup {X : Nat → Prop} {w : World} {key z : Value} {ok : Bool} [hm : HasMap h r i (encM enc es)] [hu : Und P T (.map kt et)] [hkt : KeyT P kt enc] [hz : ZerV P et z] (hh : HRel X w h) (he : key = enc k) :
    ∃ v, (Instr.lookup T (.map (some r)) key ok).run P w = .ok (if ok then .tuple #[v, .bool (lookM k es).isSome] else v) w ∧ Rel w (OO h X) ((lookM k es).getD (.v z)) v := by
  obtain ⟨ents, clock, h1, h2, h3, h4, h5⟩ := hh.holds _ (List.mem_of_getElem? hm.h)
  subst he
  have hks := keys_of_holds h2 h3
  have hl' : es.length = ents.toList.length := by simpa [encM] using h2
  have hfind := hkt.find w k ents.toList (es.map (·.1)) hks
  simp only [Instr.lookup, Sem.run_bind, run_underlying (h := hu), Result.andThen_ok, MapKept.run_getObj_map h1, Sem.run_pure, hkt.chk, hfind]
  rcases fK_spec k es ents.toList 0 hl' with ⟨a, b, c⟩ | ⟨j, g1, g2, a, b, c, d⟩
  · refine ⟨z, ?_, by rw [b]; exact .v _⟩
    rw [a, b]
    cases ok <;> simp [run_zeroValue hz.h]
  · refine ⟨(ents[j]'(by simpa using g2)).val, ?_, ?_⟩
    · rw [a, b]
      cases ok <;> simp
    · rw [b]
      have := (h3 j (by simpa [encM] using g1) (by simpa using g2)).2
      simpa [encM] using this
theorem qr_lookup {kv : AV} {z : Value} (hx : f x = some (.v (.map (some r)))) (hy : f y = some kv) [hkv : KeyV kv (enc k)] [hm : HasMap h r i (encM enc es)] [hu : Und P T (.map kt et)] [hkt : KeyT P kt enc] [hz : ZerV P et z]
    (hl : (lookM k es).getD (.v z) = av) : QR P h f ⟨dst, .lookup T x y false, ty, pos, after, guard⟩ av := fun X ρ w hev => by
  obtain ⟨v, e, hr⟩ := run_lookup (P := P) (T := T) (kt := kt) (et := et) (enc := enc) (k := k) (es := es) (r := r) (ok := false) hev.heap (hkv.h w _ _ (hev.rel y _ hy))
  refine ⟨v, run_v _ ?_, hl ▸ hr⟩
  rw [(hev.rel x _ hx).v_eq]; simpa using e
theorem run_keyThatStays {w : World} [hkt : KeyT P kt enc] : (Instr.keyThatStays (enc k) (enc k)).run P w = .ok (enc k) w := by
  simp [Instr.keyThatStays, hkt.stays]
theorem oe_mapUpdate {kv : AV} (hx : ev t x = some (.v (.map (some r)))) (hy : ev t y = some kv) (hz : ev t z = some av) [hkv : KeyV kv (enc k)] [hm : HasMap h r i (encM enc es)] [hu : Und P T (.map kt et)] [hkt : KeyT P kt enc]
    [hset : SetAt h i (.map r (encM enc (updM k av es))) h'] (hk : next ⟨t, h', ds⟩) : OE P ro nt ⟨none, .mapUpdate T x y z, ty, pos, after, guard⟩ ⟨t, h, ds⟩ next := by
  refine oe_skip_run rfl rfl (fun X a w hs => ?_) hk
  obtain ⟨ents, clock, h1, h2, h3, h4, h5⟩ := hs.heap.holds _ (List.mem_of_getElem? hm.h)
  have hrv := hs.env.rel z _ hz
  have hks := keys_of_holds h2 h3
  have hl' : es.length = ents.toList.length := by simpa [encM] using h2
  have hfind := hkt.find w k ents.toList (es.map (·.1)) hks
  have hrun : ∃ ents' clock', (Instr.mapUpdate T (a.eval x) (a.eval y) (a.eval z)).run P w = .ok () { w with heap := w.heap.setIfInBounds r (.map ents' clock') } ∧
      (encM enc (updM k av es)).length = ents'.size ∧ (∀ i (h1 : i < (encM enc (updM k av es)).length) (h2 : i < ents'.size), (encM enc (updM k av es))[i].1 = ents'[i].key ∧ Rel w (OO h X) (encM enc (updM k av es))[i].2 ents'[i].val) ∧
      (∀ i (h : i < ents'.size), ents'[i].born < clock') ∧ (∀ i j (hi : i < ents'.size) (hj : j < ents'.size), i < j → ents'[i].born < ents'[j].born) := by
    rw [(hs.env.rel x _ hx).v_eq, hkv.h w _ _ (hs.env.rel y _ hy)]
    simp only [Instr.mapUpdate, Sem.run_bind, run_underlying (h := hu), Result.andThen_ok, MapKept.run_getObj_map h1, hkt.chk, hfind]
    rcases fK_spec k es ents.toList 0 hl' with ⟨g, b, c⟩ | ⟨j, g1, g2, g, b, c, d⟩
    · rw [g, c av]
      refine ⟨_, _, MapKept.run_setObj_map _ h1, by simp [encM, hl'], fun i a1 a2 => ?_, fun i a1 => ?_, fun i j a1 a2 a3 => ?_⟩
      · simp only [encM, List.map_append, List.map_cons, List.map_nil, List.getElem_append, Array.getElem_push]
        by_cases hi : i < ents.size
        · have : i < (List.map (fun p : K × AV => (enc p.1, p.2)) es).length := by simp; simp at hl'; omega
          simp only [hi, this, dif_pos]
          exact h3 i (by simpa [encM] using this) hi
        · have h9 : ¬ i < (List.map (fun p : K × AV => (enc p.1, p.2)) es).length := by simp; simp at hl'; omega
          simp only [hi, h9, dif_neg, not_false_eq_true, List.getElem_singleton]
          exact ⟨trivial, hrv⟩
      · rw [Array.getElem_push]
        split
        · have := h4 i (by assumption); omega
        · simp
      · simp only [Array.size_push] at a1 a2
        rw [Array.getElem_push, Array.getElem_push]
        split <;> split
        · exact h5 i j _ _ a3
        · have := h4 i (by assumption); simpa using this
        · omega
        · omega
    · rw [g, d av]
      have hj : j < ents.size := by simpa using g2
      have hkey : ents[j].key = enc k := by
        have := (h3 j (by simpa [encM] using g1) hj).1
        simp [encM] at this
        rw [← this, c]
      have hgd : ((ents[j]?).map (·.key)).getD (enc k) = enc k := by
        rw [Array.getElem?_eq_getElem hj]; simp [hkey]
      simp only [Sem.run_bind, Nat.zero_add, hgd, run_keyThatStays (P := P) (kt := kt), Result.andThen_ok]
      refine ⟨_, _, MapKept.run_setObj_map _ h1, by simp [encM]; simpa using hl', fun i a1 a2 => ?_, fun i a1 => ?_, fun i j' a1 a2 a3 => ?_⟩
      · simp only [Array.size_modify] at a2
        rw [Array.getElem_modify]
        simp only [encM, List.getElem_map, List.getElem_set]
        split
        · exact ⟨rfl, hrv⟩
        · have := h3 i (by simpa [encM] using a1) a2
          simpa [encM] using this
      · simp only [Array.size_modify] at a1
        rw [Array.getElem_modify]
        split <;> exact h4 i a1
      · simp only [Array.size_modify] at a1 a2
        rw [Array.getElem_modify, Array.getElem_modify]
        split <;> split <;> exact h5 i j' a1 a2 a3
  obtain ⟨ents', clock', e, e1, e2, e3, e4⟩ := hrun
  have hlt : r < w.heap.size := (Array.getElem?_eq_some_iff.1 h1).1
  have hoth : ∀ b, b ≠ r → (w.heap.setIfInBounds r (.map ents' clock'))[b]? = w.heap[b]? := fun b hb => by rw [Array.getElem?_setIfInBounds_ne (Ne.symm hb)]
  have hrown : OO h X r := .inl (mem_owns.2 ⟨_, List.mem_of_getElem? hm.h, by simp [Res.own]⟩)
  have hkk : ∀ b, ¬ OO h X b → b < w.heap.size → (w.heap.setIfInBounds r (.map ents' clock'))[b]? = w.heap[b]? ∧ ¬ OO h X b := fun b hb hl => ⟨hoth b (fun q => hb (q ▸ hrown)), hb⟩
  have hholds : (Res.map r (encM enc (updM k av es))).holds { w with heap := w.heap.setIfInBounds r (.map ents' clock') } (OO h X) :=
    ⟨ents', clock', by simp [hlt], e1, fun i a1 a2 => ⟨(e2 i a1 a2).1, (e2 i a1 a2).2.keep (by simp) hkk⟩, e3, e4⟩
  have hh2 := hs.heap.set (w' := { w with heap := w.heap.setIfInBounds r (.map ents' clock') }) hm.h (y := .map r (encM enc (updM k av es))) rfl (by simp) (fun b hb hne => hoth b (by simpa [Res.own] using hne)) hholds
  rw [hset.h] at hh2
  have hown : owns h' = owns h := by rw [← hset.h]; exact owns_set hm.h rfl
  have hkeep : Keep (owns h) w (owns h') { w with heap := w.heap.setIfInBounds r (.map ents' clock') } := ⟨by simp, fun b hb ho => ⟨hoth b (fun q => ho (q ▸ mem_owns.2 ⟨_, List.mem_of_getElem? hm.h, by simp [Res.own]⟩)), by rw [hown]; exact ho⟩, EnvS.eq rfl rfl rfl (by first | exact Nat.le_refl _ | exact Nat.le_succ _)⟩
  exact ⟨_, run_u e, ⟨hh2, hs.size, hs.fr.keep hkeep.size (fun b hb hl => hkeep.oo b hb hl), hs.defs⟩, hkeep⟩
end
end Go.Ab
/- The abstract logic, part 17: ranging over maps and strings; make of slices. Conditions: none (lemmas over any program). -/
set_option linter.unusedVariables false
set_option linter.unusedSimpArgs false
set_option linter.unusedSectionVars false
namespace Go.Ab
open Go
section
variable {P : Program} {ro : Option Nat} {nt : Nat} {dst : Option Tmp} {ty : TypeId} {pos : String} {after : Array Edge} {guard : Option (Nat × Bool)} {x y z : Operand} {t : Fr} {h h' : List Res} {ds : List Nat} {next : St → Prop} {f : Operand → Option AV}
/-- An object set anew. -/
class HasObj (h : List Res) (b : Nat) (i : outParam Nat) (o : outParam Obj) : Prop where
  h : h[i]? = some (.obj b o)
theorem qr_entry {r b i : Nat} {es : List (Value × AV)} {seen : List Nat} (hx : f x = some (.v (.pointer (some ⟨b, 0, none⟩)))) (hi : i < es.length) :
    QR P (.mapr r es b (i :: seen) :: h) f ⟨dst, .entry x, ty, pos, after, guard⟩ (.tup [.v es[i].1, es[i].2]) := fun X ρ w hev => by
  obtain ⟨ents, clock, sa, h1, h2, h3, h4, h5, h6, h7, h8⟩ := hev.heap.holds (.mapr r es b (i :: seen)) (by simp)
  obtain ⟨hie, hback⟩ := h8 i rfl
  have h3' := h3 i hi hie
  have hborn : ∀ i j (hi : i < ents.size) (hj : j < ents.size), ents[i].born = ents[j].born → i = j := fun i j hi hj e => by
    rcases Nat.lt_trichotomy i j with hlt | he | hlt
    · have := h5 i j hi hj hlt; omega
    · exact he
    · have := h5 j i hj hi hlt; omega
  have hfind : ents.find? (·.born == ents[i].born) = some ents[i] := by
    cases hf : ents.find? (·.born == ents[i].born) with
    | none =>
      rw [Array.find?_eq_none] at hf
      exact absurd (by simp) (hf ents[i] (Array.getElem_mem hie))
    | some e =>
      have hm := Array.mem_of_find?_eq_some hf
      have hp := Array.find?_some hf
      obtain ⟨j, hj, rfl⟩ := Array.getElem_of_mem hm
      simp only [beq_iff_eq] at hp
      have := hborn j i hj hie hp
      subst this; rfl
  refine ⟨.tuple #[ents[i].key, ents[i].val], run_v _ ?_, .tup _ _ rfl fun j g1 g2 => ?_⟩
  · rw [(hev.rel x _ hx).v_eq]
    have g1 : (getObj b).run P w = .ok (.mapIter (some r) clock sa clock) w := by simp [getObj, Sem.run, h6]
    simp only [Instr.entry, Sem.run_bind, g1, Result.andThen_ok, hback, MapKept.run_getObj_map h1, bne_self_eq_false, Bool.false_eq_true, if_false, hfind, Sem.run_pure]
  · match j, g1, g2 with
    | 0, _, _ =>
      show Rel w _ (.v es[i].1) ents[i].key
      rw [h3'.1]; exact .v _
    | 1, _, _ => exact h3'.2
    | j + 2, h1, _ => simp at h1; omega
end
end Go.Ab
/- The abstract logic, part 18: numbers of other widths, their bits; make of slices; equality of truths. Conditions: none (lemmas over any program). -/
set_option linter.unusedVariables false
set_option linter.unusedSimpArgs false
set_option linter.unusedSectionVars false
namespace Go.Ab
open Go
def bitsI (op : BinOp) (k : IntKind) (x y : Int) : Option Int :=
  let a := BitVec.ofInt k.bits x
  let b := BitVec.ofInt k.bits y
  match op with
  | .and => some (k.wrap (a &&& b).toNat)
  | .or => some (k.wrap (a ||| b).toNat)
  | .xor => some (k.wrap (a ^^^ b).toNat)
  | .andNot => some (k.wrap (a &&& ~~~b).toNat)
  | .add => some (k.wrap (x + y))
  | .sub => some (k.wrap (x - y))
  | .mul => some (k.wrap (x * y))
  | _ => none
def shiftI (op : BinOp) (k : IntKind) (x y : Int) : Option Int :=
  match op with
  | .shl => some (k.wrap (x * 2 ^ (min y.toNat k.bits)))
  | .shr => some (x.fdiv (2 ^ (min y.toNat k.bits)))
  | _ => none
section
variable {P : Program} {ro : Option Nat} {nt : Nat} {dst : Option Tmp} {ty : TypeId} {pos : String} {after : Array Edge} {guard : Option (Nat × Bool)} {x y z : Operand} {t : Fr} {h h' : List Res} {ds : List Nat} {next : St → Prop} {f : Operand → Option AV}
theorem qr_bits {op : BinOp} {T T' : TypeId} {k : IntKind} {a b c : Int} (hx : f x = some (.v (.int k a))) (hy : f y = some (.v (.int k b))) (hc : bitsI op k a b = some c) :
    QR P h f ⟨dst, .binOp op T x y T', ty, pos, after, guard⟩ (.v (.int k c)) := fun X ρ w he => by
  refine ⟨_, run_v _ ?_, .v _⟩
  rw [(he.rel x _ hx).v_eq, (he.rel y _ hy).v_eq, run_binop_int]
  cases op <;> simp only [bitsI, Option.some.injEq, reduceCtorEq] at hc <;> subst hc <;> simp [binOp, Op.intArith, Op.intBits]
theorem qr_shift {op : BinOp} {T T' : TypeId} {k k' : IntKind} {a b c : Int} (hx : f x = some (.v (.int k a))) (hy : f y = some (.v (.int k' b))) (hc : shiftI op k a b = some c) (hb : 0 ≤ b) :
    QR P h f ⟨dst, .binOp op T x y T', ty, pos, after, guard⟩ (.v (.int k c)) := fun X ρ w he => by
  refine ⟨_, run_v _ ?_, .v _⟩
  rw [(he.rel x _ hx).v_eq, (he.rel y _ hy).v_eq]
  have hb' : ¬ b < 0 := by omega
  cases op <;> simp only [shiftI, Option.some.injEq, reduceCtorEq] at hc <;> subst hc <;> simp [eqGuard, binOp, Op.shift, hb']
theorem qr_nebool {T T' : TypeId} {a b : Bool} (hx : f x = some (.v (.bool a))) (hy : f y = some (.v (.bool b))) [hu : Und P T .bool] :
    QR P h f ⟨dst, .binOp .neq T x y T', ty, pos, after, guard⟩ (.v (.bool (!(a == b)))) := fun X ρ w he => by
  refine ⟨_, run_v _ ?_, .v _⟩
  rw [(he.rel x _ hx).v_eq, (he.rel y _ hy).v_eq]
  have e := run_eql_bool w T a b hu.h
  simp only [Sem.run_bind, eqGuard_at_bool, Sem.run_pure, Result.andThen_ok]
  simp only [binOp, Sem.run_bind] at e ⊢
  cases hq : (Op.equal T (.bool a) (.bool b)).run P w with
  | ok v w' => rw [hq] at e; simp at e ⊢; exact ⟨by rw [e.1], e.2⟩
  | halt q w' => rw [hq] at e; simp at e
theorem oe_makeSlice {d : Tmp} {T E bytes : Nat} {n : Nat} {zv : Value} [hu : Und P T (.slice E)] [hz : ZerV P E zv] [Siz P E 1] [hby : Byt P E bytes] (hx : ev t x = some (.v (.int .i64 n))) (hy : ev t y = some (.v (.int .i64 n))) (hlt : dok nt (some d) = true)
    (hn : n ≤ 1099511627776) (hb : bytes ≤ 128 := by decide) (hzo : zv.cells = #[zv] := by rfl) (hk : ∀ b, next ⟨(d, .v (.slice (some ⟨b, 0, none⟩) n n)) :: t, .row (.slice (some ⟨b, 0, none⟩) n n) 1 E (List.replicate n [.v zv]) :: h, ds⟩) :
    OE P ro nt ⟨some d, .makeSlice T x y, ty, pos, after, guard⟩ ⟨t, h, ds⟩ next := by
  intro X a w K Q hs hK
  refine ⟨about_true, ?_⟩
  have hbi := hby.h
  cases hi : P.info? E with
  | none => simp [hi] at hbi
  | some inf =>
    simp [hi] at hbi
    have hw : IntKind.i64.wrap (n : Int) = n := IntWalk.i64_in _ ⟨by omega, by omega⟩
    have hcells : (if n * 1 = 0 then (#[] : Array Value) else (Array.range (n * 1)).map (fun i => zv.cells[i % zv.cells.size]!)) = Array.replicate n zv := by
      split
      · have : n = 0 := by omega
        subst this; rfl
      · apply Array.ext
        · simp
        · intro i h1 h2
          simp only [Array.getElem_map, Array.getElem_range, hzo, Array.getElem_replicate]
          have : (#[zv] : Array Value).size = 1 := rfl
          rw [this, Nat.mod_one]; rfl
    have hmul : inf.bytes * n ≤ 128 * 1099511627776 := Nat.mul_le_mul (by omega) hn
    have hl1 : ¬ ((n : Int) < 0) := by omega
    have hl2 : ¬ ((inf.bytes : Int) * (n : Int) > 2 ^ 48) := by
      rw [← Int.natCast_mul]
      generalize inf.bytes * n = m at hmul ⊢
      omega
    have e : (execOp a.eval (⟨some d, .makeSlice T x y, ty, pos, after, guard⟩ : Oper)).run P w = .ok (.value (.slice (some ⟨w.heap.size, 0, none⟩) n n)) { w with heap := w.heap.push (.cells (Array.replicate n zv) E (0, 0)) } := by
      refine run_v _ ?_
      rw [(hs.env.rel x _ hx).v_eq, (hs.env.rel y _ hy).v_eq]
      have hai : ∀ w : World, (asInt (.int .i64 (n : Int))).run P w = .ok (n : Int) w := fun w => rfl
      have e1 : ∀ w : World, (Instr.makeSlice T (.int .i64 (n : Int)) (.int .i64 (n : Int))).run P w = .ok (.slice (some ⟨w.heap.size, 0, none⟩) n n) { w with heap := w.heap.push (.cells (if n * 1 = 0 then (#[] : Array Value) else (Array.range (n * 1)).map (fun i => zv.cells[i % zv.cells.size]!)) E (0, 0)) } := by
        intro w
        simp only [Instr.makeSlice, Sem.run_bind, run_underlying (h := hu), hai, Result.andThen_ok, run_typeInfo hi, hw]
        rw [if_neg (by simp only [Bool.or_eq_true, decide_eq_true_eq, not_or]; exact ⟨⟨⟨hl1, hl2⟩, hl1⟩, by omega⟩)]
        simp only [Sem.run_bind, run_askRoom, Result.andThen_ok, run_sizeOf (n := 1), Int.toNat_natCast]
        by_cases h0 : n * 1 = 0
        · have : n = 0 := by omega
          subst this
          have hr0 : Array.range 0 = #[] := by simp
          simp [newRow, hr0]
        · have h0' : ¬ n = 0 := by omega
          simp [h0', newRow, run_zeroValue hz.h]
      rw [e1, hcells]
    rw [semAt_nd rfl, e]
    have hx2 : Res.holds { w with heap := w.heap.push (.cells (Array.replicate n zv) E (0, 0)) } (OO (.row (.slice (some ⟨w.heap.size, 0, none⟩) n n) 1 E (List.replicate n [.v zv]) :: h) X) (.row (.slice (some ⟨w.heap.size, 0, none⟩) n n) 1 E (List.replicate n [.v zv])) := by
      refine ⟨rfl, by simp, Nat.le_refl _, by simp, Array.replicate n zv, by simp, by simp, fun i hi j hj => ?_⟩
      simp at hi hj
      subst hj
      exact ⟨zv, by simp [hi], by simpa using Rel.v _⟩
    have hk2 : Keep (owns h) w (owns (.row (.slice (some ⟨w.heap.size, 0, none⟩) n n) 1 E (List.replicate n [.v zv]) :: h)) { w with heap := w.heap.push (.cells (Array.replicate n zv) E (0, 0)) } := Keep.alloc (h := h) (.cells (Array.replicate n zv) E (0, 0)) (.row (.slice (some ⟨w.heap.size, 0, none⟩) n n) 1 E (List.replicate n [.v zv])) rfl
    have hh2 := hs.heap.alloc (.cells (Array.replicate n zv) E (0, 0)) (.row (.slice (some ⟨w.heap.size, 0, none⟩) n n) 1 E (List.replicate n [.v zv])) rfl hx2
    exact hK _ _ _ (hk w.heap.size) (Sim.put (s := ⟨t, .row (.slice (some ⟨w.heap.size, 0, none⟩) n n) 1 E (List.replicate n [.v zv]) :: h, ds⟩) ⟨hh2, hs.size, hs.fr.keep hk2.size (fun b hb hl => hk2.oo b hb hl), hs.defs⟩ hlt (.v _)) hk2
end
/-! Quiet calls beside resources. -/
theorem FCall.quiet {P : Program} {fv : AV} {args : List AV} {G h h2 : List Res} {R : AV → Prop} (p : h.Perm (G ++ h2)) (hc : FCall P fv args G (fun r h' => h' = G ∧ R r)) : FCall P fv args h (fun r h' => h' = h ∧ R r) := by
  intro X w v vs hh hv ha
  refine (((hc.frame h2).perm p) X w v vs hh hv ha).mono ?_
  rintro e w' ⟨u, av, h', e1, ⟨h1, rfl, rfl, hR⟩, hrel, hh', hk⟩
  exact ⟨u, av, h, e1, ⟨rfl, hR⟩, by rw [OO_perm p]; exact hrel, hh'.perm p.symm, ⟨hk.size, fun b hb ho => ⟨(hk.same b hb ho).1, fun hm => (hk.same b hb ho).2 ((owns_perm p).mem_iff.1 hm)⟩, hk.env⟩⟩
/-- A function of the program that leaves resources aS they are. -/
theorem FCall.of_fun {P : Program} {f : FuncId} [Enters P f] {args : List AV} {h : List Res} {R : AV → List Res → Prop} (hc : ACall P f args h R) : FCall P (.fn (.func f) [] []) args h R :=
  FCall.of_acall (fs := []) (cs := []) (by simpa using hc)
end Go.Ab
/- The abstract logic, part 19: what says less than what; splitting a truth. Conditions: none (lemmas over any program). -/
set_option linter.unusedVariables false
namespace Go.Ab
open Go
/-- The second says no more than the first. -/
inductive Sb : AV → AV → Prop where
  | refl (a : AV) : Sb a a
  | any (a : AV) : Sb a .any
  | nil (full : Bool) (sz : Nat) : Sb (.v (.slice none 0 0)) (.list full sz [])
  | list (f f' : Bool) (sz : Nat) (rows rows' : List (List AV)) : (f' = true → f = true) → rows.length = rows'.length → (∀ i (h : i < rows.length) (h' : i < rows'.length), rows[i].length = rows'[i].length) →
      (∀ i (h : i < rows.length) (h' : i < rows'.length) j (k : j < rows[i].length) (k' : j < rows'[i].length), Sb rows[i][j] rows'[i][j]) → Sb (.list f sz rows) (.list f' sz rows')
  | agg (cs ds : List AV) : cs.length = ds.length → (∀ j (k : j < cs.length) (k' : j < ds.length), Sb cs[j] ds[j]) → Sb (.agg cs) (.agg ds)
  | tup (cs ds : List AV) : cs.length = ds.length → (∀ j (k : j < cs.length) (k' : j < ds.length), Sb cs[j] ds[j]) → Sb (.tup cs) (.tup ds)
theorem Sb.rel {w : World} {O : Nat → Prop} {a b : AV} (s : Sb a b) : ∀ {v : Value}, Rel w O a v → Rel w O b v := by
  induction s with
  | refl a => exact fun r => r
  | any a => exact fun r => .any _
  | nil full sz => intro v r; rw [r.v_eq]; exact .lnil _ _ _ _ (fun _ => rfl)
  | list f f' sz rows rows' h1 h2 h3 _ ih =>
    intro v r
    cases r with
    | lnil _ _ a cap hc =>
      have : rows' = [] := List.eq_nil_of_length_eq_zero (by simpa using h2.symm)
      subst this
      exact .lnil _ _ _ _ (fun h => hc (h1 h))
    | list _ _ _ b off cap g g1 g2 g3 g4 g5 g6 g7 =>
      rw [h2]
      refine .list f' sz rows' b off cap g (fun h => by rw [← h2]; exact g1 (h1 h)) (by omega) g3 g4 (fun i hi => ?_) (fun i hi j hj => ?_) (fun i hi j hj => ?_)
      · rw [← h3 i (by omega) hi]; exact g5 i (by omega)
      · exact g6 i (by omega) j (by rw [h3 i (by omega) hi]; exact hj)
      · exact ih i (by omega) hi j (by rw [h3 i (by omega) hi]; exact hj) hj (g7 i (by omega) j (by rw [h3 i (by omega) hi]; exact hj))
  | agg cs ds h1 _ ih =>
    intro v r
    cases r with
    | agg _ vs g1 g2 => exact .agg _ _ (by omega) fun j a b => ih j (by omega) a (g2 j (by omega) b)
  | tup cs ds h1 _ ih =>
    intro v r
    cases r with
    | tup _ vs g1 g2 => exact .tup _ _ (by omega) fun j a b => ih j (by omega) a (g2 j (by omega) b)
theorem Sb.le {h : List Res} {a b : AV} (s : Sb a b) : Le h a b := fun _ _ _ _ r => s.rel r
/-- One by one. -/
def Sbs : List AV → List AV → Prop
  | [], [] => True
  | a :: aS, b :: bs => Sb a b ∧ Sbs aS bs
  | _, _ => False
theorem Sbs.len : ∀ {aS bs : List AV}, Sbs aS bs → aS.length = bs.length
  | [], [], _ => rfl
  | _ :: _, _ :: _, h => by simp [Sbs.len h.2]
  | [], _ :: _, h => h.elim
  | _ :: _, [], h => h.elim
theorem Sbs.get : ∀ {aS bs : List AV}, Sbs aS bs → ∀ j (k : j < aS.length) (k' : j < bs.length), Sb aS[j] bs[j]
  | _ :: _, _ :: _, h, 0, _, _ => h.1
  | _ :: _, _ :: _, h, j + 1, k, k' => Sbs.get h.2 j (by simpa using k) (by simpa using k')
theorem Sbs.refl : ∀ (aS : List AV), Sbs aS aS
  | [] => trivial
  | a :: aS => ⟨.refl a, Sbs.refl aS⟩
theorem Sb.aggs {aS bs : List AV} (h : Sbs aS bs) : Sb (.agg aS) (.agg bs) := .agg _ _ h.len h.get
theorem Sb.tups {aS bs : List AV} (h : Sbs aS bs) : Sb (.tup aS) (.tup bs) := .tup _ _ h.len h.get
theorem Sbs.les {h : List Res} : ∀ {aS bs : List AV}, Sbs aS bs → Les h aS bs
  | [], [], _ => trivial
  | _ :: _, _ :: _, s => ⟨s.1.le, Sbs.les s.2⟩
  | [], _ :: _, s => s.elim
  | _ :: _, [], s => s.elim
/-- Rows one by one. -/
def Sbr : List (List AV) → List (List AV) → Prop
  | [], [] => True
  | a :: aS, b :: bs => Sbs a b ∧ Sbr aS bs
  | _, _ => False
theorem Sbr.len : ∀ {aS bs : List (List AV)}, Sbr aS bs → aS.length = bs.length
  | [], [], _ => rfl
  | _ :: _, _ :: _, h => by simp [Sbr.len h.2]
  | [], _ :: _, h => h.elim
  | _ :: _, [], h => h.elim
theorem Sbr.get : ∀ {aS bs : List (List AV)}, Sbr aS bs → ∀ j (k : j < aS.length) (k' : j < bs.length), Sbs aS[j] bs[j]
  | _ :: _, _ :: _, h, 0, _, _ => h.1
  | _ :: _, _ :: _, h, j + 1, k, k' => Sbr.get h.2 j (by simpa using k) (by simpa using k')
theorem Sbr.refl : ∀ l : List (List AV), Sbr l l
  | [] => trivial
  | a :: l => ⟨Sbs.refl a, Sbr.refl l⟩
theorem Sb.lists {f f' : Bool} {sz : Nat} {rows rows' : List (List AV)} (hf : f' = true → f = true) (h : Sbr rows rows') : Sb (.list f sz rows) (.list f' sz rows') :=
  .list _ _ _ _ _ hf h.len (fun i a b => (h.get i a b).len) fun i a b j c d => (h.get i a b).get j c d
section
variable {P : Program} {ro : Option Nat} {nt : Nat} {ops : Array Oper} {rest : List Oper} {Q : Exit → St → Prop} {t : Fr} {h : List Res} {ds : List Nat} {d : Nat}
theorem asplit {b : Bool} (h1 : b = true → aops P ro nt ops rest Q ⟨(d, .v (.bool true)) :: t, h, ds⟩) (h2 : b = false → aops P ro nt ops rest Q ⟨(d, .v (.bool false)) :: t, h, ds⟩) : aops P ro nt ops rest Q ⟨(d, .v (.bool b)) :: t, h, ds⟩ := by
  cases b
  · exact h2 rfl
  · exact h1 rfl
end
/-- A quiet call of a function of the program, what it is given being known better than it asks. -/
theorem pcall {P : Program} {f : FuncId} [Enters P f] {args args' : List AV} {h : List Res} {r : AV} (hc : ACall P f args' [] (fun x h' => h' = [] ∧ x = r)) (hs : Sbs args args') : FCall P (.fn (.func f) [] []) args h (fun x h' => h' = h ∧ x = r) :=
  (FCall.pure (R := fun x => x = r) (FCall.of_fun hc)).le hs.les
section
variable {P : Program} {ro : Option Nat} {nt : Nat} {dst : Option Tmp} {ty : TypeId} {pos : String} {after : Array Edge} {guard : Option (Nat × Bool)} {x y z : Operand} {t : Fr} {h h' : List Res} {ds : List Nat} {next : St → Prop} {f : Operand → Option AV}
/-- A box read whole. -/
theorem qr_load_all {T T' : TypeId} {b n : Nat} {cells : List AV} (hx : f x = some (.v (.pointer (some ⟨b, 0, none⟩)))) [hb : HasB h b T' cells] [Siz P T n] [IsA P T true]
    (hle : n = cells.length) : QR P h f ⟨dst, .load T x, ty, pos, after, guard⟩ (.agg cells) := by
  have := qr_load_agg (P := P) (h := h) (b := b) (T' := T') (cells := cells) (T := T) (dst := dst) (ty := ty) (pos := pos) (after := after) (guard := guard) hx (n := n) (by omega)
  subst hle
  simpa using this
theorem qr_load_pp_all {T : TypeId} {n : Nat} {cells : List AV} (hx : f x = some (.pp cells)) [Siz P T n] [IsA P T true] (hle : n = cells.length) : QR P h f ⟨dst, .load T x, ty, pos, after, guard⟩ (.agg cells) := by
  have := qr_load_pp_agg (P := P) (h := h) (T := T) (dst := dst) (ty := ty) (pos := pos) (after := after) (guard := guard) hx (n := n) (by omega)
  subst hle
  simpa using this
theorem qr_load_rp_all {T : TypeId} {s : Value} {sz i k n : Nat} {E : TypeId} {rows : List (List AV)} {row : List AV} (hx : f x = some (.rp s sz k 0)) [hr : HasRow h s i sz E rows] [Siz P T n] [IsA P T true] (hk : rows[k]? = some row) (hle : n = row.length) :
    QR P h f ⟨dst, .load T x, ty, pos, after, guard⟩ (.agg row) := by
  have := qr_load_rp_agg (P := P) (h := h) (T := T) (dst := dst) (ty := ty) (pos := pos) (after := after) (guard := guard) hx (n := n) hk (by omega)
  subst hle
  simpa using this
/-- A box written whole. -/
theorem oe_store_all {T T' : TypeId} {b i n : Nat} {av : AV} {cells cs : List AV} (hx : ev t x = some (.v (.pointer (some ⟨b, 0, none⟩)))) (hy : ev t y = some av) (hc : av.cellsOf = some cs)
    [hb : HasBox h b i T' cells] [Siz P T n] [hset : SetAt h i (.box b T' cs) h'] (hk : next ⟨t, h', ds⟩) (hn : cs.length = n := by rfl) (hle : n = cells.length := by rfl) :
    OE P ro nt ⟨none, .store T x y, ty, pos, after, guard⟩ ⟨t, h, ds⟩ next := by
  have e : cells.take 0 ++ cs ++ cells.drop (0 + n) = cs := by subst hle; simp
  have hs' : SetAt h i (.box b T' (cells.take 0 ++ cs ++ cells.drop (0 + n))) h' := ⟨by rw [e]; exact hset.h⟩
  exact oe_store (n := n) (hset := hs') hx hy hc hn (by omega) hk
end
end Go.Ab
/- The abstract logic, part 20: contracts beside permuted resources; ends of rounds. Conditions: none (definitions and lemmas over any program). -/
set_option linter.unusedVariables false
namespace Go.Ab
open Go
theorem ACall.perm {P : Program} {f : FuncId} {args : List AV} {h h' : List Res} {R : AV → List Res → Prop} (p : h.Perm h') (hc : ACall P f args h' R) : ACall P f args h R := by
  intro X w vs hh ha
  refine (hc X w vs (hh.perm p) (ha.keep (Nat.le_refl _) (fun b hb hl => ⟨rfl, by rw [← OO_perm p]; exact hb⟩))).mono ?_
  rintro e w' ⟨u, av, h'', e1, hR, hrel, hh', hk⟩
  exact ⟨u, av, h'', e1, hR, hrel, hh', hk.perm_left p.symm⟩
/-! Ranging over a function, the loop's record under one name. -/
abbrev LP := LoopState → Option Code → Res
def RoundL (lp : LP) (pend : Option Code) (R : AV → List Res → Prop) (e : Exit) (s : St) : Prop :=
  ∃ h1, s.h.Perm (lp .busy pend :: h1) ∧ match e with
    | .normal => R (.v (.bool true)) (lp .ready none :: h1)
    | .ret => R (.v (.bool false)) (lp .done (some .ret) :: h1)
    | .exit id => R (.v (.bool false)) (lp .done (some (.exit id)) :: h1)
    | _ => False
theorem aw_rf {P : Program} {nt : Nat} {Q : Exit → St → Prop} {t : Fr} {h : List Res} {ds : List Nat} {g : Operand} {ps : Array Tmp} {asn body : Code} {f : FuncId} {fs cs : List AV} [Enters P f] (K : Option Code → List Res → Prop) (hg : ev t g = some (.fn (.func f) fs cs))
    (hcall : ∀ fn l r (lp : LP), (lp = fun st pend => .loop l st pend fn nt t ps asn body r) → ACall P f (fs ++ [yv l] ++ cs) (lp .ready none :: .defs r :: h) (fun _ h' => ∃ pend st h'', h'.Perm (lp st pend :: .defs r :: h'') ∧ st ≠ .busy ∧ K pend h''))
    (hn : ∀ r h'', K none h'' → Q .normal ⟨t, .defs r :: h'', r :: ds⟩) (hj : ∀ r h'' c, K (some c) h'' → aw P none nt c Q ⟨t, .defs r :: h'', r :: ds⟩) : aw P none nt (.rangeFunc g ps asn body) Q ⟨t, h, ds⟩ :=
  aw_rangeFunc (K := fun _ _ _ pend h'' => K pend h'') hg (fun fn l r => hcall fn l r _ rfl) (fun _ _ r h'' hk => hn r h'' hk) (fun _ _ r h'' c hk => hj r h'' c hk)
theorem fcall_yl {P : Program} {l : Nat} {pend : Option Code} {fn : FuncId} {nt : Nat} {t : Fr} {ps : List Tmp} {asn body : Code} {dd : Nat} {args : List AV} {h : List Res} {R : AV → List Res → Prop} {lp : LP} (hlp : lp = fun st pend => .loop l st pend fn nt t ps.toArray asn body dd)
    (hps : Nat.beq ps.length args.length = true) (hpn : (ps.all fun p => Nat.blt p nt) = true)
    (hb : aw P (some l) nt asn (thn (fun s => ∃ t', Ent nt s ⟨t', lp .ready pend :: h, []⟩ ∧ aw P (some l) nt body (RoundL lp pend R) ⟨t', lp .busy pend :: h, []⟩) (fun _ _ => False))
      ⟨zipFr ps args t, lp .ready pend :: h, []⟩) : FCall P (yv l) args (lp .ready pend :: h) R := by
  subst hlp
  exact fcall_yield hps hpn hb
/-- A round's end. -/
theorem round_n {lp : LP} {pend : Option Code} {t2 : Fr} {R : AV → List Res → Prop} {h h1 : List Res} {ds : List Nat} (p : h.Perm (lp .busy pend :: h1)) (hR : R (.v (.bool true)) (lp .ready none :: h1)) : RoundL lp pend R .normal ⟨t2, h, ds⟩ := ⟨h1, p, hR⟩
theorem round_e {lp : LP} {pend : Option Code} {t2 : Fr} {R : AV → List Res → Prop} {h h1 : List Res} {ds : List Nat} {id : Nat} (p : h.Perm (lp .busy pend :: h1)) (hR : R (.v (.bool false)) (lp .done (some (.exit id)) :: h1)) : RoundL lp pend R (.exit id) ⟨t2, h, ds⟩ := ⟨h1, p, hR⟩
/-- A return where functions were ranged over. -/
theorem retqd {P : Program} {t : Fr} {h h1 : List Res} {ds : List Nat} {rs : List ResultVar} {R : AV → List Res → Prop} {aS : List AV} {av' : AV} {h' : List Res} (p : h.Perm (ds.map .defs ++ h1)) (hr : RVs P t h1 rs aS) (hv : VEnt h1 (packAV aS) h' av') (hR : R av' h') : RetQ P rs R .ret ⟨t, h, ds⟩ :=
  ⟨.inl rfl, h1, p, aS, av', h', hr, hv, hR⟩
/-- What is left behind, in another order. -/
theorem CPost.permR {X : Nat → Prop} {w : World} {h : List Res} {R : AV → List Res → Prop} {e : Ending} {w' : World} (p : CPost X w h (fun r h' => ∃ h'', h'.Perm h'' ∧ R r h'') e w') : CPost X w h R e w' := by
  obtain ⟨u, av, h', e1, ⟨h'', q, hR⟩, hrel, hh', hk⟩ := p
  exact ⟨u, av, h'', e1, hR, hrel.keep (Nat.le_refl _) (fun b hb hl => ⟨rfl, by rw [← OO_perm q]; exact hb⟩), hh'.perm q, hk.perm_right q⟩
theorem FCall.permR {P : Program} {fv : AV} {args : List AV} {h : List Res} {R : AV → List Res → Prop} (hc : FCall P fv args h (fun r h' => ∃ h'', h'.Perm h'' ∧ R r h'')) : FCall P fv args h R :=
  fun X w v vs hh hv ha => (hc X w v vs hh hv ha).mono fun _ _ p => p.permR
/-- A quiet call beside resources. -/
theorem FCall.qt {P : Program} {fv : AV} {args : List AV} {G h h2 : List Res} {r0 : AV} (hc : FCall P fv args G (fun r h' => h' = G ∧ r = r0)) (p : h.Perm (G ++ h2)) : FCall P fv args h (fun r h' => h' = h ∧ r = r0) :=
  FCall.quiet (R := fun r => r = r0) p hc
/-- A call that changes some of the resources. -/
theorem FCall.fr {P : Program} {fv : AV} {args : List AV} {G h h2 : List Res} {R : AV → List Res → Prop} (hc : FCall P fv args G R) (p : h.Perm (G ++ h2)) : FCall P fv args h (fun r h' => ∃ h'', h' = h'' ++ h2 ∧ R r h'') :=
  ((hc.frame h2).perm p).mono fun _ _ ⟨h1, e, q⟩ => ⟨h1, e, q⟩
/-- What stands at a place of a list of resources, put to its head. -/
theorem perm_to {α : Type} : ∀ (l1 : List α) (x : α) (l2 : List α), (l1 ++ x :: l2).Perm (x :: (l1 ++ l2)) := fun l1 x l2 => List.perm_middle
theorem pt1 {α : Type} (a0 x : α) (l : List α) : (a0 :: x :: l).Perm (x :: a0 :: l) := perm_to [a0] x l
theorem pt2 {α : Type} (a0 a1 x : α) (l : List α) : (a0 :: a1 :: x :: l).Perm (x :: a0 :: a1 :: l) := perm_to [a0, a1] x l
theorem pt3 {α : Type} (a0 a1 a2 x : α) (l : List α) : (a0 :: a1 :: a2 :: x :: l).Perm (x :: a0 :: a1 :: a2 :: l) := perm_to [a0, a1, a2] x l
theorem pt4 {α : Type} (a0 a1 a2 a3 x : α) (l : List α) : (a0 :: a1 :: a2 :: a3 :: x :: l).Perm (x :: a0 :: a1 :: a2 :: a3 :: l) := perm_to [a0, a1, a2, a3] x l
theorem qr_max3 {P : Program} {h : List Res} {f : Operand → Option AV} {dst : Option Tmp} {ty : TypeId} {pos : String} {after : Array Edge} {guard : Option (Nat × Bool)} {x y z : Operand} {tys : Array TypeId} {k k' k'' : IntKind} {a b c : Int} (hx : f x = some (.v (.int k a))) (hy : f y = some (.v (.int k' b))) (hz : f z = some (.v (.int k'' c))) :
    QR P h f ⟨dst, .call ⟨.builtin .max, [x, y, z].toArray, tys⟩, ty, pos, after, guard⟩ (.v (.int k (max (max a b) c))) := fun X ρ w he => by
  refine ⟨_, ?_, .v _⟩
  have e : ∀ (w : World) (ts : Array TypeId) (t : TypeId), (Builtin.max_ ts t #[.int k a, .int k' b, .int k'' c]).run P w = .ok (.int k (max (max a b) c)) w := by
    intro w ts t
    have e0 : (Builtin.max_ ts t #[.int k a, .int k' b, .int k'' c]).run P w = .ok (.int k (if c > (if b > a then b else a) then c else (if b > a then b else a))) w := by simp [Builtin.max_, Builtin.max2]
    have e1 : (if c > (if b > a then b else a) then c else (if b > a then b else a)) = max (max a b) c := by
      have e2 : (if b > a then b else a) = max a b := by simp only [Int.max_def]; repeat' split
                                                         all_goals omega
      rw [e2]
      simp only [Int.max_def]; repeat' split
      all_goals omega
    rw [e0, e1]
  simp only [execOp, resolve, List.map_toArray, List.map_cons, List.map_nil, (he.rel x _ hx).v_eq, (he.rel y _ hy).v_eq, (he.rel z _ hz).v_eq, Sem.run_bind, Sem.run_pure, Result.andThen_ok, invoke, builtin, e]
/-- Ways that meet: from here on one state. -/
theorem aw_cut {P : Program} {ro : Option Nat} {nt : Nat} {x y : Code} {Q : Exit → St → Prop} {s : St} (m : St) (h : aw P ro nt x (thn (fun s' => Ent nt s' m) Q) s) (k : aw P ro nt y Q m) : aw P ro nt (.seq x y) Q s :=
  aw_seq (aw_mono (fun e s' q => by
    cases e with
    | normal => exact aw_ent q k
    | _ => exact q) h)
theorem FCall.frL {P : Program} {fv : AV} {args : List AV} {G : List Res} {R : AV → List Res → Prop} (h2 : List Res) (hc : FCall P fv args G R) : FCall P fv args (h2 ++ G) (fun r h' => ∃ h'', h' = h2 ++ h'' ∧ R r h'') := by
  refine FCall.permR ((FCall.fr hc (h2 := h2) List.perm_append_comm).mono ?_)
  rintro r _ ⟨h'', rfl, q⟩
  exact ⟨h2 ++ h'', List.perm_append_comm, h'', rfl, q⟩
theorem FCall.fr1 {P : Program} {fv : AV} {args : List AV} {G : List Res} {R : AV → List Res → Prop} {a0 : Res} (hc : FCall P fv args G R) : FCall P fv args (a0 :: G) (fun r h' => ∃ h'', h' = a0 :: h'' ∧ R r h'') := hc.frL [a0]
theorem FCall.fr2 {P : Program} {fv : AV} {args : List AV} {G : List Res} {R : AV → List Res → Prop} {a0 a1 : Res} (hc : FCall P fv args G R) : FCall P fv args (a0 :: a1 :: G) (fun r h' => ∃ h'', h' = a0 :: a1 :: h'' ∧ R r h'') := hc.frL [a0, a1]
theorem FCall.fr4 {P : Program} {fv : AV} {args : List AV} {G : List Res} {R : AV → List Res → Prop} {a0 a1 a2 a3 : Res} (hc : FCall P fv args G R) : FCall P fv args (a0 :: a1 :: a2 :: a3 :: G) (fun r h' => ∃ h'', h' = a0 :: a1 :: a2 :: a3 :: h'' ∧ R r h'') := hc.frL [a0, a1, a2, a3]
/-! Maps that are sets. -/
def memB {K : Type} [DecidableEq K] (k : K) (l : List K) : Bool := decide (k ∈ l)
end Go.Ab
/- The abstract logic, part 21: a region that draws its order, and among whose operations some make memory of their own (calls, allocations, maps). Conditions: the program draws freely ('mixedOrders'). -/
set_option linter.unusedVariables false
set_option linter.unusedSimpArgs false
namespace Go.Ab
open Go
/-- A slice's value. -/
structure SV where
  a : Option Addr
  n : Nat
  c : Nat
def SV.v (s : SV) : Value := .slice s.a s.n s.c
/-- What a maker makes depends on slices, and on blocks. -/
structure MX where
  vs : List SV
  ns : List Nat
abbrev MR := MX → AV × List Res
/-- A maker: what it uses up, and what it makes. -/
abbrev CM := List Res × MR
def MFact (P : Program) (ro : Option Nat) (nt : Nat) (h : List Res) (dsl : List Nat) (l : List Oper) (sd : List Tmp) (t0 : Fr) (o : Oper) (m : CM) (e : Fr) : Prop :=
  ∃ d, o.dst = some d ∧ Nat.blt d nt = true ∧ o.guard = none ∧
    ∀ X a w K Q, a.tmps.size = nt → a.defers = dsl.map markOf → Env X (m.1 ++ h) (evS sd (pdst l o) e t0) a.eval w → (∀ x v w', Rel w' (OO ((m.2 x).2 ++ h) X) (m.2 x).1 v → HRel X w' ((m.2 x).2 ++ h) → Keep (owns (m.1 ++ h)) w (owns ((m.2 x).2 ++ h)) w' → K (a.put o.dst v) w') → o.wpIn (FW ro) 0 P a w K Q
def dsoupM (P : Program) (ro : Option Nat) (nt : Nat) (h : List Res) (dsl : List Nat) (l : List Oper) (sd : List Tmp) (t0 : Fr) : List Oper → Fr → (Fr → List (Option CM) → Prop) → Prop
  | [], e, K => K e []
  | o :: rest, e, K => (∃ d av, o.dst = some d ∧ QFact P ro nt h l sd t0 o av e ∧ dsoupM P ro nt h dsl l sd t0 rest ((d, av) :: e) (fun e ms => K e (none :: ms))) ∨
      (∃ m, MFact P ro nt h dsl l sd t0 o m e ∧ dsoupM P ro nt h dsl l sd t0 rest e (fun e ms => K e (some m :: ms)))
def dallocM : List Oper → List (Option CM) → Fr → List Res → (Fr → List Res → Prop) → Prop
  | o :: os, some m :: ms, e, h, K => ∀ d x, o.dst = some d → dallocM os ms ((d, (m.2 x).1) :: e) ((m.2 x).2 ++ h) K
  | _ :: os, none :: ms, e, h, K => dallocM os ms e h K
  | _, _, e, h, K => K e h
/-- The frame that a choice of what each operation is leads to. -/
def entsM : List Oper → List (Option AV) → Fr → Fr
  | o :: os, some a :: aS, e => entsM os aS (match o.dst with
    | some d => (d, a) :: e
    | none => e)
  | _ :: os, none :: aS, e => entsM os aS e
  | _, _, e => e
def FactsM (P : Program) (ro : Option Nat) (nt : Nat) (h : List Res) (dsl : List Nat) (l : List Oper) (sd : List Tmp) (t0 : Fr) : List Oper → List (Option AV) → List (Option CM) → Fr → Prop
  | [], [], [], _ => True
  | o :: os, some a :: aS, none :: ms, e => ∃ d, o.dst = some d ∧ QFact P ro nt h l sd t0 o a e ∧ FactsM P ro nt h dsl l sd t0 os aS ms ((d, a) :: e)
  | o :: os, none :: aS, some m :: ms, e => MFact P ro nt h dsl l sd t0 o m e ∧ FactsM P ro nt h dsl l sd t0 os aS ms e
  | _, _, _, _ => False
theorem factsM_of {P : Program} {ro : Option Nat} {nt : Nat} {h : List Res} {dsl : List Nat} {l : List Oper} {sd : List Tmp} {t0 : Fr} : ∀ {os : List Oper} {e : Fr} {K : Fr → List (Option CM) → Prop}, dsoupM P ro nt h dsl l sd t0 os e K →
    ∃ aS ms, FactsM P ro nt h dsl l sd t0 os aS ms e ∧ K (entsM os aS e) ms
  | [], e, K, hk => ⟨[], [], trivial, hk⟩
  | o :: os, e, K, .inl ⟨d, av, h1, h2, h3⟩ => let ⟨aS, ms, a, b⟩ := factsM_of h3; ⟨some av :: aS, none :: ms, ⟨d, h1, h2, a⟩, by simpa [entsM, h1] using b⟩
  | o :: os, e, K, .inr ⟨m, h1, h2⟩ => let ⟨aS, ms, a, b⟩ := factsM_of h2; ⟨none :: aS, some m :: ms, ⟨h1, a⟩, by simpa [entsM] using b⟩
theorem FactsM.length {P : Program} {ro : Option Nat} {nt : Nat} {h : List Res} {dsl : List Nat} {l : List Oper} {sd : List Tmp} {t0 : Fr} : ∀ {os : List Oper} {aS : List (Option AV)} {ms : List (Option CM)} {e : Fr}, FactsM P ro nt h dsl l sd t0 os aS ms e → aS.length = os.length ∧ ms.length = os.length
  | [], [], [], _, _ => ⟨rfl, rfl⟩
  | o :: os, some a :: aS, none :: ms, e, ⟨d, _, _, hh⟩ => by have := FactsM.length hh; simp [this.1, this.2]
  | o :: os, none :: aS, some m :: ms, e, ⟨_, hh⟩ => by have := FactsM.length hh; simp [this.1, this.2]
  | [], _ :: _, _, _, hh => by simp [FactsM] at hh
  | [], [], _ :: _, _, hh => by simp [FactsM] at hh
  | _ :: _, [], _, _, hh => by simp [FactsM] at hh
  | _ :: _, some _ :: _, [], _, hh => by simp [FactsM] at hh
  | _ :: _, none :: _, [], _, hh => by simp [FactsM] at hh
  | _ :: _, some _ :: _, some _ :: _, _, hh => by simp [FactsM] at hh
  | _ :: _, none :: _, none :: _, _, hh => by simp [FactsM] at hh
theorem FactsM.at {P : Program} {ro : Option Nat} {nt : Nat} {h : List Res} {dsl : List Nat} {l : List Oper} {sd : List Tmp} {t0 : Fr} : ∀ {os : List Oper} {aS : List (Option AV)} {ms : List (Option CM)} {e : Fr}, FactsM P ro nt h dsl l sd t0 os aS ms e → ∀ (i : Nat) (o : Oper), os[i]? = some o →
    (∃ a, aS[i]? = some (some a) ∧ ms[i]? = some none ∧ QFact P ro nt h l sd t0 o a (entsM (os.take i) (aS.take i) e)) ∨ (∃ m, aS[i]? = some none ∧ ms[i]? = some (some m) ∧ MFact P ro nt h dsl l sd t0 o m (entsM (os.take i) (aS.take i) e))
  | o :: os, some a :: aS, none :: ms, e, ⟨d, h1, h2, h3⟩, 0, o', ho => by
    simp only [List.getElem?_cons_zero, Option.some.injEq] at ho
    subst ho
    exact .inl ⟨a, rfl, rfl, h2⟩
  | o :: os, none :: aS, some m :: ms, e, ⟨h1, h2⟩, 0, o', ho => by
    simp only [List.getElem?_cons_zero, Option.some.injEq] at ho
    subst ho
    exact .inr ⟨m, rfl, rfl, h1⟩
  | o :: os, some a :: aS, none :: ms, e, ⟨d, h1, h2, h3⟩, i + 1, o', ho => by
    have := FactsM.at h3 i o' (by simpa using ho)
    simpa [entsM, h1] using this
  | o :: os, none :: aS, some m :: ms, e, ⟨h1, h2⟩, i + 1, o', ho => by
    have := FactsM.at h2 i o' (by simpa using ho)
    simpa [entsM] using this
  | [], _, _, _, _, _, _, ho => by simp at ho
  | _ :: _, [], _, _, hh, _, _, _ => by simp [FactsM] at hh
  | _ :: _, some _ :: _, [], _, hh, _, _, _ => by simp [FactsM] at hh
  | _ :: _, none :: _, [], _, hh, _, _, _ => by simp [FactsM] at hh
  | _ :: _, some _ :: _, some _ :: _, _, hh, _, _, _ => by simp [FactsM] at hh
  | _ :: _, none :: _, none :: _, _, hh, _, _, _ => by simp [FactsM] at hh
theorem lk_entsM : ∀ {os : List Oper} {aS : List (Option AV)} {e : Fr} {d : Nat} {av : AV}, lk (entsM os aS e) d = some av → (∃ (i : Nat) (o : Oper), os[i]? = some o ∧ aS[i]? = some (some av) ∧ o.dst = some d) ∨ lk e d = some av
  | [], aS, e, d, av, hh => by cases aS <;> exact .inr hh
  | o :: os, [], e, d, av, hh => .inr hh
  | o :: os, none :: aS, e, d, av, hh => by
    rcases lk_entsM (os := os) (aS := aS) hh with ⟨i, o', h1, h2, h3⟩ | h1
    · exact .inl ⟨i + 1, o', by simpa using h1, by simpa using h2, h3⟩
    · exact .inr h1
  | o :: os, some a :: aS, e, d, av, hh => by
    rcases lk_entsM (os := os) (aS := aS) hh with ⟨i, o', h1, h2, h3⟩ | h1
    · exact .inl ⟨i + 1, o', by simpa using h1, by simpa using h2, h3⟩
    · split at h1
      · rename_i d' hd'
        simp only [lk] at h1
        split at h1
        · rename_i hb
          have := Nat.eq_of_beq_eq_true hb
          subst this
          cases h1
          exact .inl ⟨0, o, rfl, rfl, hd'⟩
        · exact .inr h1
      · exact .inr h1
theorem lk_entsM_some : ∀ {os : List Oper} {aS : List (Option AV)} {e : Fr} {i : Nat} {o : Oper} {a : AV} {d : Nat}, os[i]? = some o → aS[i]? = some (some a) → o.dst = some d → lk (entsM os aS e) d ≠ none := by
  have mono : ∀ (os : List Oper) (aS : List (Option AV)) (e : Fr) (d : Nat), lk e d ≠ none → lk (entsM os aS e) d ≠ none := by
    intro os
    induction os with
    | nil => intro aS e d h; cases aS <;> exact h
    | cons o os ih =>
      intro aS e d h
      cases aS with
      | nil => exact h
      | cons a aS =>
        cases a with
        | none => exact ih aS _ d h
        | some a =>
          refine ih aS _ d ?_
          split
          · simp only [lk]; split
            · simp
            · exact h
          · exact h
  intro os
  induction os with
  | nil => intro aS e i o a d ho; simp at ho
  | cons o' os ih =>
    intro aS e i o a d ho ha hd
    cases aS with
    | nil => simp at ha
    | cons x aS =>
      cases i with
      | zero =>
        simp only [List.getElem?_cons_zero, Option.some.injEq] at ho ha
        subst ho ha
        refine mono os aS _ d ?_
        simp [hd, lk]
      | succ i =>
        have := ih (aS := aS) (e := match x with
          | some a => (match o'.dst with
            | some d => (d, a) :: e
            | none => e)
          | none => e) (by simpa using ho) (by simpa using ha) hd
        cases x <;> exact this
/-- Resources more, over blocks that nobody may look at. -/
theorem HRel.addres {X : Nat → Prop} {w : World} {h rs : List Res} (hh : HRel (Sub X (owns rs)) w h) (hn : (owns rs).Nodup) (hX : ∀ b ∈ owns rs, ¬ X b) (hr : ∀ r ∈ rs, r.holds w (OO h (Sub X (owns rs)))) : HRel X w (rs ++ h) := by
  have hOO : OO (rs ++ h) X = OO h (Sub X (owns rs)) := by
    funext b; simp only [OO, Sub, owns_append, List.mem_append, eq_iff_iff]
    exact ⟨fun q => by rcases q with (q | q) | q <;> simp [q], fun q => by rcases q with q | q | q <;> simp [q]⟩
  refine ⟨?_, fun b hb => ?_, fun b hb => hh.xlt b (.inl hb), fun r hr' => ?_⟩
  · rw [owns_append, List.nodup_append]
    exact ⟨hn, hh.nodup, fun x hx y hy e => (hh.lt y hy).2 (.inr (e ▸ hx))⟩
  · rw [owns_append, List.mem_append] at hb
    rcases hb with hb | hb
    · exact ⟨hh.xlt b (.inr hb), hX b hb⟩
    · exact ⟨(hh.lt b hb).1, fun q => (hh.lt b hb).2 (.inl q)⟩
  · rw [hOO]
    rcases List.mem_append.1 hr' with q | q
    · exact hr r q
    · exact hh.holds r q
abbrev XB (X : Nat → Prop) (B : Nat → List Nat) : Nat → Prop := fun b => X b ∨ ∃ i : Nat, b ∈ B i
structure InvM (P : Program) (X : Nat → Prop) (nt : Nat) (h : List Res) (CO : List Nat) (l : List Oper) (n : Nat) (t : Fr) (dsl : List Nat) (aS : List (Option AV)) (ms : List (Option CM)) (w0 : World) (B : Nat → List Nat) (listed : Array Bool) (a : Act) (w : World) : Prop where
  size : listed.size = l.length
  closed : ∀ i, listed.getD i false = true → ∀ j ∈ predsOf l i, listed.getD j false = true
  tail : ∀ i, n ≤ i → listed.getD i false = false
  tsz : a.tmps.size = nt
  defs : a.defers = dsl.map markOf
  heap : HRel (XB X B) w h
  inj : ∀ (i j : Nat) b, b ∈ B i → b ∈ B j → i = j
  blk : ∀ (i : Nat) b, b ∈ B i → i < n ∧ ¬ X b ∧ (w0.heap.size ≤ b ∨ b ∈ CO)
  pend : ∀ i m, i < n → ms[i]? = some (some m) → listed.getD i false = false → owns m.1 = B i ∧ (B i).Nodup ∧ ∀ r ∈ m.1, r.holds w (OO h (XB X B))
  mks : ∀ i o d m, i < n → l[i]? = some o → o.dst = some d → ms[i]? = some (some m) → listed.getD i false = true → ∃ x v, a.tmps[d]? = some v ∧ owns (m.2 x).2 = B i ∧ (B i).Nodup ∧ Rel w (OO h (XB X B)) (m.2 x).1 v ∧ ∀ r ∈ (m.2 x).2, r.holds w (OO h (XB X B))
  nomk : ∀ i, ms[i]? = some none → B i = []
  vals : ∀ i o d av, i < n → l[i]? = some o → o.dst = some d → aS[i]? = some (some av) → listed.getD i false = true → ∃ v, a.tmps[d]? = some v ∧ Rel w (OO h (XB X B)) av v
  base : ∀ d av, (∀ j, j < n → dstOf l j ≠ some d) → lk t d = some av → ∃ v, a.tmps[d]? = some v ∧ Rel w (OO h (XB X B)) av v
  keep : Keep (owns h ++ CO) w0 (owns h ++ CO) w
section
variable {P : Program} {X : Nat → Prop} {nt n : Nat} {h : List Res} {CO : List Nat} {l : List Oper} {t : Fr} {dsl : List Nat} {aS : List (Option AV)} {ms : List (Option CM)} {w0 : World} {B : Nat → List Nat} {listed : Array Bool} {a : Act} {w : World}
theorem InvM.look (hc : SoupC l n) (hi : InvM P X nt h CO l n t dsl aS ms w0 B listed a w) {i : Nat} {o : Oper} (ho : l[i]? = some o) (hin : i < n) (hp : ∀ j ∈ predsOf l i, listed.getD j false = true) {d : Nat} {av : AV}
    (hl : lkS (sdst l n) (pdst l o) (entsM ((l.take n).take i) (aS.take i) []) t d = some av) : ∃ v, a.tmps[d]? = some v ∧ Rel w (OO h (XB X B)) av v := by
  unfold lkS at hl
  split at hl
  · rename_i hpd
    obtain ⟨x, hx, e⟩ := List.any_eq_true.1 hpd
    have := Nat.eq_of_beq_eq_true e
    subst this
    simp only [pdst, List.mem_filterMap] at hx
    obtain ⟨j', hj', hd'⟩ := hx
    have hj'p : j' ∈ predsOf l i := by simp only [predsOf, ho]; exact hj'
    rcases lk_entsM hl with ⟨j, oj, h1, h2, h4⟩ | h1
    · have hji : j < i := by
        have := (List.getElem?_eq_some_iff.1 h2).1
        simp at this; omega
      have hoj : l[j]? = some oj := by
        rw [List.take_take, Nat.min_eq_left (by omega)] at h1
        rw [List.getElem?_take_of_lt hji] at h1; exact h1
      have hjj : j = j' := by
        obtain ⟨_, g3, _⟩ := hc.one (show j < n by omega) hoj h4
        rcases Nat.decEq j j' with hne | heq
        · exact absurd rfl (g3 j' (by have := hc.back i (by have := hc.le; omega) j' hj'p; omega) (fun h => hne h.symm) d hd')
        · exact heq
      subst hjj
      exact hi.vals j oj d av (by omega) hoj h4 (by rw [List.getElem?_take_of_lt hji] at h2; exact h2) (hp j hj'p)
    · simp [lk] at h1
  · split at hl
    · cases hl
    · rename_i hsd
      refine hi.base d av (fun j hj hd => ?_) hl
      have : d ∈ sdst l n := by
        simp only [sdst, List.mem_filterMap]
        simp only [dstOf] at hd
        cases hlj : l[j]? with
        | none => simp [hlj] at hd
        | some oj =>
          simp only [hlj, Option.bind_some] at hd
          exact ⟨oj, List.mem_of_getElem? (i := j) (by rw [List.getElem?_take_of_lt hj]; exact hlj), hd⟩
      have : (sdst l n).any (Nat.beq d) = true := List.any_eq_true.2 ⟨d, this, by simp⟩
      simp_all
theorem InvM.env (hc : SoupC l n) (hi : InvM P X nt h CO l n t dsl aS ms w0 B listed a w) {i : Nat} {o : Oper} (ho : l[i]? = some o) (hin : i < n) (hp : ∀ j ∈ predsOf l i, listed.getD j false = true) :
    Env (XB X B) h (evS (sdst l n) (pdst l o) (entsM ((l.take n).take i) (aS.take i) []) t) a.eval w := by
  refine ⟨hi.heap, fun x av hx => ?_⟩
  cases x with
  | tmp d =>
    obtain ⟨v, e, r⟩ := hi.look hc ho hin hp hx
    have : a.eval (.tmp d) = v := by simp [Act.eval, Array.getD_eq_getD_getElem?, e]
    rw [this]; exact r
  | const x => cases hx; exact .v x
  | global g => cases hx; exact .v _
  | func f => cases hx; exact .fn _ _ _ _ _ rfl rfl (fun j h => absurd h (Nat.not_lt_zero j)) (fun j h => absurd h (Nat.not_lt_zero j))
theorem InvM.guard (hc : SoupC l n) (hi : InvM P X nt h CO l n t dsl aS ms w0 B listed a w) {i : Nat} {o : Oper} (ho : l[i]? = some o) (hin : i < n) (hp : ∀ j ∈ predsOf l i, listed.getD j false = true) {b : Bool}
    (hg : gdS l (lkS (sdst l n) (pdst l o) (entsM ((l.take n).take i) (aS.take i) []) t) o = some b) : Region.wanted o (yielded l.toArray a.tmps) = b := by
  unfold gdS at hg
  unfold Region.wanted
  split at hg
  · rename_i h0; rw [h0]; simpa using hg
  · rename_i j want h0
    rw [h0]
    simp only
    split at hg
    · rename_i d hd
      have hd' : ((l.toArray)[j]?).bind (·.dst) = some d := by simpa [dstOf] using hd
      split at hg
      · rename_i c hcc
        obtain ⟨v, e, r⟩ := hi.look hc ho hin hp hcc
        rw [r.v_eq] at e
        simp only [Option.some.injEq] at hg
        subst hg
        simp only [yielded, hd', Option.bind_some, e]
        cases c <;> cases want <;> rfl
      · rename_i c hcc
        obtain ⟨v, e, r⟩ := hi.look hc ho hin hp hcc
        rw [r.v_eq] at e
        simp only [Option.some.injEq] at hg
        subst hg
        simp only [yielded, hd', Option.bind_some, e]
        cases want <;> rfl
      · cases hg
    · cases hg
theorem closedM (hc : SoupC l n) (hi : InvM P X nt h CO l n t dsl aS ms w0 B listed a w) {i : Nat} (hp : ∀ j ∈ predsOf l i, listed.getD j false = true) :
    ∀ k, (listed.setIfInBounds i true).getD k false = true → ∀ j ∈ predsOf l k, (listed.setIfInBounds i true).getD j false = true := fun k hk j hj => by
  by_cases hik : i = k
  · subst hik; exact getD_set_true (hp j hj)
  · rw [getD_set_ne false hik] at hk; exact getD_set_true (hi.closed k hk j hj)
/-- An operation that leaves what is known. -/
theorem InvM.stepQ (hc : SoupC l n) (hi : InvM P X nt h CO l n t dsl aS ms w0 B listed a w) {i : Nat} {o : Oper} {d : Nat} {av : AV} {v : Value} {w' : World} (ho : l[i]? = some o) (hin : i < n) (hp : ∀ j ∈ predsOf l i, listed.getD j false = true)
    (hd : o.dst = some d) (hdn : d < nt) (hav : aS[i]? = some (some av)) (hms : ms[i]? = some none) (hr : Rel w' (OO h (XB X B)) av v) (hh : HRel (XB X B) w' h) (hk : Keep (owns h) w (owns h) w') :
    InvM P X nt h CO l n t dsl aS ms w0 B (listed.setIfInBounds i true) (a.put (some d) v) w' := by
  have hne : ∀ j oj dj, j < n → j ≠ i → l[j]? = some oj → oj.dst = some dj → d ≠ dj := fun j oj dj hj hji hoj hdj => by
    obtain ⟨_, g3, _⟩ := hc.one hin ho hd
    exact g3 j hj hji dj (by simp [dstOf, hoj, hdj])
  have hput : ∀ d', d ≠ d' → (a.put (some d) v).tmps[d']? = a.tmps[d']? := fun d' hdd => by simp [Act.put, hdd]
  have hkk := fun b (hb : ¬ OO h (XB X B) b) hl => hk.oo (X := XB X B) b hb hl
  have hkB : ∀ k b, b ∈ B k → w'.heap[b]? = w.heap[b]? := fun k b hb => (hk.same b (hi.heap.xlt b (.inr ⟨k, hb⟩)) (fun hm => (hi.heap.lt b hm).2 (.inr ⟨k, hb⟩))).1
  refine ⟨by simp [hi.size], closedM hc hi hp, fun k hk => ?_, by simp [Act.put, hi.tsz], hi.defs, hh, hi.inj, hi.blk, fun k m hkn hmk hlk => ?_, fun k ok dk m hkn hok hdk hmk hlk => ?_, hi.nomk, fun k ok dk avk hkn hok hdk havk hlk => ?_, fun d' av' hd' hlk => ?_, hi.keep.trans hk.more⟩
  · rw [getD_set_ne false (by omega)]; exact hi.tail k hk
  · have hki : i ≠ k := fun e => by subst e; rw [hms] at hmk; cases hmk
    rw [getD_set_ne false hki] at hlk
    obtain ⟨g1, g2, g3⟩ := hi.pend k m hkn hmk hlk
    exact ⟨g1, g2, fun r hr => Res.holds_keep hk.size hkk (fun b hb => hkB k b (g1 ▸ mem_owns.2 ⟨r, hr, hb⟩)) (g3 r hr)⟩
  · have hki : k ≠ i := fun e => by subst e; rw [hms] at hmk; cases hmk
    rw [getD_set_ne false (fun e => hki e.symm)] at hlk
    obtain ⟨x, v', g1, g2, g3, g5, g4⟩ := hi.mks k ok dk m hkn hok hdk hmk hlk
    exact ⟨x, v', by rw [hput dk (hne k ok dk hkn hki hok hdk)]; exact g1, g2, g3, g5.keep hk.size hkk, fun r hr => Res.holds_keep hk.size hkk (fun b hb => hkB k b (g2 ▸ mem_owns.2 ⟨r, hr, hb⟩)) (g4 r hr)⟩
  · by_cases hki : i = k
    · subst hki
      have : ok = o := Option.some.inj (hok.symm.trans ho)
      subst this
      have : dk = d := Option.some.inj (hdk.symm.trans hd)
      subst this
      have : avk = av := Option.some.inj (Option.some.inj (havk.symm.trans hav))
      subst this
      exact ⟨v, by simp [Act.put, hi.tsz, hdn], hr⟩
    · rw [getD_set_ne false hki] at hlk
      obtain ⟨u, e, r⟩ := hi.vals k ok dk avk hkn hok hdk havk hlk
      exact ⟨u, by rw [hput dk (hne k ok dk hkn (fun h => hki h.symm) hok hdk)]; exact e, r.keep hk.size hkk⟩
  · have hdd : d ≠ d' := fun e => hd' i hin (by simp [dstOf, ho, hd, e])
    obtain ⟨u, e, r⟩ := hi.base d' av' hd' hlk
    exact ⟨u, by rw [hput d' hdd]; exact e, r.keep hk.size hkk⟩
/-- Everybody's blocks but one's. -/
abbrev XBo (X : Nat → Prop) (B : Nat → List Nat) (i : Nat) : Nat → Prop := fun b => X b ∨ ∃ k : Nat, k ≠ i ∧ b ∈ B k
theorem InvM.open (hi : InvM P X nt h CO l n t dsl aS ms w0 B listed a w) {i : Nat} {m : CM} (hin : i < n) (hms : ms[i]? = some (some m)) (hun : listed.getD i false = false) :
    HRel (XBo X B i) w (m.1 ++ h) ∧ OO (m.1 ++ h) (XBo X B i) = OO h (XB X B) := by
  obtain ⟨g1, g2, g3⟩ := hi.pend i m hin hms hun
  have hX : XB X B = Sub (XBo X B i) (owns m.1) := by
    funext b; simp only [XB, XBo, Sub, g1, eq_iff_iff]
    constructor
    · rintro (q | ⟨k, q⟩)
      · exact .inl (.inl q)
      · by_cases hk : k = i
        · subst hk; exact .inr q
        · exact .inl (.inr ⟨k, hk, q⟩)
    · rintro ((q | ⟨k, _, q⟩) | q)
      · exact .inl q
      · exact .inr ⟨k, q⟩
      · exact .inr ⟨i, q⟩
  have hO : OO (m.1 ++ h) (XBo X B i) = OO h (XB X B) := by
    rw [hX]; funext b; simp only [OO, Sub, owns_append, List.mem_append, eq_iff_iff]
    exact ⟨fun q => by rcases q with (q | q) | q <;> simp [q], fun q => by rcases q with q | q | q <;> simp [q]⟩
  refine ⟨HRel.addres (by rw [← hX]; exact hi.heap) (by rw [g1]; exact g2) (fun b hb q => ?_) (fun r hr => by rw [← hX]; exact g3 r hr), hO⟩
  rw [g1] at hb
  rcases q with q | ⟨k, hk, q⟩
  · exact (hi.blk i b hb).2.1 q
  · exact hk (hi.inj k i b q hb)
/-- An operation that has made something. -/
theorem InvM.stepM (hc : SoupC l n) (hi : InvM P X nt h CO l n t dsl aS ms w0 B listed a w) {i : Nat} {o : Oper} {d : Nat} {m : CM} {x : MX} {v : Value} {w' : World} (ho : l[i]? = some o) (hin : i < n) (hp : ∀ j ∈ predsOf l i, listed.getD j false = true)
    (hd : o.dst = some d) (hdn : d < nt) (has : aS[i]? = some none) (hms : ms[i]? = some (some m)) (hun : listed.getD i false = false) (hr : Rel w' (OO ((m.2 x).2 ++ h) (XBo X B i)) (m.2 x).1 v) (hh : HRel (XBo X B i) w' ((m.2 x).2 ++ h)) (hk : Keep (owns (m.1 ++ h)) w (owns ((m.2 x).2 ++ h)) w') :
    InvM P X nt h CO l n t dsl aS ms w0 (fun k => if k = i then owns (m.2 x).2 else B k) (listed.setIfInBounds i true) (a.put (some d) v) w' := by
  obtain ⟨p1, p2, p3⟩ := hi.pend i m hin hms hun
  obtain ⟨C, hC⟩ : ∃ C : Nat → List Nat, C = fun k => if k = i then owns (m.2 x).2 else B k := ⟨_, rfl⟩
  rw [← hC]
  have hCi : C i = owns (m.2 x).2 := by simp [hC]
  have hCk : ∀ k, k ≠ i → C k = B k := fun k hki => by simp [hC, hki]
  have hXC : ∀ b, XB X C b ↔ (XBo X B i b ∨ b ∈ owns (m.2 x).2) := fun b => by
    constructor
    · rintro (hx | ⟨k, hk⟩)
      · exact .inl (.inl hx)
      · by_cases hki : k = i
        · subst hki; rw [hCi] at hk; exact .inr hk
        · rw [hCk k hki] at hk; exact .inl (.inr ⟨k, hki, hk⟩)
    · rintro ((hx | ⟨k, hki, hk⟩) | hb)
      · exact .inl hx
      · exact .inr ⟨k, by rw [hCk k hki]; exact hk⟩
      · exact .inr ⟨i, by rw [hCi]; exact hb⟩
  have hXC' : XB X C = Sub (XBo X B i) (owns (m.2 x).2) := by funext b; exact propext (hXC b)
  have hOO : OO ((m.2 x).2 ++ h) (XBo X B i) = OO h (XB X C) := by
    funext b; simp only [OO, owns_append, List.mem_append, eq_iff_iff, hXC]
    exact ⟨fun q => by rcases q with (q | q) | q <;> simp [q], fun q => by rcases q with q | q | q <;> simp [q]⟩
  have hnd := hh.nodup
  rw [owns_append, List.nodup_append] at hnd
  have hheap : HRel (XB X C) w' h := by
    rw [hXC']
    exact (hh.perm List.perm_append_comm).part
  have hfresh : ∀ b ∈ owns (m.2 x).2, w.heap.size ≤ b ∨ b ∈ B i := fun b hb => by
    refine Classical.byContradiction fun hlt => ?_
    rw [not_or] at hlt
    have hlt1 : b < w.heap.size := by omega
    have hbh : b ∉ owns h := fun hm => hnd.2.2 b hb b hm rfl
    exact (hk.same b hlt1 (by rw [owns_append, List.mem_append, p1]; exact fun q => q.elim hlt.2 hbh)).2 (by rw [owns_append]; exact List.mem_append_left _ hb)
  have hBh : ∀ k b, b ∈ B k → b ∉ owns h := fun k b hb hm => (hi.heap.lt b hm).2 (.inr ⟨k, hb⟩)
  have hsame : ∀ b, b < w.heap.size → b ∉ owns h → b ∉ B i → w'.heap[b]? = w.heap[b]? := fun b h1 h2 h3 => (hk.same b h1 (by rw [owns_append, List.mem_append, p1]; exact fun q => q.elim h3 h2)).1
  have hkk : ∀ b, ¬ OO h (XB X B) b → b < w.heap.size → w'.heap[b]? = w.heap[b]? ∧ ¬ OO h (XB X C) b := fun b hb hl =>
    ⟨hsame b hl (fun q => hb (.inl q)) (fun q => hb (.inr (.inr ⟨i, q⟩))), fun hm => by
      rcases hm with hm | hm
      · exact hb (.inl hm)
      · rcases (hXC b).1 hm with (hm | ⟨k, _, hm⟩) | hm
        · exact hb (.inr (.inl hm))
        · exact hb (.inr (.inr ⟨k, hm⟩))
        · rcases hfresh b hm with q | q
          · omega
          · exact hb (.inr (.inr ⟨i, q⟩))⟩
  have hlB : ∀ k b, b ∈ B k → b < w.heap.size := fun k b hb => hi.heap.xlt b (.inr ⟨k, hb⟩)
  have hkB : ∀ k b, k ≠ i → b ∈ B k → w'.heap[b]? = w.heap[b]? := fun k b hki hb => hsame b (hlB k b hb) (hBh k b hb) (fun q => hki (hi.inj k i b hb q))
  have hne : ∀ j oj dj, j < n → j ≠ i → l[j]? = some oj → oj.dst = some dj → d ≠ dj := fun j oj dj hj hji hoj hdj => by
    obtain ⟨_, g3, _⟩ := hc.one hin ho hd
    exact g3 j hj hji dj (by simp [dstOf, hoj, hdj])
  have hput : ∀ d', d ≠ d' → (a.put (some d) v).tmps[d']? = a.tmps[d']? := fun d' hdd => by simp [Act.put, hdd]
  have hgs : (listed.setIfInBounds i true).getD i false = true := getD_set_self (by rw [hi.size]; exact (List.getElem?_eq_some_iff.1 ho).1)
  have hkeep : Keep (owns h ++ CO) w0 (owns h ++ CO) w' := ⟨Nat.le_trans hi.keep.size hk.size, fun b hb ho => ⟨(hsame b (Nat.lt_of_lt_of_le hb hi.keep.size) (fun q => ho (List.mem_append_left _ q)) (fun q => by
    rcases (hi.blk i b q).2.2 with g | g
    · omega
    · exact ho (List.mem_append_right _ g))).trans (hi.keep.same b hb ho).1, ho⟩, hi.keep.env.trans hk.env⟩
  refine ⟨by simp [hi.size], closedM hc hi hp, fun k hk => ?_, by simp [Act.put, hi.tsz], hi.defs, hheap, fun j k b hj hk => ?_, fun k b hb => ?_, fun k mk hkn hmk hlk => ?_, fun k ok dk mk hkn hok hdk hmk hlk => ?_, fun k hk => ?_, fun k ok dk avk hkn hok hdk havk hlk => ?_, fun d' av' hd' hlk => ?_, hkeep⟩
  · rw [getD_set_ne false (by omega)]; exact hi.tail k hk
  · by_cases hji : j = i <;> by_cases hki : k = i
    · omega
    · subst hji; rw [hCi] at hj; rw [hCk k hki] at hk
      rcases hfresh b hj with q | q
      · have := hlB k b hk; omega
      · exact hi.inj j k b q hk
    · subst hki; rw [hCi] at hk; rw [hCk j hji] at hj
      rcases hfresh b hk with q | q
      · have := hlB j b hj; omega
      · exact hi.inj j k b hj q
    · rw [hCk j hji] at hj; rw [hCk k hki] at hk; exact hi.inj j k b hj hk
  · by_cases hki : k = i
    · subst hki
      rw [hCi] at hb
      refine ⟨hin, fun hx => (hh.lt b (by rw [owns_append]; exact List.mem_append_left _ hb)).2 (.inl hx), ?_⟩
      rcases hfresh b hb with q | q
      · have := hi.keep.size; exact .inl (by omega)
      · exact (hi.blk k b q).2.2
    · rw [hCk k hki] at hb
      exact hi.blk k b hb
  · by_cases hki : k = i
    · subst hki; rw [hgs] at hlk; cases hlk
    · rw [getD_set_ne false (fun e => hki e.symm)] at hlk
      obtain ⟨g1, g2, g3⟩ := hi.pend k mk hkn hmk hlk
      exact ⟨by rw [hCk k hki]; exact g1, by rw [hCk k hki]; exact g2, fun r hr' => Res.holds_keep hk.size hkk (fun b hb => hkB k b hki (g1 ▸ mem_owns.2 ⟨r, hr', hb⟩)) (g3 r hr')⟩
  · by_cases hki : k = i
    · subst hki
      have : ok = o := Option.some.inj (hok.symm.trans ho)
      subst this
      have : dk = d := Option.some.inj (hdk.symm.trans hd)
      subst this
      have : mk = m := Option.some.inj (Option.some.inj (hmk.symm.trans hms))
      subst this
      exact ⟨x, v, by simp [Act.put, hi.tsz, hdn], hCi.symm, by rw [hCi]; exact hnd.1, by rw [← hOO]; exact hr, fun r hr' => by rw [← hOO]; exact hh.holds r (List.mem_append_left _ hr')⟩
    · rw [getD_set_ne false (fun e => hki e.symm)] at hlk
      obtain ⟨x', v', g1, g2, g3, g5, g4⟩ := hi.mks k ok dk mk hkn hok hdk hmk hlk
      exact ⟨x', v', by rw [hput dk (hne k ok dk hkn hki hok hdk)]; exact g1, by rw [hCk k hki]; exact g2, by rw [hCk k hki]; exact g3, g5.keep hk.size hkk, fun r hr' => Res.holds_keep hk.size hkk (fun b hb => hkB k b hki (g2 ▸ mem_owns.2 ⟨r, hr', hb⟩)) (g4 r hr')⟩
  · have hki : k ≠ i := fun e => by subst e; rw [hms] at hk; cases hk
    rw [hCk k hki]; exact hi.nomk k hk
  · have hki : i ≠ k := fun e => by subst e; rw [has] at havk; cases havk
    rw [getD_set_ne false hki] at hlk
    obtain ⟨u, e, r⟩ := hi.vals k ok dk avk hkn hok hdk havk hlk
    exact ⟨u, by rw [hput dk (hne k ok dk hkn (fun h => hki h.symm) hok hdk)]; exact e, r.keep hk.size hkk⟩
  · have hdd : d ≠ d' := fun e => hd' i hin (by simp [dstOf, ho, hd, e])
    obtain ⟨u, e, r⟩ := hi.base d' av' hd' hlk
    exact ⟨u, by rw [hput d' hdd]; exact e, r.keep hk.size hkk⟩
end
end Go.Ab
/- The abstract logic, part 22: the rule of regions that draw their order and make memory, put together. Conditions: the program draws freely ('mixedOrders'). -/
set_option linter.unusedVariables false
set_option linter.unusedSimpArgs false
namespace Go.Ab
open Go
theorem assembleM {X : Nat → Prop} {K : Fr → List Res → Prop} {tmps : Array Value} {w : World} {B : Nat → List Nat} {Oq : Nat → Prop} : ∀ (os : List Oper) (ms : List (Option CM)) (k : Nat) (e : Fr) (hc : List Res),
    HRel (fun b => X b ∨ ∃ i : Nat, k ≤ i ∧ b ∈ B i) w hc → OO hc (fun b => X b ∨ ∃ i : Nat, k ≤ i ∧ b ∈ B i) = Oq →
    (∀ (i j : Nat) b, b ∈ B i → b ∈ B j → i = j) →
    (∀ (i : Nat) o m, os[i]? = some o → ms[i]? = some (some m) → ∃ x v d, o.dst = some d ∧ tmps[d]? = some v ∧ owns (m.2 x).2 = B (k + i) ∧ (B (k + i)).Nodup ∧ Rel w Oq (m.2 x).1 v ∧ (∀ r ∈ (m.2 x).2, r.holds w Oq) ∧ ∀ b ∈ B (k + i), ¬ X b) →
    (∀ (i : Nat), ms[i]? = some none → B (k + i) = []) → (∀ i, k + os.length ≤ i → B i = []) → ms.length = os.length →
    (∀ d av, lk e d = some av → ∃ v, tmps[d]? = some v ∧ Rel w Oq av v) → dallocM os ms e hc K →
    ∃ e' h', K e' h' ∧ HRel X w h' ∧ OO h' X = Oq ∧ (∀ d av, lk e' d = some av → ∃ v, tmps[d]? = some v ∧ Rel w Oq av v) ∧ (∀ d, lk e d ≠ none → lk e' d ≠ none) ∧ (∀ (i : Nat) o m d, os[i]? = some o → ms[i]? = some (some m) → o.dst = some d → lk e' d ≠ none) ∧
      (∀ b, b ∈ owns h' → b ∈ owns hc ∨ ∃ i, b ∈ B i)
  | [], ms, k, e, hc, hh, hO, hinj, hmk, hno, hend, hml, he, hd => by
    have hXX : (fun b => X b ∨ ∃ i : Nat, k ≤ i ∧ b ∈ B i) = X := by
      funext b; simp only [eq_iff_iff]
      exact ⟨fun hm => hm.elim id fun ⟨i, hi, hb⟩ => (by rw [hend i (by simpa using hi)] at hb; cases hb), .inl⟩
    rw [hXX] at hh hO
    have hd' : K e hc := by cases ms <;> simpa [dallocM] using hd
    exact ⟨e, hc, hd', hh, hO, he, fun _ h => h, fun i o m d h => by simp at h, fun b hb => .inl hb⟩
  | o :: os, [], k, e, hc, hh, hO, hinj, hmk, hno, hend, hml, he, hd => by simp at hml
  | o :: os, none :: ms, k, e, hc, hh, hO, hinj, hmk, hno, hend, hml, he, hd => by
    have shift : ∀ (i : Nat), k + 1 + i = k + (i + 1) := fun i => by omega
    have hB0 := hno 0 rfl
    rw [Nat.add_zero] at hB0
    have hX1 : (fun x => X x ∨ ∃ i : Nat, k ≤ i ∧ x ∈ B i) = fun x => X x ∨ ∃ i : Nat, k + 1 ≤ i ∧ x ∈ B i := by
      funext x; simp only [eq_iff_iff]
      constructor
      · rintro (hx | ⟨i, hi, hb⟩)
        · exact .inl hx
        · by_cases hik : i = k
          · subst hik; rw [hB0] at hb; cases hb
          · exact .inr ⟨i, by omega, hb⟩
      · rintro (hx | ⟨i, hi, hb⟩)
        · exact .inl hx
        · exact .inr ⟨i, by omega, hb⟩
    rw [hX1] at hh hO
    obtain ⟨e', h', r1, r2, r3, r4, r5, r6, r7⟩ := assembleM os ms (k + 1) e hc hh hO hinj (fun i o' m ho' hm' => by rw [shift]; exact hmk (i + 1) o' m (by simpa using ho') (by simpa using hm')) (fun i hm' => by rw [shift]; exact hno (i + 1) (by simpa using hm'))
      (fun i hi => hend i (by simp; omega)) (by simpa using hml) he (by simpa [dallocM] using hd)
    refine ⟨e', h', r1, r2, r3, r4, r5, fun i o' m d2 ho' hm' hd' => ?_, r7⟩
    cases i with
    | zero => simp at hm'
    | succ i => exact r6 i o' m d2 (by simpa using ho') (by simpa using hm') hd'
  | o :: os, some m :: ms, k, e, hc, hh, hO, hinj, hmk, hno, hend, hml, he, hd => by
    have shift : ∀ (i : Nat), k + 1 + i = k + (i + 1) := fun i => by omega
    obtain ⟨x, v, d, h1, h2, h3, h4, h5, h6, h7⟩ := hmk 0 o m rfl rfl
    rw [Nat.add_zero] at h3 h4 h7
    have hX1 : (fun y => X y ∨ ∃ i : Nat, k ≤ i ∧ y ∈ B i) = Sub (fun y => X y ∨ ∃ i : Nat, k + 1 ≤ i ∧ y ∈ B i) (owns (m.2 x).2) := by
      funext y; simp only [Sub, eq_iff_iff, h3]
      constructor
      · rintro (hx | ⟨i, hi, hb⟩)
        · exact .inl (.inl hx)
        · by_cases hik : i = k
          · subst hik; exact .inr hb
          · exact .inl (.inr ⟨i, by omega, hb⟩)
      · rintro ((hx | ⟨i, hi, hb⟩) | hb)
        · exact .inl hx
        · exact .inr ⟨i, by omega, hb⟩
        · exact .inr ⟨k, Nat.le_refl _, hb⟩
    rw [hX1] at hh hO
    have hh2 := HRel.addres hh (by rw [h3]; exact h4) (fun b hb => fun q => by
      rw [h3] at hb
      rcases q with q | ⟨i, hi, hb'⟩
      · exact h7 b hb q
      · have := hinj i k b hb' hb; omega) (fun r hr => by rw [hO]; exact h6 r hr)
    have hO2 : OO ((m.2 x).2 ++ hc) (fun y => X y ∨ ∃ i : Nat, k + 1 ≤ i ∧ y ∈ B i) = Oq := by
      rw [← hO]
      funext b; simp only [OO, Sub, owns_append, List.mem_append, eq_iff_iff]
      exact ⟨fun q => by rcases q with (q | q) | q <;> simp [q], fun q => by rcases q with q | q | q <;> simp [q]⟩
    have hd2 : dallocM os ms ((d, (m.2 x).1) :: e) ((m.2 x).2 ++ hc) K := by
      simp only [dallocM] at hd; exact hd d x h1
    obtain ⟨e', h', r1, r2, r3, r4, r5, r6, r7⟩ := assembleM os ms (k + 1) _ _ hh2 hO2 hinj (fun i o' m ho' hm' => by rw [shift]; exact hmk (i + 1) o' m (by simpa using ho') (by simpa using hm')) (fun i hm' => by rw [shift]; exact hno (i + 1) (by simpa using hm'))
      (fun i hi => hend i (by simp; omega)) (by simpa using hml) (fun d2 av h => by
        simp only [lk] at h
        split at h
        · rename_i hb
          have := Nat.eq_of_beq_eq_true hb
          subst this
          cases h
          exact ⟨v, h2, h5⟩
        · exact he d2 av h) hd2
    refine ⟨e', h', r1, r2, r3, r4, fun d2 h => r5 d2 ?_, fun i o' m' d2 ho' hm' hd' => ?_, fun y hy => ?_⟩
    · simp only [lk]; split
      · simp
      · exact h
    · cases i with
      | zero =>
        simp only [List.getElem?_cons_zero, Option.some.injEq] at ho'
        subst ho'
        have : d2 = d := Option.some.inj (hd'.symm.trans h1)
        subst this
        exact r5 d2 (by simp [lk])
      | succ i => exact r6 i o' m' d2 (by simpa using ho') (by simpa using hm') hd'
    · rcases r7 y hy with hy | hy
      · rw [owns_append, List.mem_append] at hy
        rcases hy with hy | hy
        · exact .inr ⟨k, h3 ▸ hy⟩
        · exact .inl hy
      · exact .inr hy
def consOf (ms : List (Option CM)) : List Res := ms.flatMap fun m => match m with
  | some m => m.1
  | none => []
def own1 (m : Option CM) : List Nat := match m with
  | some m => owns m.1
  | none => []
def consAt (ms : List (Option CM)) (i : Nat) : List Nat := match ms[i]? with
  | some (some m) => owns m.1
  | _ => []
theorem consAt_mem : ∀ {ms : List (Option CM)} {b : Nat}, (∃ i, b ∈ consAt ms i) ↔ b ∈ owns (consOf ms)
  | [], b => by simp [consAt, consOf, owns]
  | m :: ms, b => by
    have ih := consAt_mem (ms := ms) (b := b)
    have e : owns (consOf (m :: ms)) = own1 m ++ owns (consOf ms) := by
      cases m <;> simp [consOf, owns_append, owns, own1]
    rw [e, List.mem_append, ← ih]
    constructor
    · rintro ⟨i, h⟩
      cases i with
      | zero => left; cases m <;> simp [consAt, own1] at h ⊢; exact h
      | succ i => exact .inr ⟨i, by simpa [consAt] using h⟩
    · rintro (h | ⟨i, h⟩)
      · exact ⟨0, by cases m <;> simp [consAt, own1] at h ⊢; exact h⟩
      · exact ⟨i + 1, by simpa [consAt] using h⟩
theorem consAt_inj : ∀ {ms : List (Option CM)}, (owns (consOf ms)).Nodup → (∀ (i j : Nat) b, b ∈ consAt ms i → b ∈ consAt ms j → i = j) ∧ ∀ i, (consAt ms i).Nodup
  | [], _ => ⟨fun i j b h => by simp [consAt] at h, fun i => by simp [consAt]⟩
  | m :: ms, hn => by
    have e : owns (consOf (m :: ms)) = own1 m ++ owns (consOf ms) := by
      cases m <;> simp [consOf, owns_append, owns, own1]
    have e0 : consAt (m :: ms) 0 = own1 m := by cases m <;> rfl
    have e1 : ∀ i, consAt (m :: ms) (i + 1) = consAt ms i := fun i => by simp [consAt]
    rw [e, List.nodup_append] at hn
    obtain ⟨h1, h2⟩ := consAt_inj hn.2.1
    refine ⟨fun i j b hi hj => ?_, fun i => ?_⟩
    · cases i with
      | zero =>
        cases j with
        | zero => rfl
        | succ j =>
          rw [e0] at hi; rw [e1] at hj
          exact absurd rfl (hn.2.2 b hi b (consAt_mem.1 ⟨j, hj⟩))
      | succ i =>
        cases j with
        | zero =>
          rw [e0] at hj; rw [e1] at hi
          exact absurd rfl (hn.2.2 b hj b (consAt_mem.1 ⟨i, hi⟩))
        | succ j => rw [e1] at hi hj; rw [h1 i j b hi hj]
    · cases i with
      | zero => rw [e0]; exact hn.1
      | succ i => rw [e1]; exact h2 i
theorem aw_drawC {P : Program} {ro : Option Nat} {nt rid : Nat} {Q : Exit → St → Prop} {l : List Oper} {t : Fr} {hh : List Res} {dsl : List Nat} (n : Nat) (h : List Res) [hm : Mixed P] (hc : soupOk l n = true)
    (hk : dsoupM P ro nt h dsl l (sdst l n) t (l.take n) [] (fun e ms => hh.Perm (consOf ms ++ h) ∧ dallocM (l.take n) ms e h (fun e' h' => aops P ro nt l.toArray (l.drop n) Q ⟨e' ++ t, h', dsl⟩))) : aw P ro nt (.region rid l.toArray true) Q ⟨t, hh, dsl⟩ := by
  intro X a0 w0 hs
  have hC := soupC_of hc
  obtain ⟨aS, ms, hfacts, hp, hK⟩ := factsM_of hk
  have hperm := hs.heap.perm hp
  have hown0 : ∀ b, b ∈ owns hh ↔ b ∈ owns h ∨ b ∈ owns (consOf ms) := fun b => by rw [(owns_perm hp).mem_iff, owns_append, List.mem_append]; exact Or.comm
  have hasl : aS.length = n := by have := hfacts.length.1; rw [this]; have := hC.le; simp; omega
  have hmsl : ms.length = n := by have := hfacts.length.2; rw [this]; have := hC.le; simp; omega
  refine wpIn_region_any hm.h ?_
  have main : ∀ (fuel : Nat) (U : List Nat) (B : Nat → List Nat) (listed : Array Bool) (a : Act) (w : World), InvM P X nt h (owns (consOf ms)) l n t dsl aS ms w0 B listed a w → (∀ i, i < l.length → listed.getD i false = false → i ∈ U) → U.length ≤ fuel →
      wpAnyIn (FW ro) 0 P .any l.toArray (AOut X nt ⟨t, hh, dsl⟩ w0 Q) fuel listed a w := by
    have done : ∀ (fuel : Nat) (U : List Nat) (B : Nat → List Nat) (listed : Array Bool) (a : Act) (w : World), InvM P X nt h (owns (consOf ms)) l n t dsl aS ms w0 B listed a w → (∀ i, i < l.length → listed.getD i false = false → i ∈ U) → U.length ≤ fuel →
        (∀ i, i < n → listed.getD i false = true) → wpAnyIn (FW ro) 0 P .any l.toArray (AOut X nt ⟨t, hh, dsl⟩ w0 Q) fuel listed a w := by
      intro fuel U B listed a w hi hU hf hall
      refine tail_seq hC.toSoupT fuel U n listed a w (Nat.le_refl _) hC.le hi.size (fun j hj => ⟨fun hl => ?_, fun hl => hall j hl⟩) (fun i h1 h2 => hU i h2 (hi.tail i h1)) hf ?_
      · rcases Nat.lt_or_ge j n with h | h
        · exact h
        · rw [hi.tail j h] at hl; cases hl
      · have hlt : ∀ (i : Nat) o, (l.take n)[i]? = some o → i < n ∧ l[i]? = some o := fun i o ho => by
          have := (List.getElem?_eq_some_iff.1 ho).1
          have hin : i < n := by simp at this; omega
          exact ⟨hin, by rw [List.getElem?_take_of_lt hin] at ho; exact ho⟩
        have hX0 : (fun b => X b ∨ ∃ i : Nat, 0 ≤ i ∧ b ∈ B i) = XB X B := by funext b; simp [XB]
        obtain ⟨e', h', r1, r2, r3, r4, r5, r6, r7⟩ := assembleM (X := X) (tmps := a.tmps) (w := w) (B := B) (Oq := OO h (XB X B)) (l.take n) ms 0 _ h (by rw [hX0]; exact hi.heap) (by rw [hX0]) hi.inj
          (fun i o m ho hms => by
            obtain ⟨hin, hlo⟩ := hlt i o ho
            rcases hfacts.at i o ho with ⟨a', _, g, _⟩ | ⟨m', _, g, d, hd, _⟩
            · rw [g] at hms; cases hms
            · obtain ⟨x, v, q1, q2, q3, q4, q5⟩ := hi.mks i o d m hin hlo hd hms (hall i hin)
              rw [Nat.zero_add]
              exact ⟨x, v, d, hd, q1, q2, q3, q4, q5, fun b hb => (hi.blk i b hb).2.1⟩)
          (fun i hms => by rw [Nat.zero_add]; exact hi.nomk i hms)
          (fun i hin => by
            cases hb : B i with
            | nil => rfl
            | cons b r => have := (hi.blk i b (by simp [hb])).1; simp at hin; have := hC.le; omega)
          (by rw [hmsl]; have := hC.le; simp; omega)
          (fun d av hl => by
            rcases lk_entsM hl with ⟨i, o, g1, g2, g4⟩ | g1
            · obtain ⟨hin, hlo⟩ := hlt i o g1
              exact hi.vals i o d av hin hlo g4 g2 (hall i hin)
            · simp [lk] at g1) hK
        have hsim : Sim X nt ⟨e' ++ t, h', dsl⟩ a w := by
          refine ⟨r2, hi.tsz, fun d av hl => ?_, hi.defs⟩
          show ∃ v, a.tmps[d]? = some v ∧ Rel w (OO h' X) av v
          rw [r3]
          have hl' : lk (e' ++ t) d = some av := hl
          rw [lk_append] at hl'
          cases he : lk e' d with
          | some av' => simp only [he] at hl'; cases hl'; exact r4 d _ he
          | none =>
            simp only [he] at hl'
            refine hi.base d av (fun j hj hd => ?_) hl'
            obtain ⟨o, g1⟩ : ∃ o, l[j]? = some o := ⟨l[j]'(by have := hC.le; omega), by simp [show j < l.length by have := hC.le; omega]⟩
            have g2 : o.dst = some d := by simpa [dstOf, g1] using hd
            have ho : (l.take n)[j]? = some o := by rw [List.getElem?_take_of_lt hj]; exact g1
            rcases hfacts.at j o ho with ⟨a', q1, _⟩ | ⟨m', _, q1, _⟩
            · exact r5 d (lk_entsM_some ho q1 g2) he
            · exact r6 j o m' d ho q1 g2 he
        have := r1 X a w hsim
        refine wpListIn_aout_mono (s := ⟨t, hh, dsl⟩) (s' := ⟨e' ++ t, h', dsl⟩) ⟨hi.keep.size, fun b hb hn => ⟨(hi.keep.same b hb (fun q => hn ((hown0 b).2 (List.mem_append.1 q)))).1, fun hm => ?_⟩, hi.keep.env⟩ this
        rcases r7 b hm with hm | ⟨i, hB⟩
        · exact hn ((hown0 b).2 (.inl hm))
        · rcases (hi.blk i b hB).2.2 with q | q
          · omega
          · exact hn ((hown0 b).2 (.inr q))
    intro fuel
    induction fuel with
    | zero =>
      intro U B listed a w hi hU hf
      refine done 0 U B listed a w hi hU hf fun i hin => ?_
      have hU0 : U = [] := List.eq_nil_of_length_eq_zero (by omega)
      cases hl : listed.getD i false with
      | true => rfl
      | false => have := hU i (by have := hC.le; omega) hl; simp [hU0] at this
    | succ fuel ih =>
      intro U B listed a w hi hU hf
      by_cases hall : ∀ i, i < n → listed.getD i false = true
      · exact done _ U B listed a w hi hU hf hall
      · have hready : ∀ i, i ∈ Region.ready .any l.toArray listed → i < n ∧ listed.getD i false = false ∧ i < l.length ∧ ∀ j ∈ predsOf l i, listed.getD j false = true := by
          intro i hir
          obtain ⟨h1, h2, h3⟩ := ready_iff.1 hir
          have hun : listed.getD i false = false := by rw [getD_tf (by rw [hi.size]; exact h2) false true]; exact h1
          refine ⟨?_, hun, h2, h3⟩
          rcases Nat.lt_or_ge i n with h | h
          · exact h
          · exfalso
            apply hall
            intro j hj
            exact clos_listed hi.closed i _ h3 j (hC.tail i h h2 j (by omega))
        have hsome : ∀ m, (∃ i, i < n ∧ i < m ∧ listed.getD i false = false) → Region.ready .any l.toArray listed ≠ [] := by
          intro m
          induction m with
          | zero => rintro ⟨i, _, h, _⟩; omega
          | succ m ihm =>
            rintro ⟨i, hin, him, hun⟩
            by_cases hp : ∀ j ∈ predsOf l i, listed.getD j false = true
            · intro h0
              have hin' : i < l.length := by have := hC.le; omega
              have : i ∈ Region.ready .any l.toArray listed := ready_iff.2 ⟨by rw [getD_tf (by rw [hi.size]; exact hin') true false]; exact hun, hin', hp⟩
              rw [h0] at this; exact absurd this (by simp)
            · have : ∃ j, j ∈ predsOf l i ∧ listed.getD j false = false := by
                refine Classical.byContradiction fun hne => hp fun j hj => ?_
                cases hl : listed.getD j false with
                | true => rfl
                | false => exact absurd ⟨j, hj, hl⟩ hne
              obtain ⟨j, hj, hjun⟩ := this
              have := hC.back i (by have := hC.le; omega) j hj
              exact ihm ⟨j, by omega, by omega, hjun⟩
        refine ⟨fun h0 => ?_, fun i hir => ?_⟩
        · exfalso
          have : ∃ i, i < n ∧ listed.getD i false = false := by
            refine Classical.byContradiction fun hne => hall fun i hin => ?_
            cases hl : listed.getD i false with
            | true => rfl
            | false => exact absurd ⟨i, hin, hl⟩ hne
          obtain ⟨i, hin, hun⟩ := this
          exact hsome (i + 1) ⟨i, hin, by omega, hun⟩ h0
        · obtain ⟨hin, hun, hil, hp⟩ := hready i hir
          have ho : l[i]? = some l[i] := by simp [hil]
          generalize l[i] = o at ho
          have hU' : ∀ k, k < l.length → (listed.setIfInBounds i true).getD k false = false → k ∈ U.erase i := fun k hkl hk => by
            have hki : i ≠ k := fun e => by subst e; rw [getD_set_self (by rw [hi.size]; exact hil)] at hk; cases hk
            rw [getD_set_ne false hki] at hk
            exact (List.mem_erase_of_ne (fun h => hki h.symm)).2 (hU k hkl hk)
          have hf' : (U.erase i).length ≤ fuel := by rw [List.length_erase_of_mem (hU i hil hun)]; omega
          unfold wpOpIn
          simp only [List.getElem?_toArray, ho]
          rcases hfacts.at i o (by rw [List.getElem?_take_of_lt hin]; exact ho) with ⟨av, q1, q2, d, hd, hdn, q3⟩ | ⟨m, q1, q2, d, hd, hdn, hgn, q3⟩
          · rcases q3 with ⟨hg, hq⟩ | ⟨hg, rfl⟩
            · rw [if_pos (hi.guard hC ho hin hp hg)]
              refine hq _ a w _ _ (hi.env hC ho hin hp) fun v w' hr hh hkp => ?_
              rw [hd]
              exact ih (U.erase i) B _ _ _ (hi.stepQ hC ho hin hp hd (Nat.le_of_ble_eq_true hdn) q1 q2 hr hh hkp) hU' hf'
            · rw [if_neg (by rw [hi.guard hC ho hin hp hg]; simp)]
              refine ⟨about_true, ?_⟩
              rw [hd]
              exact ih (U.erase i) B _ _ _ (hi.stepQ hC ho hin hp hd (Nat.le_of_ble_eq_true hdn) q1 q2 (.v _) hi.heap (.refl _ _)) hU' hf'
          · rw [if_pos (by simp [Region.wanted, hgn])]
            obtain ⟨o1, o2⟩ := hi.open hin q2 hun
            have henv := hi.env hC ho hin hp
            refine q3 _ a w _ _ hi.tsz hi.defs ⟨o1, fun z av hz => by rw [o2]; exact henv.rel z av hz⟩ fun x v w' hr hh hkp => ?_
            rw [hd]
            exact ih (U.erase i) _ _ _ _ (hi.stepM hC ho hin hp hd (Nat.le_of_ble_eq_true hdn) q1 q2 hun hr hh hkp) hU' hf'
  have hX0 : XB X (consAt ms) = Sub X (owns (consOf ms)) := by funext b; simp only [XB, Sub, consAt_mem]
  have hpart : HRel (Sub X (owns (consOf ms))) w0 h := (hperm.perm List.perm_append_comm).part
  have hO0 : OO h (XB X (consAt ms)) = OO hh X := by
    rw [hX0]; funext b; simp only [OO, Sub, hown0, eq_iff_iff]
    exact ⟨fun q => by rcases q with q | q | q <;> simp [q], fun q => by rcases q with (q | q) | q <;> simp [q]⟩
  have hnd := hperm.nodup
  rw [owns_append, List.nodup_append] at hnd
  obtain ⟨hinj, hndi⟩ := consAt_inj hnd.1
  have hsz : l.toArray.size = l.length := by simp
  have hrep : ∀ i, (Array.replicate l.length false).getD i false = false := getD_rep l.length
  refine main l.toArray.size (List.range l.length) (consAt ms) _ a0 { w0 with drawn := w0.drawn + 1 } ⟨by simp, fun i hi => ?_, fun i _ => ?_, hs.size, hs.defs, ?_, hinj, fun i b h => ?_, fun i m hin hms _ => ?_, fun i o d m _ _ _ _ h => ?_, fun i h => ?_, fun i o d av _ _ _ _ h => ?_, fun d av _ hl => ?_, ⟨Nat.le_refl _, fun b _ h => ⟨rfl, h⟩, EnvS.eq rfl rfl rfl (by first | exact Nat.le_refl _ | exact Nat.le_succ _)⟩⟩
    (fun i hi _ => List.mem_range.2 hi) (by simp)
  · rw [hsz, hrep i] at hi; cases hi
  · rw [hsz]; exact hrep i
  · rw [hX0]; exact hpart.grow (Nat.le_refl _) fun _ _ => rfl
  · refine ⟨?_, fun hx => ?_, .inr (consAt_mem.1 ⟨i, h⟩)⟩
    · rw [← hmsl]
      unfold consAt at h
      split at h
      · rename_i m hm; exact (List.getElem?_eq_some_iff.1 hm).1
      · cases h
    · exact (hperm.lt b (by rw [owns_append]; exact List.mem_append_left _ (consAt_mem.1 ⟨i, h⟩))).2 hx
  · refine ⟨by simp [consAt, hms], hndi i, fun r hr => ?_⟩
    rw [hO0]
    have hmem : r ∈ consOf ms ++ h := List.mem_append_left _ (List.mem_flatMap.2 ⟨some m, List.mem_of_getElem? hms, hr⟩)
    have := hperm.holds r hmem
    rw [← OO_perm hp] at this
    exact Res.holds_keep (w := w0) (Nat.le_refl _) (fun b hb _ => ⟨rfl, hb⟩) (fun _ _ => rfl) this
  · rw [hsz, hrep i] at h; cases h
  · simp [consAt, h]
  · rw [hsz, hrep i] at h; cases h
  · rw [hO0]
    obtain ⟨v, e, r⟩ := hs.fr d av hl
    exact ⟨v, e, Rel.keep (w := w0) (Nat.le_refl _) (fun b hb _ => ⟨rfl, hb⟩) r⟩
theorem aw_drawM {P : Program} {ro : Option Nat} {nt rid : Nat} {Q : Exit → St → Prop} {l : List Oper} {t : Fr} {h : List Res} {dsl : List Nat} (n : Nat) [hm : Mixed P] (hc : soupOk l n = true)
    (hk : dsoupM P ro nt h dsl l (sdst l n) t (l.take n) [] (fun e ms => h.Perm (consOf ms ++ h) ∧ dallocM (l.take n) ms e h (fun e' h' => aops P ro nt l.toArray (l.drop n) Q ⟨e' ++ t, h', dsl⟩))) : aw P ro nt (.region rid l.toArray true) Q ⟨t, h, dsl⟩ :=
  aw_drawC n h hc hk
/-! The rules of a script. -/
section
variable {P : Program} {ro : Option Nat} {nt : Nat} {h : List Res} {dsl : List Nat} {l : List Oper} {sd : List Tmp} {t0 : Fr} {rest : List Oper} {e : Fr} {K : Fr → List (Option CM) → Prop} {o : Oper} {av : AV} {d : Tmp} {op : Op} {ty : TypeId} {pos : String} {after : Array Edge} {g : Option (Nat × Bool)} {x y z : Operand}
theorem mq (hg : gdS l (lkS sd (pdst l ⟨some d, op, ty, pos, after, g⟩) e t0) ⟨some d, op, ty, pos, after, g⟩ = some true) (hd : Nat.blt d nt = true)
    (hq : QR P h (evS sd (pdst l ⟨some d, op, ty, pos, after, g⟩) e t0) ⟨some d, op, ty, pos, after, g⟩ av) (hk : dsoupM P ro nt h dsl l sd t0 rest ((d, av) :: e) (fun e ms => K e (none :: ms)))
    (hn : notDefer ⟨some d, op, ty, pos, after, g⟩ = true := by rfl) : dsoupM P ro nt h dsl l sd t0 (⟨some d, op, ty, pos, after, g⟩ :: rest) e K :=
  .inl ⟨d, av, rfl, ⟨d, rfl, hd, .inl ⟨hg, qv_of_qr hq hn⟩⟩, hk⟩
theorem ms (hg : gdS l (lkS sd (pdst l ⟨some d, op, ty, pos, after, g⟩) e t0) ⟨some d, op, ty, pos, after, g⟩ = some false) (hd : Nat.blt d nt = true) (hk : dsoupM P ro nt h dsl l sd t0 rest ((d, .v (.tuple #[])) :: e) (fun e ms => K e (none :: ms))) :
    dsoupM P ro nt h dsl l sd t0 (⟨some d, op, ty, pos, after, g⟩ :: rest) e K :=
  .inl ⟨d, .v undef, rfl, ⟨d, rfl, hd, .inr ⟨hg, rfl⟩⟩, hk⟩
theorem mnil (hk : K e []) : dsoupM P ro nt h dsl l sd t0 [] e K := hk
theorem mal_s {o : Oper} {os : List Oper} {ms : List (Option CM)} {e : Fr} {h : List Res} {K : Fr → List Res → Prop} (hk : dallocM os ms e h K) : dallocM (o :: os) (none :: ms) e h K := hk
theorem mal_nil {e : Fr} {h : List Res} {K : Fr → List Res → Prop} (hk : K e h) : dallocM [] [] e h K := hk
end
/-! Calls that make one row. -/
def MX.v0 (x : MX) : SV := x.vs.headD ⟨none, 0, 0⟩
abbrev mrow (sz : Nat) (T : TypeId) (rows : List (List AV)) : MR := fun x => (.v x.v0.v, [.row x.v0.v sz T rows])
theorem mal_row {op : Op} {ty : TypeId} {pos : String} {after : Array Edge} {g : Option (Nat × Bool)} {d : Tmp} {os : List Oper} {sz : Nat} {T : TypeId} {rows : List (List AV)} {c : List Res} {ms : List (Option CM)} {e : Fr} {h : List Res} {K : Fr → List Res → Prop}
    (hk : ∀ s : SV, dallocM os ms ((d, .v s.v) :: e) (.row s.v sz T rows :: h) K) : dallocM (⟨some d, op, ty, pos, after, g⟩ :: os) (some (c, mrow sz T rows) :: ms) e h K := fun d' x e => by cases e; exact hk x.v0
/-- A field's place within an owned row. -/
theorem qr_fieldAddr_row {P : Program} {h : List Res} {f : Operand → Option AV} {dst : Option Tmp} {ty : TypeId} {pos : String} {after : Array Edge} {guard : Option (Nat × Bool)} {x : Operand} {T FT E : TypeId} {s : Value} {k sz i kk off n ri : Nat} {rows : List (List AV)} (hx : f x = some (.rp s sz i kk)) [hr : HasRow h s ri sz E rows] [hf : Fld P T k off FT] [Siz P FT n] (hn : n ≠ 0) :
    QR P h f ⟨dst, .fieldAddr T x k, ty, pos, after, guard⟩ (.rp s sz i (kk + off)) := fun X ρ w he => by
  have hrr := he.rel x _ hx
  generalize hv : ρ x = v at hrr
  cases hrr with
  | rp a len cap _ _ _ =>
    have hx2 := he.heap.holds _ (List.mem_of_getElem? hr.h)
    obtain ⟨h1, _⟩ := hx2
    obtain ⟨b, o, spot⟩ := a
    simp only at h1; subst h1
    refine ⟨_, run_v _ (by rw [hv, add_none]; exact run_fieldAt (n := n) (FT := FT) hn), ?_⟩
    have := Rel.rp (w := w) (O := OO h X) ⟨b, o, none⟩ len cap sz i (kk + off)
    rw [add_none, ← Nat.add_assoc (i * sz), ← Nat.add_assoc o] at this
    exact this
/-- A row's value is a slice. -/
theorem aops_slice {P : Program} {ro : Option Nat} {nt : Nat} {ops : Array Oper} {l : List Oper} {Q : Exit → St → Prop} {t : Fr} {h : List Res} {ds : List Nat} (s : Value) {i sz : Nat} {T : TypeId} {rows : List (List AV)} [hr : HasRow h s i sz T rows]
    (k : ∀ v : SV, s = v.v → aops P ro nt ops l Q ⟨t, h, ds⟩) : aops P ro nt ops l Q ⟨t, h, ds⟩ := fun X a w hs => by
  have q := hs.heap.holds _ (List.mem_of_getElem? hr.h)
  cases s with
  | slice a' n c => exact k ⟨a', n, c⟩ rfl X a w hs
  | _ => exact q.elim
section
variable {P : Program} {ro : Option Nat} {nt : Nat} {h : List Res} {dsl : List Nat} {l : List Oper} {sd : List Tmp} {t0 : Fr} {rest : List Oper} {e : Fr} {K : Fr → List (Option CM) → Prop} {d i j : Tmp} {ty : TypeId} {pos : String} {after : Array Edge}
end
end Go.Ab
/- The abstract logic, part 23: resources in pieces; a call on some of them, whatever stands around. Conditions: none (lemmas over any program). -/
set_option linter.unusedVariables false
namespace Go.Ab
open Go
/-- A row of one's own, held by a cell, becomes a list that nobody writes. -/
theorem vent_freeze_cell {h : List Res} {s : Value} {sz : Nat} {T : TypeId} {rows : List (List AV)} (A B : List AV) : VEnt (.row s sz T rows :: h) (.agg (A ++ .v s :: B)) h (.agg (A ++ .list false sz rows :: B)) := by
  refine ⟨fun x hx => by rw [owns_cons]; exact List.mem_append_right _ hx, fun X w v hh hr => ⟨HRel.drop (h := [_]) hh, ?_⟩⟩
  have hf := row_frozen hh
  cases hr with
  | agg _ cs hl hc =>
    refine .agg _ cs (by simpa using hl) fun j h1 h2 => ?_
    have hj : j < (A ++ .v s :: B).length := by simpa using h1
    have hcj := hc j hj h2
    have hkeep : ∀ av u, Rel w (OO (.row s sz T rows :: h) X) av u → Rel w (OO h X) av u := fun av u r => r.keep (Nat.le_refl _) fun b hb _ => ⟨rfl, fun q => hb (by
      rcases q with q | q
      · exact .inl (by rw [owns_cons]; exact List.mem_append_right _ q)
      · exact .inr q)⟩
    by_cases hA : j < A.length
    · rw [List.getElem_append_left hA] at hcj ⊢; exact hkeep _ _ hcj
    · rw [List.getElem_append_right (by omega)] at hcj ⊢
      by_cases h0 : j - A.length = 0
      · simp only [h0, List.getElem_cons_zero] at hcj ⊢
        rw [hcj.v_eq]; exact hf
      · obtain ⟨k, hk⟩ : ∃ k, j - A.length = k + 1 := ⟨j - A.length - 1, by omega⟩
        simp only [hk, List.getElem_cons_succ] at hcj ⊢
        exact hkeep _ _ hcj
/-- A row of one's own, held by a cell, becomes a list that nobody writes. -/
theorem vent_freeze_tup {h : List Res} {s : Value} {sz : Nat} {T : TypeId} {rows : List (List AV)} (A B : List AV) : VEnt (.row s sz T rows :: h) (.tup (A ++ .v s :: B)) h (.tup (A ++ .list false sz rows :: B)) := by
  refine ⟨fun x hx => by rw [owns_cons]; exact List.mem_append_right _ hx, fun X w v hh hr => ⟨HRel.drop (h := [_]) hh, ?_⟩⟩
  have hf := row_frozen hh
  cases hr with
  | tup _ cs hl hc =>
    refine .tup _ cs (by simpa using hl) fun j h1 h2 => ?_
    have hj : j < (A ++ .v s :: B).length := by simpa using h1
    have hcj := hc j hj h2
    have hkeep : ∀ av u, Rel w (OO (.row s sz T rows :: h) X) av u → Rel w (OO h X) av u := fun av u r => r.keep (Nat.le_refl _) fun b hb _ => ⟨rfl, fun q => hb (by
      rcases q with q | q
      · exact .inl (by rw [owns_cons]; exact List.mem_append_right _ q)
      · exact .inr q)⟩
    by_cases hA : j < A.length
    · rw [List.getElem_append_left hA] at hcj ⊢; exact hkeep _ _ hcj
    · rw [List.getElem_append_right (by omega)] at hcj ⊢
      by_cases h0 : j - A.length = 0
      · simp only [h0, List.getElem_cons_zero] at hcj ⊢
        rw [hcj.v_eq]; exact hf
      · obtain ⟨k, hk⟩ : ∃ k, j - A.length = k + 1 := ⟨j - A.length - 1, by omega⟩
        simp only [hk, List.getElem_cons_succ] at hcj ⊢
        exact hkeep _ _ hcj
theorem ACall.ventR {P : Program} {f : FuncId} {args : List AV} {h : List Res} {R R2 : AV → List Res → Prop} (hc : ACall P f args h R) (hv : ∀ r h', R r h' → ∃ r2 h2, VEnt h' r h2 r2 ∧ R2 r2 h2) : ACall P f args h R2 := by
  intro X w vs hh ha
  refine (hc X w vs hh ha).mono ?_
  rintro e w' ⟨u, av, h', e1, hR, hrel, hh', hk⟩
  obtain ⟨r2, h2, ⟨o, q⟩, hR2⟩ := hv _ _ hR
  obtain ⟨q1, q2⟩ := q X w' u hh' hrel
  exact ⟨u, r2, h2, e1, hR2, q2, q1, ⟨hk.size, fun b hb ho => ⟨(hk.same b hb ho).1, fun hm => (hk.same b hb ho).2 (o b hm)⟩, hk.env⟩⟩
theorem FCall.ventR {P : Program} {fv : AV} {args : List AV} {h : List Res} {R R2 : AV → List Res → Prop} (hc : FCall P fv args h R) (hv : ∀ r h', R r h' → ∃ r2 h2, VEnt h' r h2 r2 ∧ R2 r2 h2) : FCall P fv args h R2 := by
  intro X w v vs hh hvv ha
  refine (hc X w v vs hh hvv ha).mono ?_
  rintro e w' ⟨u, av, h', e1, hR, hrel, hh', hk⟩
  obtain ⟨r2, h2, ⟨o, q⟩, hR2⟩ := hv _ _ hR
  obtain ⟨q1, q2⟩ := q X w' u hh' hrel
  exact ⟨u, r2, h2, e1, hR2, q2, q1, ⟨hk.size, fun b hb ho => ⟨(hk.same b hb ho).1, fun hm => (hk.same b hb ho).2 (o b hm)⟩, hk.env⟩⟩
theorem FCall.ventE {P : Program} {fv : AV} {args : List AV} {h : List Res} {R : AV → List Res → Prop} (hc : FCall P fv args h (fun r h' => ∃ r2 h2, VEnt h' r h2 r2 ∧ R r2 h2)) : FCall P fv args h R := hc.ventR fun _ _ q => q
theorem ACall.ventE {P : Program} {f : FuncId} {args : List AV} {h : List Res} {R : AV → List Res → Prop} (hc : ACall P f args h (fun r h' => ∃ r2 h2, VEnt h' r h2 r2 ∧ R r2 h2)) : ACall P f args h R := hc.ventR fun _ _ q => q
end Go.Ab
/- The abstract logic, part 24: rows lent to calls, rows frozen with what they hold. Conditions: none (lemmas over any program). -/
set_option linter.unusedVariables false
namespace Go.Ab
open Go
/-- What says nothing of memory. -/
inductive Scal : AV → Prop where
  | any : Scal .any
  | v (x : Value) : Scal (.v x)
  | tup (vs : List AV) : (∀ j (h : j < vs.length), Scal vs[j]) → Scal (.tup vs)
  | fn (f : Fn) : Scal (.fn f [] [])
theorem Scal.rel {a : AV} (s : Scal a) : ∀ {w w' : World} {O O' : Nat → Prop} {v : Value}, Rel w O a v → Rel w' O' a v := by
  induction s with
  | any => intro w w' O O' v r; exact .any _
  | v x => intro w w' O O' v r; rw [r.v_eq]; exact .v _
  | tup vs _ ih =>
    intro w w' O O' v r
    cases r with
    | tup _ cs h1 h2 => exact .tup _ _ h1 fun j a b => ih j a (h2 j a b)
  | fn f =>
    intro w w' O O' v r
    cases r with
    | fn _ _ _ fa ca h1 h2 h3 h4 => exact .fn _ _ _ _ _ h1 h2 (fun j h => absurd h (Nat.not_lt_zero j)) (fun j h => absurd h (Nat.not_lt_zero j))
def ScalR (x : Res) : Prop := ∀ {w : World} {O O' : Nat → Prop}, x.holds w O → x.holds w O'
theorem scal_row {s : Value} {sz : Nat} {T : TypeId} {rows : List (List AV)} (h : ∀ r ∈ rows, ∀ a ∈ r, Scal a) : ScalR (.row s sz T rows) := by
  intro w O O' hb
  cases s <;> try exact hb.elim
  rename_i a len cap
  cases a with
  | none => exact hb
  | some a =>
    obtain ⟨h1, h2, h3, h4, c, h5, h6, h7⟩ := hb
    refine ⟨h1, h2, h3, h4, c, h5, h6, fun i hi j hj => ?_⟩
    obtain ⟨v, e, r⟩ := h7 i hi j hj
    exact ⟨v, e, (h _ (List.getElem_mem hi) _ (List.getElem_mem hj)).rel r⟩
/-- A row's name, and what its cells say elsewhere: a list. -/
theorem row_list_of {H : List Res} {X : Nat → Prop} {w : World} {s : Value} {sz : Nat} {T : TypeId} {rows rows' : List (List AV)} {O' : Nat → Prop} (hh : HRel X w H) (hm : .row s sz T rows ∈ H) (hO : ∀ b ∈ (Res.row s sz T rows).own, ¬ O' b) (hl : rows'.length = rows.length)
    (hl2 : ∀ i (h : i < rows.length) (h' : i < rows'.length), rows'[i].length = rows[i].length)
    (hc : ∀ i (h : i < rows.length) (h' : i < rows'.length) j (k : j < rows[i].length) (k' : j < rows'[i].length) u, Rel w (OO H X) rows[i][j] u → Rel w O' rows'[i][j] u) : Rel w O' (.list false sz rows') s := by
  have hx := hh.holds _ hm
  cases s <;> try exact hx.elim
  rename_i a len cap
  cases a with
  | none =>
    obtain ⟨rfl, rfl, rfl⟩ := hx
    obtain rfl : rows' = [] := List.eq_nil_of_length_eq_zero (by simpa using hl)
    exact .lnil _ _ _ _ (by simp)
  | some a =>
    obtain ⟨h1, h2, h3, h4, c, h5, h6, h7⟩ := hx
    obtain ⟨b, off, spot⟩ := a
    simp only at h1; subst h1; subst h2
    have hb := hh.lt b (mem_owns.2 ⟨_, hm, by simp [Res.own]⟩)
    rw [← hl]
    refine .list _ _ _ b off cap (fun i j => c[off + i * sz + j]?.getD undef) (by simp) (by omega) (hO b (by simp [Res.own])) hb.1 (fun i hi => by rw [hl2 i (by omega) hi]; exact h4 i (by omega)) (fun i hi j hj => ?_) fun i hi j hj => ?_
    · obtain ⟨v, e, _⟩ := h7 i (by omega) j (by rw [← hl2 i (by omega) hi]; exact hj)
      simp only at e h5
      simp [World.cell?, h5, e]
    · obtain ⟨v, e, r⟩ := h7 i (by omega) j (by rw [← hl2 i (by omega) hi]; exact hj)
      simp only at e
      rw [e]; exact hc i (by omega) hi j (by rw [← hl2 i (by omega) hi]; exact hj) hj v r
section
variable {P : Program} {h : List Res} {f : Operand → Option AV} {dst : Option Tmp} {ty : TypeId} {pos : String} {after : Array Edge} {guard : Option (Nat × Bool)} {x y : Operand}
theorem qr_minN {tys : Array TypeId} {k k' : IntKind} (a b : Nat) (hx : f x = some (.v (.int k a))) (hy : f y = some (.v (.int k' b))) :
    QR P h f ⟨dst, .call ⟨.builtin .min, [x, y].toArray, tys⟩, ty, pos, after, guard⟩ (.v (.int k ((min a b : Nat) : Int))) := by
  have := qr_min2 (P := P) (h := h) (tys := tys) (dst := dst) (ty := ty) (pos := pos) (after := after) (guard := guard) hx hy
  rw [show ((min a b : Nat) : Int) = min (a : Int) (b : Int) from by omega]; exact this
theorem qr_slice_hE {T E : TypeId} {full : Bool} {sz k : Nat} {rows rows' : List (List AV)} (hx : f x = some (.list full sz rows)) (hy : f y = some (.v (.int .i64 k))) (hk : k ≤ rows.length) (he : rows.take k = rows')
    [Und P T (.slice E)] [Siz P E sz] : QR P h f ⟨dst, .slice T x none (some y) none, ty, pos, after, guard⟩ (.list false sz rows') := by
  subst he; exact qr_slice_h hx hy hk
end
end Go.Ab
/- The abstract logic, part 26: whole stretches of code gone through at once. Conditions: none (lemmas over any program). -/
set_option linter.unusedVariables false
set_option linter.unusedSimpArgs false
namespace Go.Ab
open Go
section
variable {P : Program} {h : List Res} {f : Operand → Option AV} {dst : Option Tmp} {ty T T' : TypeId} {pos : String} {after : Array Edge} {g : Option (Nat × Bool)} {x y z : Operand} {av : AV}
/-! By kinds. -/
theorem g_move (q : QR P h f ⟨dst, .move x, ty, pos, after, g⟩ av) : QR P h f ⟨dst, .move x, ty, pos, after, g⟩ av := q
theorem g_assign (q : QR P h f ⟨dst, .assign x, ty, pos, after, g⟩ av) : QR P h f ⟨dst, .assign x, ty, pos, after, g⟩ av := q
theorem g_pick (q : QR P h f ⟨dst, .pick x y z, ty, pos, after, g⟩ av) : QR P h f ⟨dst, .pick x y z, ty, pos, after, g⟩ av := q
theorem g_bin {op : BinOp} (q : QR P h f ⟨dst, .binOp op T x y T', ty, pos, after, g⟩ av) : QR P h f ⟨dst, .binOp op T x y T', ty, pos, after, g⟩ av := q
theorem g_un {op : UnOp} (q : QR P h f ⟨dst, .unOp op T x, ty, pos, after, g⟩ av) : QR P h f ⟨dst, .unOp op T x, ty, pos, after, g⟩ av := q
theorem g_fieldAddr {k : Nat} (q : QR P h f ⟨dst, .fieldAddr T x k, ty, pos, after, g⟩ av) : QR P h f ⟨dst, .fieldAddr T x k, ty, pos, after, g⟩ av := q
theorem g_field {k : Nat} (q : QR P h f ⟨dst, .field T x k, ty, pos, after, g⟩ av) : QR P h f ⟨dst, .field T x k, ty, pos, after, g⟩ av := q
theorem g_load (q : QR P h f ⟨dst, .load T x, ty, pos, after, g⟩ av) : QR P h f ⟨dst, .load T x, ty, pos, after, g⟩ av := q
theorem g_nilCheck (q : QR P h f ⟨dst, .nilCheck x, ty, pos, after, g⟩ av) : QR P h f ⟨dst, .nilCheck x, ty, pos, after, g⟩ av := q
theorem g_indexAddr (q : QR P h f ⟨dst, .indexAddr T x y, ty, pos, after, g⟩ av) : QR P h f ⟨dst, .indexAddr T x y, ty, pos, after, g⟩ av := q
theorem g_index (q : QR P h f ⟨dst, .index T x y, ty, pos, after, g⟩ av) : QR P h f ⟨dst, .index T x y, ty, pos, after, g⟩ av := q
theorem g_bui {b : Builtin} {aS : Array Operand} {ts : Array TypeId} (q : QR P h f ⟨dst, .call ⟨.builtin b, aS, ts⟩, ty, pos, after, g⟩ av) : QR P h f ⟨dst, .call ⟨.builtin b, aS, ts⟩, ty, pos, after, g⟩ av := q
theorem g_slice {a b c : Option Operand} (q : QR P h f ⟨dst, .slice T x a b c, ty, pos, after, g⟩ av) : QR P h f ⟨dst, .slice T x a b c, ty, pos, after, g⟩ av := q
theorem g_extract {k : Nat} (q : QR P h f ⟨dst, .extract x k, ty, pos, after, g⟩ av) : QR P h f ⟨dst, .extract x k, ty, pos, after, g⟩ av := q
def bitsOk (op : BinOp) (k : IntKind) : Bool := match op, k with
  | .add, .i64 => false
  | .sub, .i64 => false
  | .mul, .i64 => false
  | _, _ => true
theorem qr_bitsN {op : BinOp} {k : IntKind} {a b c : Int} (hx : f x = some (.v (.int k a))) (hy : f y = some (.v (.int k b))) (hk : bitsOk op k = true) (hc : bitsI op k a b = some c) :
    QR P h f ⟨dst, .binOp op T x y T', ty, pos, after, g⟩ (.v (.int k c)) := qr_bits hx hy hc
end
/-- A plain operation, by the rule that fits. -/
theorem qrA {P : Program} {h : List Res} {f : Operand → Option AV} {o : Oper} {av : AV} (hq : QR P h f o av := by
    first
    | (apply g_move; exact qr_move rfl)
    | (apply g_bin; first
      | exact qr_cmp rfl rfl rfl
      | exact qr_ari rfl rfl rfl (by omega)
      | exact qr_shift rfl rfl rfl (by decide)
      | exact qr_bitsN rfl rfl rfl rfl
      | exact qr_eqstr rfl rfl
      | exact qr_nestr rfl rfl
      | exact qr_eqbool rfl rfl rfl
      | exact qr_nebool rfl rfl
      | exact qr_eqagg rfl rfl rfl rfl
      | exact qr_neagg rfl rfl rfl rfl)
    | (apply g_load; first
      | exact qr_load_one rfl rfl
      | exact qr_load_pp_one rfl rfl
      | exact qr_load_rp_one rfl (by assumption) rfl
      | exact qr_load_all rfl rfl
      | exact qr_load_pp_all rfl rfl
      | exact qr_load_agg rfl (Nat.le_of_ble_eq_true rfl)
      | exact qr_load_pp_agg rfl (Nat.le_of_ble_eq_true rfl)
      | exact qr_load_rp_all rfl (by assumption) rfl)
    | (apply g_fieldAddr; first
      | exact qr_fieldAddr rfl (Nat.succ_ne_zero _)
      | exact qr_fieldAddr_pp rfl (Nat.succ_ne_zero _)
      | exact qr_fieldAddr_rp rfl (Nat.succ_ne_zero _)
      | exact qr_fieldAddr_row rfl (Nat.succ_ne_zero _))
    | (apply g_pick; first
      | exact qr_pick_t rfl rfl
      | exact qr_pick_f rfl rfl
      | exact qr_pick_b rfl rfl rfl)
    | (apply g_assign; exact qr_assign rfl)
    | (apply g_indexAddr; first
      | exact qr_index_list rfl rfl (by assumption)
      | exact qr_index_row rfl rfl (by assumption)
      | exact qr_indexAddr_arr rfl rfl (by omega))
    | (apply g_bui; first
      | exact qr_len_list rfl
      | exact qr_len_row rfl
      | exact qr_len_string rfl
      | exact qr_min2 rfl rfl
      | exact qr_max2 rfl rfl
      | exact qr_max3 rfl rfl rfl)
    | (apply g_field; first
      | exact qr_field_one rfl rfl
      | exact qr_field_agg rfl (Nat.le_of_ble_eq_true rfl))
    | (apply g_nilCheck; first
      | exact qr_nilCheck rfl
      | exact qr_nilCheck_pp rfl
      | exact qr_nilCheck_rp rfl)
    | (apply g_un; exact qr_not rfl)
    | (apply g_extract; exact qr_extract rfl rfl)
    | (apply g_slice; first
      | exact qr_slice_string_h rfl rfl (by omega)
      | exact qr_slice_string_l rfl rfl (by omega)
      | exact qr_slice_hm rfl rfl rfl (by omega)
      | exact qr_slice_lh rfl rfl rfl (by omega) (by omega)
      | exact qr_slice_h rfl rfl (by omega)
      | exact qr_slice_l rfl rfl (by omega))
    | (apply g_index; exact qr_index_arr_one rfl rfl (by omega) (by assumption))
    | exact qr_convert rfl rfl
    | exact qr_makeFunc rfl rfl
    | exact qr_build rfl (by rfl)
    | exact qr_buildArr rfl (by rfl)
    | exact qr_entry rfl (by assumption)) : QR P h f o av := hq
section
variable {P : Program} {ro : Option Nat} {nt : Nat} {Q : Exit → St → Prop} {s : St} {c : Operand} {x y : Code}
theorem aw_ct (hc : ev s.t c = some (.v (.bool true))) (h : aw P ro nt x Q s) : aw P ro nt (.cond c x y) Q s := aw_cond hc (fun _ => h) (fun h => by cases h)
theorem aw_cf (hc : ev s.t c = some (.v (.bool false))) (h : aw P ro nt y Q s) : aw P ro nt (.cond c x y) Q s := aw_cond hc (fun h => by cases h) (fun _ => h)
variable {ops : Array Oper} {l : List Oper} {dst : Option Tmp} {T ty : TypeId} {a b : Operand} {pos : String} {after : Array Edge} {g : Option (Nat × Bool)}
theorem a_store (q : aops P ro nt ops (⟨dst, .store T a b, ty, pos, after, g⟩ :: l) Q s) : aops P ro nt ops (⟨dst, .store T a b, ty, pos, after, g⟩ :: l) Q s := q
theorem a_any (q : aops P ro nt ops l Q s) : aops P ro nt ops l Q s := q
theorem a_aw (q : aw P ro nt x Q s) : aw P ro nt x Q s := q
theorem a_thn {e : Exit} {n : St → Prop} (q : thn n Q e s) : thn n Q e s := q
theorem a_blk {e : Exit} {n : Nat} (q : inBlk n Q e s) : inBlk n Q e s := q
theorem a_ds {h : List Res} {S : SB} {sd : List Tmp} {t0 : Fr} {os : List Oper} {e : Fr} {σ : List SI} {K : Fr → List SI → Prop} (q : dsoup P ro nt h S l sd t0 os e σ K) : dsoup P ro nt h S l sd t0 os e σ K := q
theorem a_dm {h : List Res} {dsl : List Nat} {sd : List Tmp} {t0 : Fr} {os : List Oper} {e : Fr} {K : Fr → List (Option CM) → Prop} (q : dsoupM P ro nt h dsl l sd t0 os e K) : dsoupM P ro nt h dsl l sd t0 os e K := q
theorem a_dam {ms : List (Option CM)} {e : Fr} {h : List Res} {K : Fr → List Res → Prop} (q : dallocM l ms e h K) : dallocM l ms e h K := q
theorem a_dal {e : Fr} {h : List Res} {K : Fr → List Res → Prop} (q : dalloc P nt l e h K) : dalloc P nt l e h K := q
theorem q1 {d : Tmp} {op : Op} {t : Fr} {h : List Res} {ds : List Nat} {av : AV} (hk : aops P ro nt ops l Q ⟨(d, av) :: t, h, ds⟩) (hg : gd ops t ⟨some d, op, ty, pos, after, g⟩ = some true := by rfl) (hd : Nat.blt d nt = true := by rfl) (hq : QR P h (ev t) ⟨some d, op, ty, pos, after, g⟩ av := by exact qrA)
    (hn : notDefer ⟨some d, op, ty, pos, after, g⟩ = true := by rfl) : aops P ro nt ops (⟨some d, op, ty, pos, after, g⟩ :: l) Q ⟨t, h, ds⟩ := aops_q hg hd (qv_of_qr hq hn) hk
end
structure Hide (B : Prop) : Prop where
  out : B
/-- As far aS it goes by itself. -/
theorem rn {A B : Prop} (b : B) (hab : Hide B → A := by
    intro hB
    repeat (first
      | (refine a_any ?_; first
        | refine aops_nil ?_
        | refine qq rfl rfl qrA ?_
        | refine qs rfl rfl ?_
        | refine qs0 rfl ?_
        | (refine a_store ?_; first
          | refine aops_e rfl (oe_store_all rfl rfl rfl ?_)
          | refine aops_e rfl (oe_store rfl rfl rfl rfl (Nat.le_of_ble_eq_true rfl) ?_)))
      | (refine a_thn ?_; first
        | refine thn_n ?_
        | refine thn_e ?_
        | refine thn_r ?_)
      | (refine a_aw ?_; first
        | refine aw_seq ?_
        | refine aw_region ?_
        | refine aw_skip ?_
        | refine aw_block ?_
        | refine aw_exit ?_
        | refine aw_ret ?_
        | refine aw_label ?_)
      | (refine a_blk ?_; first
        | refine inBlk_n ?_
        | refine inBlk_r ?_
        | refine inBlk_hit ?_
        | refine inBlk_miss rfl ?_)
      | (refine a_ds ?_; first
        | refine dnil ⟨rfl, ?_⟩
        | refine dq rfl rfl qrA ?_
        | refine ds rfl rfl ?_
        | refine da ?_)
      | (refine a_dal ?_; first
        | refine dalloc_nil ?_
        | refine dalloc_s rfl ?_)
      | (refine a_dm ?_; first
        | refine mq rfl rfl qrA ?_
        | refine ms rfl rfl ?_)
      | (refine a_dam ?_; first
        | refine mal_s ?_
        | refine mal_nil ?_))
    exact hB.out) : A := hab ⟨b⟩
/-- As far aS the next piece of code. -/
theorem rn0 {A B : Prop} (b : B) (hab : Hide B → A := by
    intro hB
    repeat (first
      | (refine a_any ?_; first
        | refine aops_nil ?_
        | refine qq rfl rfl qrA ?_
        | refine qs rfl rfl ?_
        | refine qs0 rfl ?_
        | (refine a_store ?_; first
          | refine aops_e rfl (oe_store_all rfl rfl rfl ?_)
          | refine aops_e rfl (oe_store rfl rfl rfl rfl (Nat.le_of_ble_eq_true rfl) ?_)))
      | (refine a_thn ?_; first
        | refine thn_n ?_
        | refine thn_e ?_
        | refine thn_r ?_)
      | (refine a_blk ?_; first
        | refine inBlk_n ?_
        | refine inBlk_r ?_
        | refine inBlk_hit ?_
        | refine inBlk_miss rfl ?_)
      | (refine a_ds ?_; first
        | refine dnil ⟨rfl, ?_⟩
        | refine dq rfl rfl qrA ?_
        | refine ds rfl rfl ?_
        | refine da ?_)
      | (refine a_dal ?_; first
        | refine dalloc_nil ?_
        | refine dalloc_s rfl ?_)
      | (refine a_dm ?_; first
        | refine mq rfl rfl qrA ?_
        | refine ms rfl rfl ?_)
      | (refine a_dam ?_; first
        | refine mal_s ?_
        | refine mal_nil ?_))
    exact hB.out) : A := hab ⟨b⟩
/-- As far aS the order is open. -/
theorem rn2 {A B : Prop} (b : B) (hab : Hide B → A := by
    intro hB
    repeat (first
      | (refine a_ds ?_; first
        | refine dnil ⟨rfl, ?_⟩
        | refine dq rfl rfl qrA ?_
        | refine ds rfl rfl ?_
        | refine da ?_)
      | (refine a_dal ?_; first
        | refine dalloc_nil ?_
        | refine dalloc_s rfl ?_)
      | (refine a_dm ?_; first
        | refine mq rfl rfl qrA ?_
        | refine ms rfl rfl ?_)
      | (refine a_dam ?_; first
        | refine mal_s ?_
        | refine mal_nil ?_))
    exact hB.out) : A := hab ⟨b⟩
end Go.Ab
